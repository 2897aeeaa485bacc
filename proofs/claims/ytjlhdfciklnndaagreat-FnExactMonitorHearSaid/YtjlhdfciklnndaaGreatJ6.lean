/-
  Contracts: a monitor hears a range, by the book.
-/
import Derived.Test.YtjlhdfciklnndaaGreatJ5
namespace Go.Proofs.YtjlhdfciklnndaaGreat.E
open Go Go.RowKit
set_option maxHeartbeats 4000000
set_option maxRecDepth 10000
set_option linter.unusedSimpArgs false
set_option linter.unusedVariables false
set_option linter.unusedSectionVars false
def dcJ6 : Dec := ⟨[(69, .cn [false, false]), (70, .cn [false, true]), (71, .cn [false, false, false]), (179, .cn [false])], [9, 10, 11], [27, 30, 44, 45, 46, 58, 68, 78, 79, 86, 101, 112, 113, 132, 174, 196, 247, 249, 351, 356], false⟩

def wZ : List AV := [.sc (.int .i64 0), .sc (.int .i64 0), .sc (.int .i64 0), .sc (.int .i64 0), .sc (.int .i64 0), .sc (.int .u64 0), .sc (.int .u64 0), .sc (.int .u64 0), .sc (.int .u64 0), .nilS, .sc (.int .i64 0), .sc (.int .u64 0), .sc (.int .u64 0), .sc (.int .u64 0), .sc (.int .u64 0), .nilS, .sc (.int .i64 0), .sc (.int .u64 0), .sc (.int .u64 0), .sc (.int .u64 0), .sc (.int .u64 0), .nilS, .nilS, .nilS, .nilS]
attribute [go_sem] wZ
theorem c69_c (m : MMon) (x : MMsg) (h : MRok m) (hx : leavesOk x.leaves = true) (hxl : x.leaves.length ≤ 1000) : CallM Tryz.prog 69 [] [m.ro, x.ro] (mRange m x).av (mRange m x).out := by
  refine use_of dcJ6 false Tryz.f69 ?_
  conv => enter [1]; reduce
  refine jvM Tryz.f69 101 [.cell 4 48] (by kernel_rfl) (by decide +kernel) rfl ?_
  have hp := h.p
  have hd := h.d
  obtain ⟨hl1, hl2⟩ := mLeavesOk_of h.l
  have hA := rAll_ok h hx
  have hAl := rAll_len m x.leaves
  have hmc := c179_c m h.a (by omega)
  have hcp := c180_c m.leaves (by omega)
  have hro := c126_c (rAll m x.leaves) hA
  unfold mRange
  simp -implicitDefEqProofs only [go_sem]
  refine WantM.intro hmc ?_
  by_cases a : x.from_ = m.leaves.length
  · have a' : (x.from_ != (m.leaves.length : Int)) = false := by rw [bne_eq_false_iff_eq]; exact a
    by_cases b : m.cl.pin.size ≤ m.leaves.length
    · have b' : (m.leaves.length : Int) ≥ m.cl.pin.size := by omega
      rw [if_pos (.inr (.inl b))]
      simp -implicitDefEqProofs only [go_sem, a', b', guardP_tf, guardP_ff, guardP_ft, guardP_tt, condJ_true, condJ_false]
    · have b' : ¬ ((m.leaves.length : Int) ≥ m.cl.pin.size) := by omega
      cases c : x.leaves with
      | nil =>
        rw [if_pos (.inr (.inr rfl))]
        simp -implicitDefEqProofs only [go_sem, a', b', c, z0, beq_self_eq_true, guardP_tf, guardP_ff, guardP_ft, guardP_tt, condJ_true, condJ_false]
      | cons y ys =>
        have c0 : x.leaves ≠ [] := by rw [c]; simp
        have c' : ((x.leaves.length : Int) == 0) = false := by rw [c]; simp; omega
        rw [← c]
        clear c
        rw [if_neg (by simp only [not_or]; exact ⟨fun e => e a, b, c0⟩)]
        simp -implicitDefEqProofs only [go_sem, a', b', c', Nat.sub_zero, List.drop_zero, Int.toNat_zero, guardP_tf, guardP_ff, guardP_ft, guardP_tt, condJ_true, condJ_false]
        refine Want.intro hcp ?_
        have hr0 : ∀ X : List ByteArray, X = m.leaves → (.blk 7 0 [] 1 0 X.length : AV) = .blk 7 0 [] 1 0 m.leaves.length := fun X e => by rw [e]
        simp -implicitDefEqProofs only [go_sem]
        refine jv_lp (fun k s => ∃ i : Nat, i ≤ min (m.cl.pin.size - m.leaves.length).toNat x.leaves.length ∧ k = x.leaves.length - i ∧ s = ⟨101, [(2, .ptr 2 0 [] 21 0 0), (3, .ptr 3 0 [] 11 0 0), (4, .ptr 4 0 [] 25 0 0), (5, .ptr 5 0 [] 25 0 0), (6, .ptr 6 0 [] 5 0 0), (7, .blk 7 0 [] 1 0 (m.leaves ++ x.leaves.take i).length), (8, vI i)], [(2, 0, one ⟨21, [m.cs (.ro 1 (m.cl.acks.map intC)) (.ro 1 (m.leaves.map leafCs))], 0, false⟩), (3, 0, one ⟨11, [x.roC], 0, false⟩), (4, 0, one ⟨25, [wZ], 0, false⟩), (5, 0, one ⟨25, [m.cs (.blk 10005 0 [] 1 0 m.cl.acks.length) (.blk 20005 0 [] 1 0 m.leaves.length) ++ [.nilS, .nilS, .nilS, .nilS]], 0, false⟩), (10005, 0, one ⟨1, m.cl.acks.map intC, 2, false⟩), (20005, 0, one ⟨1, m.leaves.map leafCs, 2, false⟩), (6, 0, one ⟨5, [m.cl.pin.cs], 0, false⟩), (7, 0, one ⟨1, (m.leaves ++ x.leaves.take i).map leafCs, 2, false⟩)], 1⟩) x.leaves.length ?_ ?_
        · simp -implicitDefEqProofs only [go_sem]
          exact ⟨0, Nat.zero_le _, rfl, by rw [List.take_zero, List.append_nil]; rfl⟩
        · rintro k s ⟨i, hi, rfl, rfl⟩
          have hiI : i ≤ x.leaves.length := by omega
          have hli : (m.leaves ++ x.leaves.take i).length = m.leaves.length + i := by rw [List.length_append, List.length_take]; omega
          rcases Nat.lt_or_ge i (min (m.cl.pin.size - m.leaves.length).toNat x.leaves.length) with hlt | hge
          · have hltx : i < x.leaves.length := by omega
            have k1 : (i : Int) < (x.leaves.length : Int) := by omega
            have k2 : ((m.leaves ++ x.leaves.take i).length : Int) < m.cl.pin.size := by omega
            have hg : x.leaves[i]? = some x.leaves[i] := List.getElem?_eq_getElem hltx
            have hw : IntKind.i64.wrap ((i : Int) + 1) = ((i + 1 : Nat) : Int) := by rw [wrS (by omega)]; omega
            have ha : ∀ z, _ := fun z => app_ok (E := leafCs) (l := m.leaves ++ x.leaves.take i) (xs := [z]) (b := 16) (n := 10000) (by simp only [List.length_append, List.length_take, List.length_cons, List.length_nil]; omega) (by omega) (by omega)
            have hs : m.leaves ++ x.leaves.take (i + 1) = (m.leaves ++ x.leaves.take i) ++ [x.leaves[i]] := by rw [take_step hltx, List.append_assoc]
            have hi1 : i + 1 ≤ min (m.cl.pin.size - m.leaves.length).toNat x.leaves.length := hlt
            have hms : x.leaves.length - (i + 1) < x.leaves.length - i := by omega
            generalize hLe : m.leaves ++ x.leaves.take i = L at *
            simp -implicitDefEqProofs only [go_sem, k1, k2, hg, hw, ha, Bool.and_self, guardP_tf, guardP_ff, guardP_ft, guardP_tt, condJ_true, condJ_false]
            refine ⟨_, hms, i + 1, hi1, rfl, ?_⟩
            rw [hs]
            simp only [List.map_append, List.length_append, List.length_map, List.map_cons, List.map_nil, List.length_cons, List.length_nil, leafCs]
            try rfl
          · have hik : i = min (m.cl.pin.size - m.leaves.length).toNat x.leaves.length := by omega
            have hAe : m.leaves ++ x.leaves.take i = rAll m x.leaves := by
              unfold rAll
              rw [hik]
              congr 1
              rw [← List.take_take, List.take_length]
            have hAm := (mLeavesOk_of hA).1
            rw [hAe] at hli
            rw [hAe]
            generalize rAll m x.leaves = A at *
            have e1 : ¬ ((i : Int) < (x.leaves.length : Int) ∧ (A.length : Int) < m.cl.pin.size) := by omega
            have hAg : m.leaves.length ≤ A.length := by omega
            by_cases d : (A.length : Int) < m.cl.pin.size
            · have e2 : ¬ ((i : Int) < (x.leaves.length : Int)) := fun h => e1 ⟨h, d⟩
              rw [if_pos d]
              simp -implicitDefEqProofs only [go_sem, e2, d, guardP_tf, guardP_ff, guardP_ft, guardP_tt, condJ_true, condJ_false]
            · rw [if_neg d]
              rcases Nat.lt_or_ge i x.leaves.length with e3 | e3
              case' inl => have e2 : (i : Int) < (x.leaves.length : Int) := by omega
              case' inr => have e2 : ¬ ((i : Int) < (x.leaves.length : Int)) := by omega
              all_goals
                simp -implicitDefEqProofs only [go_sem, d, e2, guardP_tf, guardP_ff, guardP_ft, guardP_tt, condJ_true, condJ_false]
                refine Want.intro hro ?_
                generalize mRoot A = R at *
                cases e : eqDg R.dig m.cl.pin.root with
                | true =>
                  rw [if_pos rfl]
                  have e' := e
                  unfold eqDg BD.dig at e'
                  simp -implicitDefEqProofs only [go_sem, e', Bool.true_and, Bool.and_self, condJ_true, condJ_false]
                | false =>
                  rw [if_neg (by simp)]
                  have e' := e
                  unfold eqDg BD.dig at e'
                  have k6 : (0 : Int) ≤ m.done.size ∧ m.done.size ≤ (A.length : Int) := by omega
                  have hct := c180_c (A.take m.done.size.toNat) (by rw [List.length_take]; omega)
                  have hif : ∀ (y : Option (Sig × AV)), ifLe m.done.size.toNat A.length y = y := fun y => ifLe_pos (by omega)
                  simp -implicitDefEqProofs only [go_sem, e', k6, hif, Bool.true_and, Bool.and_self, condJ_true, condJ_false, Nat.sub_zero, List.drop_zero, Int.toNat_zero]
                  refine Want.intro hct ?_
                  simp -implicitDefEqProofs only [go_sem]
                  rfl
  · have a' : (x.from_ != (m.leaves.length : Int)) = true := by rw [bne_iff_ne]; exact a
    rw [if_pos (.inl a)]
    simp -implicitDefEqProofs only [go_sem, a', guardP_tf, guardP_ff, guardP_ft, guardP_tt, condJ_true, condJ_false]
theorem c12_c (m : MMon) (me : Int) (l : MLet) (h1 : m.cl.acks.length ≤ maxLen) (h2 : m.leaves.length ≤ maxLen) : CallM Tryz.prog 12 [] [m.ro, vI me, .agg l.cs] (mMHear m me l).av (mMHear m me l).out := by
  refine use_of dcJ6 false Tryz.f12 ?_
  conv => enter [1]; reduce
  refine jvM Tryz.f12 52 [.cell 6 48] (by kernel_rfl) (by decide +kernel) rfl ?_
  unfold mMHear
  simp -implicitDefEqProofs only [go_sem]
  refine Want.intro (c67_c m h1 h2) ?_
  cases a1 : mMonOk m with
  | false =>
    simp -implicitDefEqProofs only [go_sem, a1, Bool.not_false, guardP_tf, guardP_ff, guardP_ft, guardP_tt, condJ_true, condJ_false]
    exact ⟨rfl, rfl⟩
  | true =>
    obtain ⟨hr, hpl⟩ := monOk_r a1
    have hp := hr.p
    have ha := hr.a
    have hln := (mLeavesOk_of hr.l).1
    simp -implicitDefEqProofs only [go_sem, a1, Bool.not_true, guardP_tf, guardP_ff, guardP_ft, guardP_tt, condJ_true, condJ_false]
    refine Want.intro (c68_c me) ?_
    cases a3 : mIn me 1 20 with
    | false =>
      simp -implicitDefEqProofs only [go_sem, Bool.not_false, Bool.and_false, Bool.false_and, guardP_tf, guardP_ff, guardP_ft, guardP_tt, condJ_true, condJ_false]
      exact ⟨rfl, rfl⟩
    | true =>
      simp -implicitDefEqProofs only [go_sem, Bool.not_true, guardP_tf, guardP_ff, guardP_ft, guardP_tt, condJ_true, condJ_false]
      refine Want.intro (c52_c l) ?_
      cases a2 : mLetOk l with
      | false =>
        simp -implicitDefEqProofs only [go_sem, Bool.not_false, Bool.and_false, Bool.false_and, guardP_tf, guardP_ff, guardP_ft, guardP_tt, condJ_true, condJ_false]
        exact ⟨rfl, rfl⟩
      | true =>
        have hsz : l.text.size ≤ 600 := by
          simp only [mLetOk, Bool.and_eq_true, decide_eq_true_eq] at a2
          omega
        simp -implicitDefEqProofs only [go_sem, Bool.not_true, Bool.and_self, guardP_tf, guardP_ff, guardP_ft, guardP_tt, condJ_true, condJ_false]
        refine Want.intro (c55_c l.text (by omega)) ?_
        have hwl := mWire_len l.text
        have hws := wire_leaves (s := l.text)
        generalize hW : mWireRead l.text = W at *
        obtain ⟨x, code, at_⟩ := W
        simp only at hwl hws
        have hMH := c71_c m.cl me l h1
        cases b1 : (code == 0) <;> cases b2 : (x.kind == 8) <;> cases b3 : (l.from_ == 0)
        all_goals simp -implicitDefEqProofs only [go_sem, b1, b2, b3, Bool.and_true, Bool.and_false, Bool.true_and, Bool.false_and, guardP_tf, guardP_ff, guardP_ft, guardP_tt, condJ_true, condJ_false]
        all_goals first
          | (refine WantM.intro hMH ?_
             generalize mHear m.cl me l = T
             simp -implicitDefEqProofs only [go_sem]
             refine WantM.intro (c70_c m T ha (by omega)) ?_
             simp -implicitDefEqProofs only [go_sem]
             done)
          | (have hc0 : code = 0 := by simpa using b1
             refine WantM.intro (c69_c m x hr (hws hc0) hwl.2) ?_
             generalize mRange m x = T
             simp -implicitDefEqProofs only [go_sem]
             first | done | exact ⟨rfl, rfl⟩)
          | trace_state
end Go.Proofs.YtjlhdfciklnndaaGreat.E
