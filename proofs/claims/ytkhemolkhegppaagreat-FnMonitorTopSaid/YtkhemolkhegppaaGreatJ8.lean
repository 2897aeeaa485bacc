/-
  Contracts: the letters to a monitor that are drawn.
-/
import Derived.Test.YtkhemolkhegppaaGreatJ7
import Derived.Test.YtkhemolkhegppaaGreatMP
namespace Go.Proofs.YtkhemolkhegppaaGreat.E
open Go Go.RowKit
set_option maxHeartbeats 4000000
set_option maxRecDepth 10000
set_option linter.unusedSimpArgs false
set_option linter.unusedVariables false
set_option linter.unusedSectionVars false
def dcJ8 : Dec := ⟨[(31, .cm [true]), (32, .cm [true, false]), (55, .cm [false]), (56, .cm [true, false]), (57, .cm [true, false]), (58, .cm [true, true, false]), (59, .cm [true, true]), (117, .cm [true, true]), (118, .cm [true, true])], [9, 10, 11], [22, 26, 38, 50, 57, 58, 59, 93, 207], false⟩


def MMon.avK (m : MMon) (a b : Nat) : AV := .agg (m.cs (.blk a 0 [] 1 0 m.cl.acks.length) (.blk b 0 [] 1 0 m.leaves.length))
attribute [go_sem] MMon.avK
def Dr.r5 (r : Dr) (m : MMon) : Sig := [(1000000, 0, one ⟨1, [[.ptr 1000003 0 [] 1 0 0]], 0, false⟩), (1000001, 0, one m.cl.ar), (1000002, 0, one m.lr), (1000003, 0, one ⟨1, [[.ptr 1000004 0 [] 2 0 0]], 0, false⟩), (1000004, 0, one ⟨2, [r.cs], 0, false⟩)]
attribute [go_sem] Dr.r5
inductive SpM (m : MMon) (r : Dr) : AV → Sig → Prop
  | a : SpM m r (m.avK 1000001 1000002) (r.r5 m)
  | b : SpM m r (m.avK 0 1000002) [(1000000, 0, one ⟨1, [[.ptr 1000003 0 [] 1 0 0]], 0, false⟩), (1000002, 0, one m.lr), (1000003, 0, one ⟨1, [[.ptr 1000004 0 [] 2 0 0]], 0, false⟩), (1000004, 0, one ⟨2, [r.cs], 0, false⟩), (0, 0, one m.cl.ar)]
  | c : SpM m r (m.avK 1000001 0) [(1000000, 0, one ⟨1, [[.ptr 1000003 0 [] 1 0 0]], 0, false⟩), (1000001, 0, one m.cl.ar), (1000003, 0, one ⟨1, [[.ptr 1000004 0 [] 2 0 0]], 0, false⟩), (1000004, 0, one ⟨2, [r.cs], 0, false⟩), (0, 0, one m.lr)]
structure DMo2 (m : MMon) : Prop where
  a : m.cl.acks.length ≤ 30
  l : m.leaves.length ≤ 100
def PostSM (r : Dr) (res : AV) (σ : Sig) : Prop := ∃ (m : MMon) (r' : Dr), SpM m r' res σ ∧ DMo2 m ∧ r'.ok (r.p + 1000)
theorem c59_c (r : Dr) (m : MMon) (h : r.ok 500000000) (hm : DMo m) : ∃ res σ, PostSM r res σ ∧ CallM Tryz.prog 59 (r.r5 m) [vL, m.avK 1000001 1000002] res σ := by
  refine use_of dcJ8 false Tryz.f59 ?_
  conv => enter [1]; reduce
  refine jvX Tryz.f59 57 [.cell 4 54] (PostSM r) (by kernel_rfl) (by decide +kernel) (by kernel_rfl) rfl ?_
  have hp := h.2
  have hb := h.1
  have hma := hm.c.l
  have hml := hm.l
  have ok : ∀ i, i ≤ 1000 → (r.adv i).ok 1000000000 := fun i hi => (h.adv i).le (by omega)
  have p5 : 0 ≤ pk r 5 ∧ pk r 5 < 5 := pick_lt (ok 0 (by omega)) (n := 5) (by omega)
  simp -implicitDefEqProofs only [go_sem]
  refine WantM.intro (pickM 5 (ok 0 (by omega))) ?_
  simp -implicitDefEqProofs only [go_sem]
  generalize hK : pk r 5 = K at *
  have hk8 : K = 0 ∨ K = 1 ∨ K = 2 ∨ K = 3 ∨ K = 4 := by omega
  rcases hk8 with rfl | rfl | rfl | rfl | rfl
  all_goals simp -implicitDefEqProofs only [go_sem, condJ_true, condJ_false]
  · obtain ⟨res, σ, ⟨c', r', hf, hd', hr'⟩, hcall⟩ := c118_c r.nx m.cl (h.nx.le (by omega)) hm.c
    refine WantM.intro hcall ?_
    have hl' := hd'.l
    have hr2 := hr'.2
    have hnx : r.nx.p = r.p + 1 := rfl
    cases hf
    all_goals simp -implicitDefEqProofs only [go_sem]
    · refine RetAt.intro _ _ ⟨⟨c', m.leaves, m.done⟩, r', .a, ⟨hl', by show m.leaves.length ≤ 100; omega⟩, hr'.1, by omega⟩ ?_
      simp -implicitDefEqProofs only [go_sem]
      first | done | rfl | exact ⟨rfl, rfl⟩ | trace_state
    · refine RetAt.intro _ _ ⟨⟨c', m.leaves, m.done⟩, r', .b, ⟨hl', by show m.leaves.length ≤ 100; omega⟩, hr'.1, by omega⟩ ?_
      simp -implicitDefEqProofs only [go_sem]
      first | done | rfl | exact ⟨rfl, rfl⟩ | trace_state
  · refine Want.intro (c111_c m.leaves (by omega)) ?_
    have ha : ∀ x, _ := fun x => app_ok (E := leafCs) (l := m.leaves) (xs := [x]) (b := 16) (n := 1000) (by simp; omega) (by omega) (by omega)
    simp -implicitDefEqProofs only [go_sem, ha]
    refine RetAt.intro _ _ ⟨⟨m.cl, m.leaves ++ [⟨#[122]⟩], m.done⟩, r.adv 1, .c, ⟨by show m.cl.acks.length ≤ 30; omega, by show (m.leaves ++ [_]).length ≤ 100; simp; omega⟩, hb, by show r.p + 1 ≤ _; omega⟩ ?_
    simp -implicitDefEqProofs only [go_sem]
    exact ⟨by simp [leafCs], by simp [leafCs]⟩
  · obtain ⟨b, hbb⟩ : ∃ b : Nat, IntKind.u64.wrap ((m.done.root.a : Int) + 1) = (b : Int) := ⟨_, (u64_nat _).1⟩
    simp -implicitDefEqProofs only [go_sem, hbb]
    refine RetAt.intro _ _ ⟨⟨m.cl, m.leaves, ⟨m.done.size, ⟨b, m.done.root.b, m.done.root.c, m.done.root.d⟩⟩⟩, r.adv 1, .a, ⟨by show m.cl.acks.length ≤ 30; omega, by show m.leaves.length ≤ 100; omega⟩, hb, by show r.p + 1 ≤ _; omega⟩ ?_
    simp -implicitDefEqProofs only [go_sem]
    first | done | rfl | exact ⟨rfl, rfl⟩ | trace_state
  · refine WantM.intro (pickM 3 (ok 1 (by omega))) ?_
    simp -implicitDefEqProofs only [go_sem]
    generalize hX : IntKind.i64.wrap (IntKind.i64.wrap (m.done.size + 1) - pk (r.adv 1) 3) = X
    refine RetAt.intro _ _ ⟨⟨m.cl, m.leaves, ⟨X, m.done.root⟩⟩, r.adv 2, .a, ⟨by show m.cl.acks.length ≤ 30; omega, by show m.leaves.length ≤ 100; omega⟩, hb, by show r.p + 2 ≤ _; omega⟩ ?_
    simp -implicitDefEqProofs only [go_sem]
    first | done | rfl | exact ⟨rfl, rfl⟩ | trace_state
  · refine RetAt.intro _ _ ⟨⟨m.cl, m.leaves, .zero⟩, r.adv 1, .a, ⟨by show m.cl.acks.length ≤ 30; omega, by show m.leaves.length ≤ 100; omega⟩, hb, by show r.p + 1 ≤ _; omega⟩ ?_
    simp -implicitDefEqProofs only [go_sem]
    first | done | rfl | exact ⟨rfl, rfl⟩ | trace_state
def lmH (r : Dr) (m : MMon) (x : Sig) : Sig := [(1000000, 0, one ⟨1, [[.ptr 1000003 0 [] 1 0 0]], 0, false⟩), (1000001, 0, one m.cl.ar), (1000002, 0, one m.lr), (1000003, 0, one ⟨1, [[.ptr 1000004 0 [] 2 0 0]], 0, false⟩), (1000004, 0, one ⟨2, [r.cs], 0, false⟩), (6, 0, one ⟨3, [zLt], 0, false⟩)] ++ x
attribute [go_sem] lmH
def PostLm (m : MMon) (r : Dr) (res : AV) (σ : Sig) : Prop := ∃ (x : MLet) (r' : Dr), (res = .agg x.cs ∧ σ = r'.r5 m) ∧ r'.ok (r.p + 3000)
theorem c58_c (r : Dr) (m : MMon) (l : List ByteArray) (h : r.ok 500000000) (hm : DMo m) (hz : l.length ≤ 80) : ∃ res σ, PostLm m r res σ ∧ CallM Tryz.prog 58 (r.r5 m) [vL, m.avK 1000001 1000002, .ro 1 (l.map leafCs)] res σ := by
  refine use_of dcJ8 true Tryz.f58 ?_
  conv => enter [1]; reduce
  refine jvX Tryz.f58 85 [.cell 6 30] (PostLm m r) (by kernel_rfl) (by decide +kernel) (by kernel_rfl) rfl ?_
  have hp := h.2
  have hb := h.1
  have hma := hm.c.l
  have hml := hm.l
  have ok : ∀ i, i ≤ 1000 → (r.adv i).ok 1000000000 := fun i hi => (h.adv i).le (by omega)
  simp -implicitDefEqProofs only [go_sem]
  refine WantM.intro (pickM 3 (ok 0 (by omega))) ?_
  simp -implicitDefEqProofs only [go_sem]
  refine condJ_intro (fun g => ?_) (fun g => ?_)
  · obtain ⟨res, σ, ⟨x, r', ⟨rfl, rfl⟩, hr'⟩, hcall⟩ := c117_c (r.adv 1) m.cl ((h.adv 1).le (by omega)) hm.c
    have hr2 := hr'.2
    have hnx : (r.adv 1).p = r.p + 1 := rfl
    simp -implicitDefEqProofs only [go_sem, g]
    refine WantM.intro hcall ?_
    simp -implicitDefEqProofs only [go_sem]
    refine RetAt.intro _ _ ⟨x, r', ⟨rfl, rfl⟩, hr'.1, by omega⟩ ?_
    simp -implicitDefEqProofs only [go_sem]
    first | done | rfl | exact ⟨rfl, rfl⟩ | trace_state
  · simp -implicitDefEqProofs only [go_sem, g]
    refine ct_intro [2, 6, 7, 8] [] (fun s => ∃ (v : Nat) (R : Dr), v ≤ 80 ∧ R.ok (r.p + 10) ∧ s = ⟨85, [(2, .ro 1 (l.map leafCs)), (6, .ptr 6 0 [] 3 0 0), (7, .ptr 1000004 0 [] 2 0 0), (8, vI v)], lmH R m [], 1⟩) ?_ ?_
    · simp -implicitDefEqProofs only [go_sem]
      have w1 : IntKind.i64.wrap ((l.length : Int) + 1) = ((l.length + 1 : Nat) : Int) := by rw [wrS (by omega)]; omega
      have q1 : 0 ≤ pk (r.adv 2) ((l.length + 1 : Nat) : Int) ∧ pk (r.adv 2) ((l.length + 1 : Nat) : Int) < ((l.length + 1 : Nat) : Int) := pick_lt (ok 2 (by omega)) (n := ((l.length + 1 : Nat) : Int)) (by omega)
      obtain ⟨u, hu⟩ : ∃ u : Nat, pk (r.adv 2) ((l.length + 1 : Nat) : Int) = u := ⟨(pk (r.adv 2) ((l.length + 1 : Nat) : Int)).toNat, by omega⟩
      refine WantM.intro (pickM 6 (ok 1 (by omega))) ?_
      simp -implicitDefEqProofs only [go_sem]
      refine condJ_intro (fun g => ?_) (fun g => ?_)
      · simp -implicitDefEqProofs only [go_sem, g, w1]
        refine WantM.intro (pickM _ (ok 2 (by omega))) ?_
        rw [hu]
        simp -implicitDefEqProofs only [go_sem]
        exact ⟨u, r.adv 3, by omega, ⟨hb, by show r.p + 3 ≤ _; omega⟩, rfl⟩
      · simp -implicitDefEqProofs only [go_sem, g]
        exact ⟨m.leaves.length, r.adv 2, by omega, ⟨hb, by show r.p + 2 ≤ _; omega⟩, rfl⟩
    · clear ok
      rintro s ⟨v, R, hv, hR, rfl⟩
      have hRp := hR.2
      have hRb := hR.1
      have ok : ∀ i, i ≤ 1000 → (R.adv i).ok 1000000000 := fun i hi => (hR.adv i).le (by omega)
      have q9 : 0 ≤ pk R 9 ∧ pk R 9 < 9 := pick_lt (ok 0 (by omega)) (n := 9) (by omega)
      obtain ⟨u, hu⟩ : ∃ u : Nat, pk R 9 = u := ⟨(pk R 9).toNat, by omega⟩
      have w2 : IntKind.i64.wrap ((v : Int) + (u : Int)) = ((v + u : Nat) : Int) := by rw [wrS (by omega)]; omega
      have w3 : IntKind.i64.wrap ((v : Int) + 8) = ((v + 8 : Nat) : Int) := by rw [wrS (by omega)]; omega
      simp -implicitDefEqProofs only [go_sem]
      refine WantM.intro (pickM 9 (ok 0 (by omega))) ?_
      rw [hu]
      simp -implicitDefEqProofs only [go_sem, w2]
      refine ct_intro [2, 6, 7, 8, 9] [] (fun s => ∃ (t : Nat), v ≤ t ∧ t ≤ 100 ∧ s = ⟨85, [(2, .ro 1 (l.map leafCs)), (6, .ptr 6 0 [] 3 0 0), (7, .ptr 1000004 0 [] 2 0 0), (8, vI v), (9, vI t)], lmH (R.adv 2) m [], 1⟩) ?_ ?_
      · simp -implicitDefEqProofs only [go_sem]
        refine WantM.intro (pickM 2 (ok 1 (by omega))) ?_
        simp -implicitDefEqProofs only [go_sem]
        refine condJ_intro (fun g => ?_) (fun g => ?_)
        · simp -implicitDefEqProofs only [go_sem, g, w3]
          exact ⟨v + 8, by omega, by omega, rfl⟩
        · simp -implicitDefEqProofs only [go_sem, g]
          exact ⟨v + u, by omega, by omega, rfl⟩
      · rintro s ⟨t, ht, ht2, rfl⟩
        refine ct_intro [2, 6, 7, 8, 9] [] (fun s => ∃ (t : Nat), t ≤ l.length ∧ s = ⟨85, [(2, .ro 1 (l.map leafCs)), (6, .ptr 6 0 [] 3 0 0), (7, .ptr 1000004 0 [] 2 0 0), (8, vI v), (9, vI t)], lmH (R.adv 2) m [], 1⟩) ?_ ?_
        · simp -implicitDefEqProofs only [go_sem]
          refine condJ_intro (fun g => ?_) (fun g => ?_)
          · simp -implicitDefEqProofs only [go_sem, g]
            exact ⟨l.length, Nat.le_refl _, rfl⟩
          · simp -implicitDefEqProofs only [go_sem, g]
            have g' := of_decide_eq_false g
            exact ⟨t, by omega, rfl⟩
        · clear ht ht2
          clear t
          rintro s ⟨t, ht, rfl⟩
          refine ct_intro [2, 6, 7, 8, 9] [] (fun s => ∃ (v : Nat), v ≤ t ∧ s = ⟨85, [(2, .ro 1 (l.map leafCs)), (6, .ptr 6 0 [] 3 0 0), (7, .ptr 1000004 0 [] 2 0 0), (8, vI v), (9, vI t)], lmH (R.adv 2) m [], 1⟩) ?_ ?_
          · simp -implicitDefEqProofs only [go_sem]
            refine condJ_intro (fun g => ?_) (fun g => ?_)
            · simp -implicitDefEqProofs only [go_sem, g]
              exact ⟨t, Nat.le_refl _, rfl⟩
            · simp -implicitDefEqProofs only [go_sem, g]
              have g' := of_decide_eq_false g
              exact ⟨v, by omega, rfl⟩
          · clear w2 w3 hv
            clear v
            rintro s ⟨v, hv, rfl⟩
            have k1 : 0 ≤ (v : Int) ∧ (v : Int) ≤ (t : Int) := by omega
            have k2 : (t : Int) ≤ (l.length : Int) := by omega
            have k3 : t - v + v = t := by omega
            have k4 : v + (t - v) = t := by omega
            have hX : ((l.drop v).take (t - v)).length ≤ 80 := by rw [List.length_take, List.length_drop]; omega
            have hcp := c111_c ((l.drop v).take (t - v)) (by omega)
            simp -implicitDefEqProofs only [go_sem, k1, k2, k3, k4, ht]
            refine Want.intro hcp ?_
            generalize (l.drop v).take (t - v) = X at *
            simp -implicitDefEqProofs only [go_sem]
            refine ct_intro [6, 7, 10] [] (fun s => ∃ (X : List ByteArray) (Q : Dr), X.length ≤ 80 ∧ Q.ok (r.p + 50) ∧ s = ⟨85, [(6, .ptr 6 0 [] 3 0 0), (7, .ptr 1000004 0 [] 2 0 0), (10, .ptr 10 0 [] 11 0 0)], lmH Q m [(10, 0, one ⟨11, [[.sc (.int .i64 8), .sc (.int .i64 0), vI v, .sc (.int .i64 0), .sc (.int .u64 0), .sc (.int .u64 0), .sc (.int .u64 0), .sc (.int .u64 0), .sc (.int .i64 0), .nilS, .blk 10010 0 [] 1 0 X.length]], 0, false⟩), (10010, 0, one ⟨1, X.map leafCs, 2, false⟩)], 1⟩) ?_ ?_
            · simp -implicitDefEqProofs only [go_sem]
              refine WantM.intro (pickM 8 (ok 2 (by omega))) ?_
              simp -implicitDefEqProofs only [go_sem]
              refine guardP_intro (fun g2 => ?_) (fun g2 => ?_)
              · simp -implicitDefEqProofs only [go_sem, g2]
                refine condJ_intro (fun g3 => ?_) (fun g3 => ?_)
                · have gX : 0 < X.length := by have := of_decide_eq_true g3; omega
                  have qX : 0 ≤ pk (R.adv 3) X.length ∧ pk (R.adv 3) X.length < (X.length : Int) := pick_lt (ok 3 (by omega)) (n := (X.length : Int)) (by omega)
                  obtain ⟨u, hu⟩ : ∃ u : Nat, pk (R.adv 3) X.length = u := ⟨(pk (R.adv 3) X.length).toNat, by omega⟩
                  have hu1 : (u : Int) < (X.length : Int) := by omega
                  have hu2 : u < X.length := by omega
                  have hgu : X[u]? = some X[u] := List.getElem?_eq_getElem hu2
                  simp -implicitDefEqProofs only [go_sem, g3]
                  refine WantM.intro (pickM _ (ok 3 (by omega))) ?_
                  rw [hu]
                  simp -implicitDefEqProofs only [go_sem, hu1, hu2, hgu]
                  refine ⟨X.set u ⟨#[33]⟩, R.adv 4, by rw [List.length_set]; omega, ⟨hRb, by show R.p + 4 ≤ _; omega⟩, ?_⟩
                  rw [List.length_set, List.map_set]
                  rfl
                · simp -implicitDefEqProofs only [go_sem, g3]
                  exact ⟨X, R.adv 3, hX, ⟨hRb, by show R.p + 3 ≤ _; omega⟩, rfl⟩
              · simp -implicitDefEqProofs only [go_sem, g2, condJ_false]
                exact ⟨X, R.adv 3, hX, ⟨hRb, by show R.p + 3 ≤ _; omega⟩, rfl⟩
            · clear hX hcp
              clear X
              rintro s ⟨X, Q, hX, hQ, rfl⟩
              have hQp := hQ.2
              have hQb := hQ.1
              have okQ : ∀ i, i ≤ 1000 → (Q.adv i).ok 1000000000 := fun i hi => (hQ.adv i).le (by omega)
              have q12 : 0 ≤ pk Q 12 ∧ pk Q 12 < 12 := pick_lt (okQ 0 (by omega)) (n := 12) (by omega)
              have w5 : IntKind.i64.wrap ((pk Q 12).tdiv 11) = (pk Q 12).tdiv 11 := by
                rw [Int.tdiv_eq_ediv_of_nonneg q12.1]
                exact wrS (by omega)
              have hwr := wbR v X (by unfold maxLen; omega)
              generalize mWireBytes (mRng v X) = B at *
              simp -implicitDefEqProofs only [go_sem]
              refine WantM.intro (pickM 12 (okQ 0 (by omega))) ?_
              simp -implicitDefEqProofs only [go_sem, w5]
              refine Want.intro hwr ?_
              simp -implicitDefEqProofs only [go_sem]
              refine RetAt.intro _ _ ⟨⟨(pk Q 12).tdiv 11, 0, B⟩, Q.adv 1, ⟨rfl, rfl⟩, hQb, by show Q.p + 1 ≤ _; omega⟩ ?_
              simp -implicitDefEqProofs only [go_sem]
              first | done | rfl | exact ⟨rfl, rfl⟩ | trace_state
def dmH (m : MMon) (x : Sig) : Sig := [(2, 0, one ⟨21, [zMo], 0, false⟩), (4, 0, one ⟨3, [zLt], 0, false⟩), (7, 0, one ⟨21, [m.cs (.blk 10007 0 [] 1 0 m.cl.acks.length) (.blk 20007 0 [] 1 0 m.leaves.length)], 0, false⟩), (10007, 0, one m.cl.ar), (20007, 0, one m.lr)] ++ x
attribute [go_sem] dmH
def PostMH (res : AV) (σ : Sig) : Prop := ∃ (m : MMon) (me : Int) (x : MLet), (res = .tup [m.avC, vI me, .agg x.cs] ∧ σ = m.outC) ∧ DMo2 m ∧ (me = 21 ∨ me = 9)
theorem DMo.two {m : MMon} (h : DMo m) : DMo2 m := ⟨by have := h.c.l; omega, by have := h.l; omega⟩
theorem c15_c (l : List UInt8) (hl : l.length ≤ maxLen) : ∃ res σ, PostMH res σ ∧ CallM Tryz.prog 15 [] [.ro 1 (l.map byteC)] res σ := by
  refine use_of dcJ8 true Tryz.f15 ?_
  conv => enter [1]; reduce
  refine jvX Tryz.f15 51 [.cell 2 54, .tmp 3, .cell 4 30] PostMH (by kernel_rfl) (by decide +kernel) (by kernel_rfl) rfl ?_
  have h0 : (Dr.mk (l.take 2000) 0).ok 0 := ⟨List.length_take_le _ _, Nat.le_refl _⟩
  simp -implicitDefEqProofs only [go_sem]
  refine WantM.intro (c55_c l hl) ?_
  generalize Dr.mk (l.take 2000) 0 = r0 at *
  simp -implicitDefEqProofs only [go_sem]
  obtain ⟨hz, hcs⟩ := c31_c r0 (h0.le (by omega))
  refine WantM.intro hcs ?_
  obtain ⟨n, hn⟩ : ∃ n : Nat, szT r0 = n := ⟨(szT r0).toNat, by omega⟩
  rw [hn] at hz ⊢
  simp -implicitDefEqProofs only [go_sem]
  obtain ⟨res, σ, ⟨ls, r', ⟨rfl, rfl⟩, hls, hr'⟩, hcall⟩ := c56_c (r0.adv 2) n (by omega) ((h0.adv 2).le (by omega))
  refine WantM.intro hcall ?_
  have hr1 : r'.ok 2000 := hr'.le (by have := h0.2; show r0.p + 2 + _ ≤ _; omega)
  simp -implicitDefEqProofs only [go_sem]
  obtain ⟨res, σ, ⟨m, r1, ⟨rfl, rfl⟩, hm, hr1'⟩, hcall1⟩ := c57_c r' ls (hr1.le (by omega)) (by omega)
  refine WantM.intro hcall1 ?_
  have hr2 : r1.ok 4000 := hr1'.le (by have := hr1.2; omega)
  obtain ⟨res, σ, ⟨x, r2, ⟨rfl, rfl⟩, hr3'⟩, hcall2⟩ := c58_c r1 m ls (hr2.le (by omega)) hm (by omega)
  have hr3 : r2.ok 8000 := hr3'.le (by have := hr2.2; omega)
  have okr : ∀ i, i ≤ 1000 → (r2.adv i).ok 1000000000 := fun i hi => (hr3.adv i).le (by omega)
  simp -implicitDefEqProofs only [go_sem]
  refine WantM.intro hcall2 ?_
  simp -implicitDefEqProofs only [go_sem]
  refine WantM.intro (pickM 20 (okr 0 (by omega))) ?_
  generalize pk r2 20 = k
  simp -implicitDefEqProofs only [go_sem]
  refine ct_intro [2, 4, 7, 8, 9] [] (fun s => ∃ (m : MMon), DMo2 m ∧ s = ⟨51, [(2, .ptr 2 0 [] 21 0 0), (4, .ptr 4 0 [] 3 0 0), (7, .ptr 7 0 [] 21 0 0), (8, .ptr 8 0 [] 3 0 0), (9, vI k)], dmH m [(8, 0, one ⟨3, [x.cs], 0, false⟩)], 1⟩) ?_ ?_
  · simp -implicitDefEqProofs only [go_sem]
    refine condJ_intro (fun g => ?_) (fun g => ?_)
    · simp -implicitDefEqProofs only [go_sem, g]
      obtain ⟨res, σ, ⟨m', r', hf, hd', hr'⟩, hcall3⟩ := c59_c (r2.adv 1) m ((hr3.adv 1).le (by omega)) hm
      refine WantM.intro hcall3 ?_
      cases hf
      all_goals simp -implicitDefEqProofs only [go_sem]
      all_goals exact ⟨m', hd', rfl⟩
    · simp -implicitDefEqProofs only [go_sem, g]
      exact ⟨m, hm.two, rfl⟩
  · clear hm hcall hcall1 hcall2
    rintro s ⟨m, hm, rfl⟩
    refine ct_intro [2, 4, 7, 8, 9] [] (fun s => ∃ (x : MLet), s = ⟨51, [(2, .ptr 2 0 [] 21 0 0), (4, .ptr 4 0 [] 3 0 0), (7, .ptr 7 0 [] 21 0 0), (8, .ptr 8 0 [] 3 0 0), (9, vI k)], dmH m [(8, 0, one ⟨3, [x.cs], 0, false⟩)], 1⟩) ?_ ?_
    · simp -implicitDefEqProofs only [go_sem]
      refine condJ_intro (fun g => ?_) (fun g => ?_)
      · simp -implicitDefEqProofs only [go_sem, g]
        exact ⟨⟨-1, x.to_, x.text⟩, rfl⟩
      · simp -implicitDefEqProofs only [go_sem, g]
        exact ⟨x, rfl⟩
    · rintro s ⟨x, rfl⟩
      simp -implicitDefEqProofs only [go_sem]
      refine condJ_intro (fun g => ?_) (fun g => ?_)
      · simp -implicitDefEqProofs only [go_sem, g]
        refine RetAt.intro (.tup [m.avC, vI 21, .agg x.cs]) m.outC ⟨m, 21, x, ⟨rfl, rfl⟩, hm, .inl rfl⟩ ?_
        simp -implicitDefEqProofs only [go_sem]
        first | done | rfl | exact ⟨rfl, rfl⟩ | trace_state
      · simp -implicitDefEqProofs only [go_sem, g]
        refine RetAt.intro (.tup [m.avC, vI 9, .agg x.cs]) m.outC ⟨m, 9, x, ⟨rfl, rfl⟩, hm, .inr rfl⟩ ?_
        simp -implicitDefEqProofs only [go_sem]
        first | done | rfl | exact ⟨rfl, rfl⟩ | trace_state
end Go.Proofs.YtkhemolkhegppaaGreat.E
