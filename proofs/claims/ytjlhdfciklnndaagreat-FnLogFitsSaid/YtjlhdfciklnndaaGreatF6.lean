/-
  Contracts: what comes of a letter to a client, in the program.
-/
import Derived.Test.YtjlhdfciklnndaaGreatF5
import Derived.Test.YtjlhdfciklnndaaGreatF2
namespace Go.Proofs.YtjlhdfciklnndaaGreat.E
open Go Go.RowKit
set_option maxHeartbeats 4000000
set_option maxRecDepth 10000
set_option linter.unusedSimpArgs false
set_option linter.unusedVariables false
set_option linter.unusedSectionVars false
def dcF6 : Dec := ⟨[], [9, 10, 11], [27, 30, 44, 45, 46, 58, 68, 78, 79, 86, 101, 112, 113, 132, 174, 196, 247, 249, 351, 356], false⟩

theorem MLet.wide (l : List MLet) : wideB 3 (l.map MLet.cs) = true := by
  induction l with
  | nil => rfl
  | cons a l ih => simp only [List.map_cons, wideB, ih, MLet.cs]; rfl
theorem MLet.flat (l : List MLet) : flL (l.map MLet.cs) = 2 := by
  induction l with
  | nil => rfl
  | cons a l ih => simp only [List.map_cons, flL, ih, MLet.cs]; rfl
theorem int_wide (l : List Int) : wideB 1 (l.map intC) = true := by
  induction l with
  | nil => rfl
  | cons a l ih => simp only [List.map_cons, wideB, ih, intC]; rfl
theorem int_flat (l : List Int) : flL (l.map intC) = 2 := by
  induction l with
  | nil => rfl
  | cons a l ih => simp only [List.map_cons, flL, ih, intC]; rfl
attribute [go_sem] MLet.wide MLet.flat int_wide int_flat
theorem c266_c (l : List Int) (hl : l.length * 8 ≤ 140737488355328) : CallR Tryz.prog 266 [.ro 1 (l.map intC)] (.blk 0 0 [] 1 0 l.length) [([], ⟨1, l.map intC, 2, false⟩)] := by
  refine use_of dcF6 false Tryz.f266 ?_
  conv => enter [1]; reduce
  refine jvR Tryz.f266 14 [.tmp 2] (by kernel_rfl) (by decide +kernel) rfl ?_
  simp -implicitDefEqProofs only [go_sem]
  refine condJ_intro (fun h => ?_) (fun h => ?_)
  · have : l = [] := by simpa using h
    subst this
    simp -implicitDefEqProofs only [go_sem]
  · have hm := ok_len hl (by omega)
    have hmk : ((8 : Nat) : Int) * (l.length : Int) ≤ 281474976710656 ∧ (l.length : Int) ≤ 9223372036854775807 := by unfold maxLen at hm; omega
    simp -implicitDefEqProofs only [go_sem, h, hmk, List.length_replicate]
theorem c141_c (l : List MLet) (hl : l.length * 32 ≤ 140737488355328) : CallR Tryz.prog 141 [.ro 3 (l.map MLet.cs)] (.blk 0 0 [] 3 0 l.length) [([], ⟨3, l.map MLet.cs, 2, false⟩)] := by
  refine use_of dcF6 false Tryz.f141 ?_
  conv => enter [1]; reduce
  refine jvR Tryz.f141 14 [.tmp 2] (by kernel_rfl) (by decide +kernel) rfl ?_
  simp -implicitDefEqProofs only [go_sem]
  refine condJ_intro (fun h => ?_) (fun h => ?_)
  · have : l = [] := by simpa using h
    subst this
    simp -implicitDefEqProofs only [go_sem]
  · have hm := ok_len hl (by omega)
    have hmk : ((32 : Nat) : Int) * (l.length : Int) ≤ 281474976710656 ∧ (l.length : Int) ≤ 9223372036854775807 := by unfold maxLen at hm; omega
    simp -implicitDefEqProofs only [go_sem, h, hmk, List.length_replicate]
theorem c189_c (c : MCl) (hl : c.acks.length ≤ 100) : CallM Tryz.prog 189 [] [c.ro] (c.av []) [(0, 0, one c.ar)] := by
  refine use_of dcF6 false Tryz.f189 ?_
  conv => enter [1]; reduce
  refine jvM Tryz.f189 10 [.cell 2 41] (by kernel_rfl) (by decide +kernel) rfl ?_
  simp -implicitDefEqProofs only [go_sem]
  refine Want.intro (c266_c c.acks (by omega)) ?_
  simp -implicitDefEqProofs only [go_sem]
/-- A client's rows of its own in the argument; what comes of it in new rows. -/
def MCl.tIn (c : MCl) : AV := .agg (MTold.cs ⟨c, [], [], []⟩ (.blk 1000000 0 [] 1 0 c.acks.length) .nilS .nilS .nilS)
def MTold.avP (t : MTold) : AV := .agg (t.cs (.blk 1000000 0 [] 1 0 t.cl.acks.length) (.blk 0 0 [] 3 0 t.letters.length) (.blk 1 0 [] 13 0 t.alarms.length) (.blk 2 0 [] 5 0 t.acc.length))
def MTold.outP (t : MTold) : Sig := [(1000000, 0, one t.cl.ar), (0, 0, one t.lr), (1, 0, one t.xr), (2, 0, one t.pr)]
attribute [go_sem] MCl.tIn MTold.avP MTold.outP
theorem c190_c (c : MCl) (me : Int) (p : MPt) (hm : c.many ≤ 100) : CallM Tryz.prog 190 [(1000000, 0, one c.ar)] [c.tIn, vI me, .agg p.cs] (mHead c me p).avP (mHead c me p).outP := by
  refine use_of dcF6 false Tryz.f190 ?_
  conv => enter [1]; reduce
  refine jvM Tryz.f190 82 [.cell 6 149] (by kernel_rfl) (by decide +kernel) rfl ?_
  simp -implicitDefEqProofs only [go_sem]
  unfold mHead
  by_cases a : p.size = 0
  · have a' : (p.size == 0) = true := by simpa using a
    rw [if_pos (.inl a)]
    simp -implicitDefEqProofs only [go_sem, a', guardP_tf, condJ_true, MTold.base]
  · have a' : (p.size == 0) = false := by simpa using a
    by_cases b : p.size < c.pin.size
    · rw [if_pos (.inr (.inl b))]
      simp -implicitDefEqProofs only [go_sem, a', b, guardP_ff, guardP_tf, condJ_true, MTold.base]
    · cases e : eqP p c.pin with
      | true =>
        rw [if_pos (.inr (.inr rfl))]
        have e' : (p.size == c.pin.size && (((p.root.a : Int) == c.pin.root.a) && (((p.root.b : Int) == c.pin.root.b) && (((p.root.c : Int) == c.pin.root.c) && ((p.root.d : Int) == c.pin.root.d))))) = true := e
        simp -implicitDefEqProofs only [go_sem, a', b, e', guardP_ff, condJ_true, MTold.base]
      | false =>
        rw [if_neg (by simp only [not_or]; exact ⟨a, b, by simp⟩)]
        have e' : (p.size == c.pin.size && (((p.root.a : Int) == c.pin.root.a) && (((p.root.b : Int) == c.pin.root.b) && (((p.root.c : Int) == c.pin.root.c) && ((p.root.d : Int) == c.pin.root.d))))) = false := e
        by_cases d : p.size = c.pin.size
        · have d' : (p.size == c.pin.size) = true := by simpa using d
          rw [if_pos d]
          simp only [d', Bool.true_and] at e'
          simp -implicitDefEqProofs only [go_sem, a', b, e', d', guardP_ff, condJ_true, condJ_false]
          try rfl
        · have d' : (p.size == c.pin.size) = false := by simpa using d
          rw [if_neg d]
          simp -implicitDefEqProofs only [go_sem, a', b, e', d', guardP_ff, condJ_true, condJ_false]
          generalize hF : (fun i : Nat => MLet.mk me ((i : Int) + 1) (mWireBytes (mVouch c p))) = F
          have hv := fun i : Nat => c234_c me ((i : Int) + 1) (mVouch c p) rfl rfl
          refine jv_lpN [(16003, 3)] (fun x s => ∃ i : Nat, i ≤ c.many.toNat ∧ x = c.many.toNat - i ∧ s = ⟨82, [(1, vI me), (3, .ptr 3 0 [] 18 0 0), (5, .ptr 5 0 [] 5 0 0), (6, .ptr 6 0 [] 18 0 0), (7, .ptr 3 0 [] 18 0 0), (8, vI ((i : Int) + 1))], [(1000000, 0, one c.ar), (3, 0, one ⟨18, [MTold.cs ⟨{ c with phase := 2, goal := p }, [], [], []⟩ (.blk 1000000 0 [] 1 0 c.acks.length) (.blk 10003 0 [] 3 0 ((List.range i).map F).length) .nilS .nilS], 0, false⟩), (10003, 0, one ⟨3, ((List.range i).map F).map MLet.cs, 2, false⟩), (5, 0, one ⟨5, [p.cs], 0, false⟩), (6, 0, one ⟨18, [zTd], 0, false⟩)], 1⟩) c.many.toNat ?_ ?_
          · simp -implicitDefEqProofs only [go_sem]
            exact ⟨0, Nat.zero_le _, rfl, rfl⟩
          · rintro x s ⟨i, hi, rfl, rfl⟩
            rcases Nat.lt_or_ge i c.many.toNat with hlt | hge
            · have hlt' : (i : Int) + 1 ≤ c.many := by omega
              have w1 : IntKind.i64.wrap ((i : Int) + 1 + 1) = ((i + 1 : Nat) : Int) + 1 := by rw [wrS (by omega)]; omega
              have ha : ∀ x, _ := fun x => app_ok (E := MLet.cs) (l := (List.range i).map F) (xs := [x]) (b := 32) (n := 1000) (by simp; omega) (by omega) (by omega)
              simp -implicitDefEqProofs only [go_sem, hlt']
              refine Want.intro (hv i) ?_
              simp -implicitDefEqProofs only [go_sem, ha, w1]
              refine ⟨_, by omega, i + 1, hlt, rfl, ?_⟩
              rw [List.range_succ, List.map_append, List.map_cons, List.map_nil, ← hF]
              simp only [List.map_append, List.length_append, List.length_map, List.map_cons, List.map_nil, List.length_cons, List.length_nil, MLet.cs]
              try rfl
            · have hi : i = c.many.toNat := by omega
              subst hi
              have hlt' : ¬ ((c.many.toNat : Int) + 1 ≤ c.many) := by omega
              simp -implicitDefEqProofs only [go_sem, hlt']
              try rfl
theorem c191_c (c : MCl) (w : Int) (hl : c.acks.length ≤ 100) : CallM Tryz.prog 191 [(1000000, 0, one c.ar)] [c.tIn, vI w] (mAck c w).avQ (mAck c w).outQ := by
  refine use_of dcF6 false Tryz.f191 ?_
  conv => enter [1]; reduce
  refine jvM Tryz.f191 81 [.cell 4 149] (by kernel_rfl) (by decide +kernel) rfl ?_
  simp -implicitDefEqProofs only [go_sem]
  have hl' : c.acks.length ≤ maxLen := by unfold maxLen; omega
  generalize hL : c.acks = l at *
  refine jv_lpN [(6, 1)] (fun m s => ∃ (i : Nat) (o : List Int) (put : Bool), i ≤ l.length ∧ m = l.length - i ∧ o.length ≤ 2 * i ∧ o ++ ackGo w (l.drop i) put = mAcks l w ∧ s = ⟨81, [(1, vI w), (2, .ptr 2 0 [] 18 0 0), (4, .ptr 4 0 [] 18 0 0), (5, .ptr 2 0 [] 18 0 0), (6, .blk 6 0 [] 1 0 o.length), (7, vB put), (14, .blk 1000000 0 [] 1 0 l.length), (15, vI l.length), (16, vI i)], [(1000000, 0, one ⟨1, l.map intC, 2, false⟩), (2, 0, one ⟨18, [MTold.cs ⟨c, [], [], []⟩ (.blk 1000000 0 [] 1 0 l.length) .nilS .nilS .nilS], 0, false⟩), (4, 0, one ⟨18, [zTd], 0, false⟩), (6, 0, one ⟨1, o.map intC, 2, false⟩)], 1⟩) l.length ?_ ?_
  · simp -implicitDefEqProofs only [go_sem]
    exact ⟨0, [], false, Nat.zero_le _, rfl, Nat.le_refl _, rfl, rfl⟩
  · rintro m s ⟨i, o, put, hi, rfl, ho, hx, rfl⟩
    rcases Nat.lt_or_ge i l.length with hlt | hge
    · have hlt' : (i : Int) < (l.length : Int) := by omega
      have hg : l[i]? = some l[i] := List.getElem?_eq_getElem hlt
      have hw := wrap_succ hlt hl'
      rw [ackGo_drop hlt] at hx
      have ha : ∀ x, _ := fun x => app_ok (E := intC) (l := o) (xs := [x]) (b := 8) (n := 1000) (by simp; omega) (by omega) (by omega)
      have ha2 : ∀ x y : List AV, (o.map intC ++ [x] ++ [y]).length ≤ maxLen ∧ (o.map intC ++ [x] ++ [y]).length * 8 ≤ 140737488355328 := fun x y => by unfold maxLen; simp; omega
      cases hd : decide (l[i] ≥ w) <;> cases he : (l[i] != w) <;> cases put
      all_goals simp only [hd, he, Bool.not_true, Bool.not_false, Bool.and_true, Bool.and_false, Bool.true_and, Bool.false_and, if_true, if_false, Bool.false_eq_true, Bool.or_true, Bool.or_false, List.nil_append] at hx
      all_goals simp -implicitDefEqProofs only [go_sem, hlt', hg]
      all_goals repeat' first | (refine guardP_intro (fun h => ?_) (fun h => ?_) <;> try simp -implicitDefEqProofs only [go_sem, hlt', hg, hd, he, hw, ha, ha2, guardP_tt, guardP_ff, guardP_tf, guardP_ft, condJ_true, condJ_false, h]) | (refine condJ_intro (fun h => ?_) (fun h => ?_) <;> try simp -implicitDefEqProofs only [go_sem, hlt', hg, hd, he, hw, ha, ha2, guardP_tt, guardP_ff, guardP_tf, guardP_ft, condJ_true, condJ_false, h])
      all_goals first
        | (rw [hd] at h; cases h; done)
        | (rw [he] at h; cases h; done)
        | (refine ⟨_, by omega, i + 1, o, true, hlt, rfl, ?_, ?_, ?_⟩; all_goals first | omega | (simp; omega) | (rw [← hx]; simp; done) | (simp [intC]; done))
        | (refine ⟨_, by omega, i + 1, o, false, hlt, rfl, ?_, ?_, ?_⟩; all_goals first | omega | (simp; omega) | (rw [← hx]; simp; done) | (simp [intC]; done))
        | (refine ⟨_, by omega, i + 1, o ++ [l[i]], true, hlt, rfl, ?_, ?_, ?_⟩; all_goals first | omega | (simp; omega) | (rw [← hx]; simp; done) | (simp [intC]; done))
        | (refine ⟨_, by omega, i + 1, o ++ [l[i]], false, hlt, rfl, ?_, ?_, ?_⟩; all_goals first | omega | (simp; omega) | (rw [← hx]; simp; done) | (simp [intC]; done))
        | (refine ⟨_, by omega, i + 1, o ++ [w], true, hlt, rfl, ?_, ?_, ?_⟩; all_goals first | omega | (simp; omega) | (rw [← hx]; simp; done) | (simp [intC]; done))
        | (refine ⟨_, by omega, i + 1, o ++ [w], false, hlt, rfl, ?_, ?_, ?_⟩; all_goals first | omega | (simp; omega) | (rw [← hx]; simp; done) | (simp [intC]; done))
        | (refine ⟨_, by omega, i + 1, o ++ [w] ++ [l[i]], true, hlt, rfl, ?_, ?_, ?_⟩; all_goals first | omega | (simp; omega) | (rw [← hx]; simp; done) | (simp [intC]; done))
        | (refine ⟨_, by omega, i + 1, o ++ [w] ++ [l[i]], false, hlt, rfl, ?_, ?_, ?_⟩; all_goals first | omega | (simp; omega) | (rw [← hx]; simp; done) | (simp [intC]; done))
        | trace_state
    · have hi : i = l.length := by omega
      subst hi
      have hlt' : ¬ ((l.length : Int) < (l.length : Int)) := by omega
      rw [List.drop_length] at hx
      have ha : ∀ x, _ := fun x => app_ok (E := intC) (l := o) (xs := [x]) (b := 8) (n := 1000) (by simp; omega) (by omega) (by omega)
      have hml := ackGo_len w l false
      have fin : ∀ o : List Int, o = mAcks l w → o.length ≤ 2 * l.length + 1 := fun o h => by rw [h]; exact hml
      obtain ⟨o', ho'⟩ : ∃ o', o' = mAcks l w := ⟨_, rfl⟩
      unfold mAck
      rw [hL, ← ho']
      have hfl := fin o' ho'
      simp -implicitDefEqProofs only [go_sem, hlt']
      cases put
      · have e : o ++ [w] = o' := by rw [ho', ← hx]; simp [ackGo]
        have eM : o.map intC ++ [[vI w]] = o'.map intC := by rw [← e]; simp [intC]
        have hao := ha [vI w]
        rw [eM, List.length_map] at hao
        simp -implicitDefEqProofs only [go_sem, eM, hao, condJ_true]
        refine Want.intro (c266_c o' (by omega)) ?_
        simp -implicitDefEqProofs only [go_sem]
        refine condJ_intro (fun h => ?_) (fun h => ?_)
        · have h' := of_decide_eq_true h
          rw [if_neg (by omega)]
          simp -implicitDefEqProofs only [go_sem, h]
          try rfl
        · have h' := of_decide_eq_false h
          rw [if_pos (by omega)]
          simp -implicitDefEqProofs only [go_sem, h]
          try rfl
      · have e : o = o' := by rw [ho', ← hx]; simp [ackGo]
        subst e
        simp -implicitDefEqProofs only [go_sem, condJ_false]
        refine Want.intro (c266_c o (by omega)) ?_
        simp -implicitDefEqProofs only [go_sem]
        refine condJ_intro (fun h => ?_) (fun h => ?_)
        · have h' := of_decide_eq_true h
          rw [if_neg (by omega)]
          simp -implicitDefEqProofs only [go_sem, h]
          try rfl
        · have h' := of_decide_eq_false h
          rw [if_pos (by omega)]
          simp -implicitDefEqProofs only [go_sem, h]
          try rfl
end Go.Proofs.YtjlhdfciklnndaaGreat.E
