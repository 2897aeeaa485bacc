/-
  Contracts: the raw writes that keep a point.
-/
import Derived.Test.YtjlhdfciklnndaaGreatW2
namespace Go.Proofs.YtjlhdfciklnndaaGreat.E
open Go Go.RowKit
set_option maxHeartbeats 4000000
set_option maxRecDepth 10000
set_option linter.unusedSimpArgs false
set_option linter.unusedVariables false
set_option linter.unusedSectionVars false
def dcW3 : Dec := ⟨[(162, .cm [true])], [9, 10, 11], [27, 30, 44, 45, 46, 58, 68, 78, 79, 86, 101, 112, 113, 132, 174, 196, 247, 249, 351, 356], false⟩

def rawTo (d : MDisk) : Int := if (mRead d).2 = 1 then 2 else 1
def rawS (d : MDisk) (size : Int) (root : MDig) : MSlot := ⟨0, ((mRead d).1.seq + 1).toNat, size.toNat, root⟩
/-- The raw writes of a slot. -/
def rawL (to : Int) (s : MSlot) (S : Nat) : List MRaw := [⟨to, 0, 0⟩, ⟨to, 1, s.seq⟩, ⟨to, 2, s.size⟩, ⟨to, 3, s.root.a⟩, ⟨to, 4, s.root.b⟩, ⟨to, 5, s.root.c⟩, ⟨to, 6, s.root.d⟩, ⟨to, 0, S⟩]
theorem mRaws_eq (d : MDisk) (size : Int) (root : MDig) : mRaws d size root = if mIn size 1 256 = true ∧ (mRead d).1.seq ≠ 1000000000 then rawL (rawTo d) (rawS d size root) (mSum (rawS d size root)) else [] := rfl
theorem rawS_ok {d : MDisk} {size : Int} {root : MDig} (hr : root.ok) (hs : mIn size 1 256 = true) : (rawS d size root).ok := by
  have := mRead_bd d
  have := mIn_iff.1 hs
  exact ⟨by show 0 < _; omega, by show ((mRead d).1.seq + 1).toNat < _; omega, by show size.toNat < _; omega, hr⟩
theorem MRaw.wide (l : List MRaw) : wideB 3 (l.map MRaw.cs) = true := by
  induction l with
  | nil => rfl
  | cons a l ih => simp only [List.map_cons, wideB, ih, MRaw.cs]; rfl
theorem MRaw.flat (l : List MRaw) : flL (l.map MRaw.cs) = 2 := by
  induction l with
  | nil => rfl
  | cons a l ih => simp only [List.map_cons, flL, ih, MRaw.cs]; rfl
attribute [go_sem] MRaw.wide MRaw.flat
theorem c239_c (d : MDisk) (size : Int) (root : MDig) (h : d.ok) (hr : root.ok) : CallR Tryz.prog 239 [.agg d.cs, vI size, .agg root.cs] (.blk 0 0 [] 3 0 (mRaws d size root).length) [([], ⟨3, (mRaws d size root).map MRaw.cs, 2, false⟩)] := by
  refine use_of dcW3 false Tryz.f239 ?_
  conv => enter [1]; reduce
  refine jvR Tryz.f239 66 [.tmp 6] (by kernel_rfl) (by decide +kernel) rfl ?_
  have hrd := c132_c d h
  have hin := c143_c size 1 256
  have hok := fun hs => c245_c (rawS d size root) (rawS_ok (d := d) hr hs)
  have hbd := mRead_bd d
  rw [mRaws_eq]
  generalize hS : mSum (rawS d size root) = S at *
  unfold rawS rawTo at *
  generalize mRead d = R at *
  obtain ⟨r, a⟩ := R
  simp only at hbd hok ⊢
  simp -implicitDefEqProofs only [go_sem]
  refine Want.intro hrd ?_
  simp -implicitDefEqProofs only [go_sem]
  refine Want.intro hin ?_
  cases hi : mIn size 1 256 with
  | false =>
    simp -implicitDefEqProofs only [go_sem, Bool.not_false, guardP_tf, guardP_ff, guardP_ft, guardP_tt, condJ_true, condJ_false, Bool.false_eq_true, false_and, if_false]
  | true =>
    have ki := mIn_iff.1 hi
    have hok := hok hi
    by_cases q : r.seq = 1000000000
    · have q' : r.seq ≥ 1000000000 := by omega
      simp -implicitDefEqProofs only [go_sem, q, q', Bool.not_true, guardP_tf, guardP_ff, guardP_ft, guardP_tt, condJ_true, condJ_false, ne_eq, not_true_eq_false, and_false, if_false]
    · have q' : ¬ r.seq ≥ 1000000000 := by omega
      have w1 : IntKind.i64.wrap (r.seq + 1) = r.seq + 1 := wrS (by omega)
      have w2 : IntKind.u64.wrap (r.seq + 1) = ((r.seq + 1).toNat : Int) := by rw [wU]; omega
      have w3 : IntKind.u64.wrap size = (size.toNat : Int) := by rw [wU]; omega
      by_cases e : a = 1
      · subst e
        simp -implicitDefEqProofs only [go_sem, q, q', w1, w2, w3, Bool.not_true, guardP_tf, guardP_ff, guardP_ft, guardP_tt, condJ_true, condJ_false, ne_eq, not_false_eq_true, and_true, if_true, beq_self_eq_true]
        refine Want.intro hok ?_
        simp -implicitDefEqProofs only [go_sem, rawL]
        rfl
      · have e' : (a == 1) = false := beq_eq_false_iff_ne.2 e
        simp -implicitDefEqProofs only [go_sem, q, q', e, e', w1, w2, w3, Bool.not_true, guardP_tf, guardP_ff, guardP_ft, guardP_tt, condJ_true, condJ_false, ne_eq, not_false_eq_true, and_true, if_true, beq_self_eq_true]
        refine Want.intro hok ?_
        simp -implicitDefEqProofs only [go_sem, rawL]
        rfl
theorem c163_c (l : List MRaw) (hl : l.length * 24 ≤ 140737488355328) : CallR Tryz.prog 163 [.ro 3 (l.map MRaw.cs)] (.blk 0 0 [] 3 0 l.length) [([], ⟨3, l.map MRaw.cs, 2, false⟩)] := by
  refine use_of dcW3 false Tryz.f163 ?_
  conv => enter [1]; reduce
  refine jvR Tryz.f163 14 [.tmp 2] (by kernel_rfl) (by decide +kernel) rfl ?_
  simp -implicitDefEqProofs only [go_sem]
  refine condJ_intro (fun h => ?_) (fun h => ?_)
  · have : l = [] := by simpa using h
    subst this
    simp -implicitDefEqProofs only [go_sem]
  · have hm := ok_len hl (by omega)
    have hmk : ((24 : Nat) : Int) * (l.length : Int) ≤ 281474976710656 ∧ (l.length : Int) ≤ 9223372036854775807 := by unfold maxLen at hm; omega
    simp -implicitDefEqProofs only [go_sem, h, hmk, List.length_replicate]
theorem c236_c (d : MDisk) (size : Int) (root : MDig) (h : d.ok) : CallR Tryz.prog 236 [.agg d.cs, vI size, .agg root.cs] (.blk 0 0 [] 3 0 (mRaws d size root).length) [([], ⟨3, (mRaws d size root).map MRaw.cs, 2, false⟩)] := by
  refine use_of dcW3 false Tryz.f236 ?_
  conv => enter [1]; reduce
  refine jvR Tryz.f236 68 [.tmp 6] (by kernel_rfl) (by decide +kernel) rfl ?_
  have hrd := c147_c d h
  have hin := c108_c size 1 256
  have hok := c251_c (rawS d size root)
  have hbd := mRead_bd d
  rw [mRaws_eq]
  generalize hS : mSum (rawS d size root) = S at *
  unfold rawS rawTo at *
  generalize mRead d = R at *
  obtain ⟨r, a⟩ := R
  simp only at hbd hok ⊢
  simp -implicitDefEqProofs only [go_sem]
  refine Want.intro hrd ?_
  simp -implicitDefEqProofs only [go_sem]
  refine Want.intro hin ?_
  cases hi : mIn size 1 256 with
  | false =>
    simp -implicitDefEqProofs only [go_sem, Bool.not_false, guardP_tf, guardP_ff, guardP_ft, guardP_tt, condJ_true, condJ_false, Bool.false_eq_true, false_and, if_false]
  | true =>
    have ki := mIn_iff.1 hi
    by_cases q : r.seq = 1000000000
    · have q' : (r.seq == 1000000000) = true := by rw [q]; rfl
      simp -implicitDefEqProofs only [go_sem, q, q', Bool.not_true, guardP_tf, guardP_ff, guardP_ft, guardP_tt, condJ_true, condJ_false, ne_eq, not_true_eq_false, and_false, if_false]
    · have q' : (r.seq == 1000000000) = false := beq_eq_false_iff_ne.2 q
      have w1 : IntKind.i64.wrap (r.seq + 1) = r.seq + 1 := wrS (by omega)
      have w2 : IntKind.u64.wrap (r.seq + 1) = ((r.seq + 1).toNat : Int) := by rw [wU]; omega
      have w3 : IntKind.u64.wrap size = (size.toNat : Int) := by rw [wU]; omega
      by_cases e : a = 1
      · subst e
        simp -implicitDefEqProofs only [go_sem, q, q', w1, w2, w3, Bool.not_true, guardP_tf, guardP_ff, guardP_ft, guardP_tt, condJ_true, condJ_false, ne_eq, not_false_eq_true, and_true, if_true, beq_self_eq_true]
        refine Want.intro hok ?_
        simp -implicitDefEqProofs only [go_sem]
        refine WantM.intro (wds_s ⟨S, (r.seq + 1).toNat, size.toNat, root⟩) ?_
        simp -implicitDefEqProofs only [go_sem]
        refine jv_lp (fun m z => ∃ i : Nat, (1 ≤ i ∧ i ≤ 7) ∧ m = 7 - i ∧ z = ⟨68, [(9, vI 2), (10, .ptr 10 0 [] 7 0 0), (11, .blk 11 0 [] 3 0 ((rawL 2 ⟨0, (r.seq + 1).toNat, size.toNat, root⟩ S).take i).length), (12, .blk 12 0 [] 1 0 7), (13, vI i)], [(10, 0, one ⟨7, [MSlot.cs ⟨S, (r.seq + 1).toNat, size.toNat, root⟩], 0, false⟩), (11, 0, one ⟨3, ((rawL 2 ⟨0, (r.seq + 1).toNat, size.toNat, root⟩ S).take i).map MRaw.cs, 2, false⟩), (12, 0, one ⟨1, ptrs 7 10 0, 0, false⟩)], 1⟩) 6 ?_ ?_
        · simp -implicitDefEqProofs only [go_sem]
          exact ⟨1, by omega, rfl, rfl⟩
        · rintro m z ⟨i, hi, rfl, rfl⟩
          have hi' : i = 1 ∨ i = 2 ∨ i = 3 ∨ i = 4 ∨ i = 5 ∨ i = 6 ∨ i = 7 := by omega
          rcases hi' with rfl | rfl | rfl | rfl | rfl | rfl | rfl
          · have h1 : ((1 : Nat) : Int) ≤ 6 := by decide
            have h2 : ((1 : Nat) : Int) < ((7 : Nat) : Int) := by decide
            have w4 : IntKind.i64.wrap (((1 : Nat) : Int) + 1) = ((2 : Nat) : Int) := by decide
            have ha : ∀ x, _ := fun x => app_ok (E := MRaw.cs) (l := (rawL 2 ⟨0, (r.seq + 1).toNat, size.toNat, root⟩ S).take 1) (xs := [x]) (b := 24) (n := 100) (by simp [rawL]) (by omega) (by omega)
            simp -implicitDefEqProofs only [go_sem, h1, h2, w4, ha]
            exact ⟨6 - 1, by omega, 2, by omega, rfl, rfl⟩
          · have h1 : ((2 : Nat) : Int) ≤ 6 := by decide
            have h2 : ((2 : Nat) : Int) < ((7 : Nat) : Int) := by decide
            have w4 : IntKind.i64.wrap (((2 : Nat) : Int) + 1) = ((3 : Nat) : Int) := by decide
            have ha : ∀ x, _ := fun x => app_ok (E := MRaw.cs) (l := (rawL 2 ⟨0, (r.seq + 1).toNat, size.toNat, root⟩ S).take 2) (xs := [x]) (b := 24) (n := 100) (by simp [rawL]) (by omega) (by omega)
            simp -implicitDefEqProofs only [go_sem, h1, h2, w4, ha]
            exact ⟨6 - 2, by omega, 3, by omega, rfl, rfl⟩
          · have h1 : ((3 : Nat) : Int) ≤ 6 := by decide
            have h2 : ((3 : Nat) : Int) < ((7 : Nat) : Int) := by decide
            have w4 : IntKind.i64.wrap (((3 : Nat) : Int) + 1) = ((4 : Nat) : Int) := by decide
            have ha : ∀ x, _ := fun x => app_ok (E := MRaw.cs) (l := (rawL 2 ⟨0, (r.seq + 1).toNat, size.toNat, root⟩ S).take 3) (xs := [x]) (b := 24) (n := 100) (by simp [rawL]) (by omega) (by omega)
            simp -implicitDefEqProofs only [go_sem, h1, h2, w4, ha]
            exact ⟨6 - 3, by omega, 4, by omega, rfl, rfl⟩
          · have h1 : ((4 : Nat) : Int) ≤ 6 := by decide
            have h2 : ((4 : Nat) : Int) < ((7 : Nat) : Int) := by decide
            have w4 : IntKind.i64.wrap (((4 : Nat) : Int) + 1) = ((5 : Nat) : Int) := by decide
            have ha : ∀ x, _ := fun x => app_ok (E := MRaw.cs) (l := (rawL 2 ⟨0, (r.seq + 1).toNat, size.toNat, root⟩ S).take 4) (xs := [x]) (b := 24) (n := 100) (by simp [rawL]) (by omega) (by omega)
            simp -implicitDefEqProofs only [go_sem, h1, h2, w4, ha]
            exact ⟨6 - 4, by omega, 5, by omega, rfl, rfl⟩
          · have h1 : ((5 : Nat) : Int) ≤ 6 := by decide
            have h2 : ((5 : Nat) : Int) < ((7 : Nat) : Int) := by decide
            have w4 : IntKind.i64.wrap (((5 : Nat) : Int) + 1) = ((6 : Nat) : Int) := by decide
            have ha : ∀ x, _ := fun x => app_ok (E := MRaw.cs) (l := (rawL 2 ⟨0, (r.seq + 1).toNat, size.toNat, root⟩ S).take 5) (xs := [x]) (b := 24) (n := 100) (by simp [rawL]) (by omega) (by omega)
            simp -implicitDefEqProofs only [go_sem, h1, h2, w4, ha]
            exact ⟨6 - 5, by omega, 6, by omega, rfl, rfl⟩
          · have h1 : ((6 : Nat) : Int) ≤ 6 := by decide
            have h2 : ((6 : Nat) : Int) < ((7 : Nat) : Int) := by decide
            have w4 : IntKind.i64.wrap (((6 : Nat) : Int) + 1) = ((7 : Nat) : Int) := by decide
            have ha : ∀ x, _ := fun x => app_ok (E := MRaw.cs) (l := (rawL 2 ⟨0, (r.seq + 1).toNat, size.toNat, root⟩ S).take 6) (xs := [x]) (b := 24) (n := 100) (by simp [rawL]) (by omega) (by omega)
            simp -implicitDefEqProofs only [go_sem, h1, h2, w4, ha]
            exact ⟨6 - 6, by omega, 7, by omega, rfl, rfl⟩
          · have h1 : ¬ (((7 : Nat) : Int) ≤ 6) := by decide
            have ha : ∀ x, _ := fun x => app_ok (E := MRaw.cs) (l := (rawL 2 ⟨0, (r.seq + 1).toNat, size.toNat, root⟩ S).take 7) (xs := [x]) (b := 24) (n := 100) (by simp [rawL]) (by omega) (by omega)
            simp -implicitDefEqProofs only [go_sem, h1, ha]
            refine Want.intro (c163_c (rawL 2 ⟨0, (r.seq + 1).toNat, size.toNat, root⟩ S) (by show 8 * 24 ≤ _; decide)) ?_
            simp -implicitDefEqProofs only [go_sem]
      · have e' : (a == 1) = false := beq_eq_false_iff_ne.2 e
        simp -implicitDefEqProofs only [go_sem, q, q', e, e', w1, w2, w3, Bool.not_true, guardP_tf, guardP_ff, guardP_ft, guardP_tt, condJ_true, condJ_false, ne_eq, not_false_eq_true, and_true, if_true, beq_self_eq_true]
        refine Want.intro hok ?_
        simp -implicitDefEqProofs only [go_sem]
        refine WantM.intro (wds_s ⟨S, (r.seq + 1).toNat, size.toNat, root⟩) ?_
        simp -implicitDefEqProofs only [go_sem]
        refine jv_lp (fun m z => ∃ i : Nat, (1 ≤ i ∧ i ≤ 7) ∧ m = 7 - i ∧ z = ⟨68, [(9, vI 1), (10, .ptr 10 0 [] 7 0 0), (11, .blk 11 0 [] 3 0 ((rawL 1 ⟨0, (r.seq + 1).toNat, size.toNat, root⟩ S).take i).length), (12, .blk 12 0 [] 1 0 7), (13, vI i)], [(10, 0, one ⟨7, [MSlot.cs ⟨S, (r.seq + 1).toNat, size.toNat, root⟩], 0, false⟩), (11, 0, one ⟨3, ((rawL 1 ⟨0, (r.seq + 1).toNat, size.toNat, root⟩ S).take i).map MRaw.cs, 2, false⟩), (12, 0, one ⟨1, ptrs 7 10 0, 0, false⟩)], 1⟩) 6 ?_ ?_
        · simp -implicitDefEqProofs only [go_sem]
          exact ⟨1, by omega, rfl, rfl⟩
        · rintro m z ⟨i, hi, rfl, rfl⟩
          have hi' : i = 1 ∨ i = 2 ∨ i = 3 ∨ i = 4 ∨ i = 5 ∨ i = 6 ∨ i = 7 := by omega
          rcases hi' with rfl | rfl | rfl | rfl | rfl | rfl | rfl
          · have h1 : ((1 : Nat) : Int) ≤ 6 := by decide
            have h2 : ((1 : Nat) : Int) < ((7 : Nat) : Int) := by decide
            have w4 : IntKind.i64.wrap (((1 : Nat) : Int) + 1) = ((2 : Nat) : Int) := by decide
            have ha : ∀ x, _ := fun x => app_ok (E := MRaw.cs) (l := (rawL 1 ⟨0, (r.seq + 1).toNat, size.toNat, root⟩ S).take 1) (xs := [x]) (b := 24) (n := 100) (by simp [rawL]) (by omega) (by omega)
            simp -implicitDefEqProofs only [go_sem, h1, h2, w4, ha]
            exact ⟨6 - 1, by omega, 2, by omega, rfl, rfl⟩
          · have h1 : ((2 : Nat) : Int) ≤ 6 := by decide
            have h2 : ((2 : Nat) : Int) < ((7 : Nat) : Int) := by decide
            have w4 : IntKind.i64.wrap (((2 : Nat) : Int) + 1) = ((3 : Nat) : Int) := by decide
            have ha : ∀ x, _ := fun x => app_ok (E := MRaw.cs) (l := (rawL 1 ⟨0, (r.seq + 1).toNat, size.toNat, root⟩ S).take 2) (xs := [x]) (b := 24) (n := 100) (by simp [rawL]) (by omega) (by omega)
            simp -implicitDefEqProofs only [go_sem, h1, h2, w4, ha]
            exact ⟨6 - 2, by omega, 3, by omega, rfl, rfl⟩
          · have h1 : ((3 : Nat) : Int) ≤ 6 := by decide
            have h2 : ((3 : Nat) : Int) < ((7 : Nat) : Int) := by decide
            have w4 : IntKind.i64.wrap (((3 : Nat) : Int) + 1) = ((4 : Nat) : Int) := by decide
            have ha : ∀ x, _ := fun x => app_ok (E := MRaw.cs) (l := (rawL 1 ⟨0, (r.seq + 1).toNat, size.toNat, root⟩ S).take 3) (xs := [x]) (b := 24) (n := 100) (by simp [rawL]) (by omega) (by omega)
            simp -implicitDefEqProofs only [go_sem, h1, h2, w4, ha]
            exact ⟨6 - 3, by omega, 4, by omega, rfl, rfl⟩
          · have h1 : ((4 : Nat) : Int) ≤ 6 := by decide
            have h2 : ((4 : Nat) : Int) < ((7 : Nat) : Int) := by decide
            have w4 : IntKind.i64.wrap (((4 : Nat) : Int) + 1) = ((5 : Nat) : Int) := by decide
            have ha : ∀ x, _ := fun x => app_ok (E := MRaw.cs) (l := (rawL 1 ⟨0, (r.seq + 1).toNat, size.toNat, root⟩ S).take 4) (xs := [x]) (b := 24) (n := 100) (by simp [rawL]) (by omega) (by omega)
            simp -implicitDefEqProofs only [go_sem, h1, h2, w4, ha]
            exact ⟨6 - 4, by omega, 5, by omega, rfl, rfl⟩
          · have h1 : ((5 : Nat) : Int) ≤ 6 := by decide
            have h2 : ((5 : Nat) : Int) < ((7 : Nat) : Int) := by decide
            have w4 : IntKind.i64.wrap (((5 : Nat) : Int) + 1) = ((6 : Nat) : Int) := by decide
            have ha : ∀ x, _ := fun x => app_ok (E := MRaw.cs) (l := (rawL 1 ⟨0, (r.seq + 1).toNat, size.toNat, root⟩ S).take 5) (xs := [x]) (b := 24) (n := 100) (by simp [rawL]) (by omega) (by omega)
            simp -implicitDefEqProofs only [go_sem, h1, h2, w4, ha]
            exact ⟨6 - 5, by omega, 6, by omega, rfl, rfl⟩
          · have h1 : ((6 : Nat) : Int) ≤ 6 := by decide
            have h2 : ((6 : Nat) : Int) < ((7 : Nat) : Int) := by decide
            have w4 : IntKind.i64.wrap (((6 : Nat) : Int) + 1) = ((7 : Nat) : Int) := by decide
            have ha : ∀ x, _ := fun x => app_ok (E := MRaw.cs) (l := (rawL 1 ⟨0, (r.seq + 1).toNat, size.toNat, root⟩ S).take 6) (xs := [x]) (b := 24) (n := 100) (by simp [rawL]) (by omega) (by omega)
            simp -implicitDefEqProofs only [go_sem, h1, h2, w4, ha]
            exact ⟨6 - 6, by omega, 7, by omega, rfl, rfl⟩
          · have h1 : ¬ (((7 : Nat) : Int) ≤ 6) := by decide
            have ha : ∀ x, _ := fun x => app_ok (E := MRaw.cs) (l := (rawL 1 ⟨0, (r.seq + 1).toNat, size.toNat, root⟩ S).take 7) (xs := [x]) (b := 24) (n := 100) (by simp [rawL]) (by omega) (by omega)
            simp -implicitDefEqProofs only [go_sem, h1, ha]
            refine Want.intro (c163_c (rawL 1 ⟨0, (r.seq + 1).toNat, size.toNat, root⟩ S) (by show 8 * 24 ≤ _; decide)) ?_
            simp -implicitDefEqProofs only [go_sem]
end Go.Proofs.YtjlhdfciklnndaaGreat.E
