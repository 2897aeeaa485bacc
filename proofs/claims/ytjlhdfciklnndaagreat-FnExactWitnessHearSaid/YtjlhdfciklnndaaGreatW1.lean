/-
  Contracts: sums of slots, records, what a disk holds.
-/
import Derived.Test.YtjlhdfciklnndaaGreatW0
import Derived.Test.YtjlhdfciklnndaaGreatD10
namespace Go.Proofs.YtjlhdfciklnndaaGreat.E
open Go Go.RowKit
set_option maxHeartbeats 4000000
set_option maxRecDepth 10000
set_option linter.unusedSimpArgs false
set_option linter.unusedVariables false
set_option linter.unusedSectionVars false
def dcW1 : Dec := ⟨[(162, .cm [true]), (240, .cm [false, true, false])], [9, 10, 11], [27, 30, 44, 45, 46, 58, 68, 78, 79, 86, 101, 112, 113, 132, 174, 196, 247, 249, 351, 356], false⟩

attribute [-go_sem] fieldT
@[go_sem] theorem fieldT_dig : fieldT Tryz.prog 37 0 = some 22 := by kernel_rfl
def ptrs (n a : Nat) : Nat → List (List AV)
  | 0 => [[.ptr a 0 [] n 0 0], [.ptr a 0 [] n 0 1], [.ptr a 0 [] n 0 2], [.ptr a 0 [] n 0 3], [.ptr a 0 [] n 0 4], [.ptr a 0 [] n 0 5], [.ptr a 0 [] n 0 6]]
  | _ => [[.ptr a 0 [] n 0 7], [.ptr a 0 [] n 0 8], [.ptr a 0 [] n 0 9], [.ptr a 0 [] n 0 10], [.ptr a 0 [] n 0 11], [.ptr a 0 [] n 0 12], [.ptr a 0 [] n 0 13]]
attribute [go_sem] ptrs
theorem wds_s (s : MSlot) : CallM Tryz.prog 162 [(1000000, 0, one ⟨7, [s.cs], 0, false⟩)] [.ptr 1000000 0 [] 7 0 0] (.blk 0 0 [] 1 0 7) [(1000000, 0, one ⟨7, [s.cs], 0, false⟩), (0, 0, one ⟨1, ptrs 7 1000000 0, 0, false⟩)] := by
  refine use_of dcW1 false Tryz.f162 ?_
  conv => enter [1]; reduce
  refine jvM Tryz.f162 29 [.tmp 2] (by kernel_rfl) (by decide +kernel) rfl ?_
  simp -implicitDefEqProofs only [go_sem]
theorem wds_1 (s : MDisk) : CallM Tryz.prog 162 [(1000000, 0, one ⟨14, [s.cs], 0, false⟩)] [.ptr 1000000 0 [] 14 0 0] (.blk 0 0 [] 1 0 7) [(1000000, 0, one ⟨14, [s.cs], 0, false⟩), (0, 0, one ⟨1, ptrs 14 1000000 0, 0, false⟩)] := by
  refine use_of dcW1 false Tryz.f162 ?_
  conv => enter [1]; reduce
  refine jvM Tryz.f162 29 [.tmp 2] (by kernel_rfl) (by decide +kernel) rfl ?_
  simp -implicitDefEqProofs only [go_sem]
theorem wds_2 (s : MDisk) : CallM Tryz.prog 162 [(1000000, 0, one ⟨14, [s.cs], 0, false⟩)] [.ptr 1000000 0 [] 14 0 7] (.blk 0 0 [] 1 0 7) [(1000000, 0, one ⟨14, [s.cs], 0, false⟩), (0, 0, one ⟨1, ptrs 14 1000000 7, 0, false⟩)] := by
  refine use_of dcW1 false Tryz.f162 ?_
  conv => enter [1]; reduce
  refine jvM Tryz.f162 29 [.tmp 2] (by kernel_rfl) (by decide +kernel) rfl ?_
  simp -implicitDefEqProofs only [go_sem]
theorem c245_c (s : MSlot) (h : s.ok) : CallR Tryz.prog 245 [.agg s.cs] (vU (mSum s)) [] := by
  refine use_of dcW1 false Tryz.f245 ?_
  conv => enter [1]; reduce
  refine jvR Tryz.f245 17 [.tmp 2] (by kernel_rfl) (by decide +kernel) rfl ?_
  have hs : ∀ v, (numB v 8).size = 8 := fun v => numB_size v 8
  have hb : s.root.bytes.size = 32 := by unfold MDig.bytes; simp [hs]
  have z1 : ¬ ((((numB s.seq 8).size + (numB s.size 8).size : Nat) : Int) > 9223372036854775807) := by rw [hs, hs]; decide
  have z2 : ¬ ((((numB s.seq 8 ++ numB s.size 8).size + s.root.bytes.size : Nat) : Int) > 9223372036854775807) := by rw [hb]; simp [hs]
  have hh := c133_c (numB s.seq 8 ++ numB s.size 8 ++ s.root.bytes) (by rw [slotW_bytes]; show (slotW s 6).length ≤ _; rw [slotW_len s (by omega)]; omega)
  have eT : (numB s.seq 8 ++ numB s.size 8 ++ s.root.bytes).data.toList = slotW s 6 := by rw [slotW_bytes]
  rw [eT] at hh
  have ho := orI_nat ((mHashOf (slotW s 6)).a.toNat : Int)
  have hm : (orI .u64 ((mHashOf (slotW s 6)).a.toNat : Int) 1).toNat = mSum s := rfl
  rw [hm] at ho
  generalize mHashOf (slotW s 6) = H at *
  simp -implicitDefEqProofs only [go_sem]
  refine Want.intro (c225_c _ h.q) ?_
  simp -implicitDefEqProofs only [go_sem]
  refine Want.intro (c225_c _ h.z) ?_
  simp -implicitDefEqProofs only [go_sem, z1]
  refine Want.intro (c131_c _ h.r) ?_
  simp -implicitDefEqProofs only [go_sem, z2]
  refine Want.intro hh ?_
  simp -implicitDefEqProofs only [go_sem, ho]
theorem c251_c (s : MSlot) : CallR Tryz.prog 251 [.agg s.cs] (vU (mSum s)) [] := by
  refine use_of dcW1 false Tryz.f251 ?_
  conv => enter [1]; reduce
  refine jvR Tryz.f251 25 [.tmp 2] (by kernel_rfl) (by decide +kernel) rfl ?_
  have hh := c148_c ⟨(slotW s 6).toArray⟩ (by show (slotW s 6).length ≤ _; rw [slotW_len s (by omega)]; omega)
  have eT : (⟨(slotW s 6).toArray⟩ : ByteArray).data.toList = slotW s 6 := rfl
  rw [eT] at hh
  have ho := orI_nat ((mHashOf (slotW s 6)).a.toNat : Int)
  have hm : (orI .u64 ((mHashOf (slotW s 6)).a.toNat : Int) 1).toNat = mSum s := rfl
  rw [hm] at ho
  generalize mHashOf (slotW s 6) = H at *
  simp -implicitDefEqProofs only [go_sem]
  refine WantM.intro (wds_s s) ?_
  have h17 : (1 : Int) ≤ ((7 : Nat) : Int) := by decide
  simp -implicitDefEqProofs only [go_sem, h17]
  refine jv_lpN [(3, 1)] (fun m z => ∃ i, i ≤ 6 ∧ m = 6 - i ∧ z = ⟨25, [(3, .blk 3 0 [] 1 0 (slotW s i).length), (7, .blk 7 0 [] 1 1 6), (8, vI ((6 : Nat) : Int)), (9, vI i)], [(3, 0, one ⟨1, (slotW s i).map byteC, 2, false⟩), (7, 0, one ⟨1, ptrs 7 10007 0, 0, false⟩), (10007, 0, one ⟨7, [s.cs], 0, false⟩)], 1⟩) 6 ?_ ?_
  · simp -implicitDefEqProofs only [go_sem]
    exact ⟨0, by omega, rfl, rfl⟩
  · rintro m z ⟨i, hi, rfl, rfl⟩
    have hlen := slotW_len s hi
    have hi' : i = 0 ∨ i = 1 ∨ i = 2 ∨ i = 3 ∨ i = 4 ∨ i = 5 ∨ i = 6 := by omega
    rcases hi' with rfl | rfl | rfl | rfl | rfl | rfl | rfl
    · have hlt' : ((0 : Nat) : Int) < ((6 : Nat) : Int) := by decide
      have w4 : IntKind.i64.wrap (((0 : Nat) : Int) + 1) = ((1 : Nat) : Int) := by decide
      have e : slotW s 1 = slotW s 0 ++ low s.seq 8 := by simp [slotW]
      simp -implicitDefEqProofs only [go_sem, hlt', w4]
      refine WantM.intro (c240_c (slotW s 0) s.seq (by omega)) ?_
      simp -implicitDefEqProofs only [go_sem, w4]
      exact ⟨5 - 0, by omega, 1, by omega, rfl, by rw [e]⟩
    · have hlt' : ((1 : Nat) : Int) < ((6 : Nat) : Int) := by decide
      have w4 : IntKind.i64.wrap (((1 : Nat) : Int) + 1) = ((2 : Nat) : Int) := by decide
      have e : slotW s 2 = slotW s 1 ++ low s.size 8 := by simp [slotW]
      simp -implicitDefEqProofs only [go_sem, hlt', w4]
      refine WantM.intro (c240_c (slotW s 1) s.size (by omega)) ?_
      simp -implicitDefEqProofs only [go_sem, w4]
      exact ⟨5 - 1, by omega, 2, by omega, rfl, by rw [e]⟩
    · have hlt' : ((2 : Nat) : Int) < ((6 : Nat) : Int) := by decide
      have w4 : IntKind.i64.wrap (((2 : Nat) : Int) + 1) = ((3 : Nat) : Int) := by decide
      have e : slotW s 3 = slotW s 2 ++ low s.root.a 8 := by simp [slotW]
      simp -implicitDefEqProofs only [go_sem, hlt', w4]
      refine WantM.intro (c240_c (slotW s 2) s.root.a (by omega)) ?_
      simp -implicitDefEqProofs only [go_sem, w4]
      exact ⟨5 - 2, by omega, 3, by omega, rfl, by rw [e]⟩
    · have hlt' : ((3 : Nat) : Int) < ((6 : Nat) : Int) := by decide
      have w4 : IntKind.i64.wrap (((3 : Nat) : Int) + 1) = ((4 : Nat) : Int) := by decide
      have e : slotW s 4 = slotW s 3 ++ low s.root.b 8 := by simp [slotW]
      simp -implicitDefEqProofs only [go_sem, hlt', w4]
      refine WantM.intro (c240_c (slotW s 3) s.root.b (by omega)) ?_
      simp -implicitDefEqProofs only [go_sem, w4]
      exact ⟨5 - 3, by omega, 4, by omega, rfl, by rw [e]⟩
    · have hlt' : ((4 : Nat) : Int) < ((6 : Nat) : Int) := by decide
      have w4 : IntKind.i64.wrap (((4 : Nat) : Int) + 1) = ((5 : Nat) : Int) := by decide
      have e : slotW s 5 = slotW s 4 ++ low s.root.c 8 := by simp [slotW]
      simp -implicitDefEqProofs only [go_sem, hlt', w4]
      refine WantM.intro (c240_c (slotW s 4) s.root.c (by omega)) ?_
      simp -implicitDefEqProofs only [go_sem, w4]
      exact ⟨5 - 4, by omega, 5, by omega, rfl, by rw [e]⟩
    · have hlt' : ((5 : Nat) : Int) < ((6 : Nat) : Int) := by decide
      have w4 : IntKind.i64.wrap (((5 : Nat) : Int) + 1) = ((6 : Nat) : Int) := by decide
      have e : slotW s 6 = slotW s 5 ++ low s.root.d 8 := by simp [slotW]
      simp -implicitDefEqProofs only [go_sem, hlt', w4]
      refine WantM.intro (c240_c (slotW s 5) s.root.d (by omega)) ?_
      simp -implicitDefEqProofs only [go_sem, w4]
      exact ⟨5 - 5, by omega, 6, by omega, rfl, by rw [e]⟩
    · have hlt' : ¬ (((6 : Nat) : Int) < ((6 : Nat) : Int)) := by decide
      simp -implicitDefEqProofs only [go_sem, hlt', bytes_back]
      refine Want.intro hh ?_
      simp -implicitDefEqProofs only [go_sem, ho]
theorem c161_c (s : MSlot) (h : s.ok) : CallR Tryz.prog 161 [.agg s.cs] (vB (mSlotOk s)) [] := by
  refine use_of dcW1 false Tryz.f161 ?_
  conv => enter [1]; reduce
  refine jvR Tryz.f161 28 [.tmp 2] (by kernel_rfl) (by decide +kernel) rfl ?_
  unfold mSlotOk
  have hs := c251_c s
  generalize mSum s = S at *
  simp -implicitDefEqProofs only [go_sem]
  refine Want.intro hs ?_
  cases e1 : ((s.sum : Int) == (S : Int)) with
  | false => simp -implicitDefEqProofs only [go_sem, e1, guardP_tf, guardP_ff, guardP_ft, guardP_tt, Bool.false_and]
  | true =>
    by_cases e2 : (s.seq : Int) ≥ 1
    · by_cases e3 : (s.seq : Int) ≤ 1000000000
      · by_cases e4 : (s.size : Int) ≥ 1
        · by_cases e5 : (s.size : Int) ≤ 256 <;> simp -implicitDefEqProofs only [go_sem, e1, e2, e3, e4, e5, guardP_tf, guardP_ff, guardP_ft, guardP_tt, Bool.true_and]
        · simp -implicitDefEqProofs only [go_sem, e1, e2, e3, e4, guardP_tf, guardP_ff, guardP_ft, guardP_tt, Bool.true_and, Bool.false_and]
      · simp -implicitDefEqProofs only [go_sem, e1, e2, e3, guardP_tf, guardP_ff, guardP_ft, guardP_tt, Bool.true_and, Bool.false_and]
    · simp -implicitDefEqProofs only [go_sem, e1, e2, guardP_tf, guardP_ff, guardP_ft, guardP_tt, Bool.true_and, Bool.false_and]
theorem c226_c (s : MSlot) (h : s.ok) : CallR Tryz.prog 226 [.agg s.cs] (vB (mSlotOk s)) [] := by
  refine use_of dcW1 false Tryz.f226 ?_
  conv => enter [1]; reduce
  refine jvR Tryz.f226 28 [.tmp 2] (by kernel_rfl) (by decide +kernel) rfl ?_
  unfold mSlotOk
  have hs := c245_c s h
  generalize mSum s = S at *
  simp -implicitDefEqProofs only [go_sem]
  refine Want.intro hs ?_
  cases e1 : ((s.sum : Int) == (S : Int)) with
  | false => simp -implicitDefEqProofs only [go_sem, e1, guardP_tf, guardP_ff, guardP_ft, guardP_tt, Bool.false_and]
  | true =>
    by_cases e2 : (s.seq : Int) ≥ 1
    · by_cases e3 : (s.seq : Int) ≤ 1000000000
      · by_cases e4 : (s.size : Int) ≥ 1
        · by_cases e5 : (s.size : Int) ≤ 256 <;> simp -implicitDefEqProofs only [go_sem, e1, e2, e3, e4, e5, guardP_tf, guardP_ff, guardP_ft, guardP_tt, Bool.true_and]
        · simp -implicitDefEqProofs only [go_sem, e1, e2, e3, e4, guardP_tf, guardP_ff, guardP_ft, guardP_tt, Bool.true_and, Bool.false_and]
      · simp -implicitDefEqProofs only [go_sem, e1, e2, e3, guardP_tf, guardP_ff, guardP_ft, guardP_tt, Bool.true_and, Bool.false_and]
    · simp -implicitDefEqProofs only [go_sem, e1, e2, guardP_tf, guardP_ff, guardP_ft, guardP_tt, Bool.true_and, Bool.false_and]
theorem c147_c (d : MDisk) (h : d.ok) : CallR Tryz.prog 147 [.agg d.cs] (.tup [.agg (mRead d).1.cs, vI (mRead d).2]) [] := by
  refine use_of dcW1 false Tryz.f147 ?_
  conv => enter [1]; reduce
  refine jvR Tryz.f147 39 [.cell 2 214, .tmp 3] (by kernel_rfl) (by decide +kernel) rfl ?_
  have o1 := c161_c d.one h.a
  have o2 := c161_c d.two h.b
  unfold mRead
  simp -implicitDefEqProofs only [go_sem]
  refine Want.intro o1 ?_
  cases h1 : mSlotOk d.one with
  | false =>
    simp -implicitDefEqProofs only [go_sem, h1, condJ_true, condJ_false]
    refine Want.intro o2 ?_
    cases h2 : mSlotOk d.two with
    | false =>
      simp -implicitDefEqProofs only [go_sem, h2, guardP_tf, guardP_ff, guardP_ft, guardP_tt, condJ_true, condJ_false]
      rfl
    | true =>
      have b2 := mSlotOk_bd h2
      have w1 : IntKind.i64.wrap (d.two.seq : Int) = d.two.seq := wrS (by omega)
      have w2 : IntKind.i64.wrap (d.two.size : Int) = d.two.size := wrS (by omega)
      simp -implicitDefEqProofs only [go_sem, h2, guardP_tf, guardP_ff, guardP_ft, guardP_tt, condJ_true, condJ_false, w1, w2]
      rfl
  | true =>
    have b1 := mSlotOk_bd h1
    have w3 : IntKind.i64.wrap (d.one.seq : Int) = d.one.seq := wrS (by omega)
    have w4 : IntKind.i64.wrap (d.one.size : Int) = d.one.size := wrS (by omega)
    simp -implicitDefEqProofs only [go_sem, h1, condJ_true, condJ_false]
    refine Want.intro o2 ?_
    cases h2 : mSlotOk d.two with
    | false =>
      simp -implicitDefEqProofs only [go_sem, h2, guardP_tf, guardP_ff, guardP_ft, guardP_tt, condJ_true, condJ_false, w3, w4]
      rfl
    | true =>
      have b2 := mSlotOk_bd h2
      have w1 : IntKind.i64.wrap (d.two.seq : Int) = d.two.seq := wrS (by omega)
      have w2 : IntKind.i64.wrap (d.two.size : Int) = d.two.size := wrS (by omega)
      by_cases q : d.two.seq > d.one.seq
      · have q' : (d.two.seq : Int) > (d.one.seq : Int) := by omega
        simp -implicitDefEqProofs only [go_sem, h2, q, q', guardP_tf, guardP_ff, guardP_ft, guardP_tt, condJ_true, condJ_false, w1, w2]
        rfl
      · have q' : ¬ ((d.two.seq : Int) > (d.one.seq : Int)) := by omega
        simp -implicitDefEqProofs only [go_sem, h2, q, q', guardP_tf, guardP_ff, guardP_ft, guardP_tt, condJ_true, condJ_false, w3, w4]
        rfl
theorem c132_c (d : MDisk) (h : d.ok) : CallR Tryz.prog 132 [.agg d.cs] (.tup [.agg (mRead d).1.cs, vI (mRead d).2]) [] := by
  refine use_of dcW1 false Tryz.f132 ?_
  conv => enter [1]; reduce
  refine jvR Tryz.f132 52 [.cell 2 214, .tmp 3] (by kernel_rfl) (by decide +kernel) rfl ?_
  have o1 := c226_c d.one h.a
  have o2 := c226_c d.two h.b
  unfold mRead
  simp -implicitDefEqProofs only [go_sem]
  refine Want.intro o1 ?_
  simp -implicitDefEqProofs only [go_sem]
  refine Want.intro o2 ?_
  cases h1 : mSlotOk d.one with
  | false =>
    cases h2 : mSlotOk d.two with
    | false =>
      simp -implicitDefEqProofs only [go_sem, h1, h2, Bool.not_true, Bool.not_false, guardP_tf, guardP_ff, guardP_ft, guardP_tt, condJ_true, condJ_false]
      rfl
    | true =>
      have b2 := mSlotOk_bd h2
      have w1 : IntKind.i64.wrap (d.two.seq : Int) = d.two.seq := wrS (by omega)
      have w2 : IntKind.i64.wrap (d.two.size : Int) = d.two.size := wrS (by omega)
      simp -implicitDefEqProofs only [go_sem, h1, h2, Bool.not_true, Bool.not_false, guardP_tf, guardP_ff, guardP_ft, guardP_tt, condJ_true, condJ_false, w1, w2]
      rfl
  | true =>
    have b1 := mSlotOk_bd h1
    have w3 : IntKind.i64.wrap (d.one.seq : Int) = d.one.seq := wrS (by omega)
    have w4 : IntKind.i64.wrap (d.one.size : Int) = d.one.size := wrS (by omega)
    cases h2 : mSlotOk d.two with
    | false =>
      simp -implicitDefEqProofs only [go_sem, h1, h2, Bool.not_true, Bool.not_false, guardP_tf, guardP_ff, guardP_ft, guardP_tt, condJ_true, condJ_false, w3, w4]
      rfl
    | true =>
      have b2 := mSlotOk_bd h2
      have w1 : IntKind.i64.wrap (d.two.seq : Int) = d.two.seq := wrS (by omega)
      have w2 : IntKind.i64.wrap (d.two.size : Int) = d.two.size := wrS (by omega)
      by_cases q : d.two.seq > d.one.seq
      · have q' : ¬ ((d.one.seq : Int) ≥ (d.two.seq : Int)) := by omega
        simp -implicitDefEqProofs only [go_sem, h1, h2, q, q', Bool.not_true, Bool.not_false, guardP_tf, guardP_ff, guardP_ft, guardP_tt, condJ_true, condJ_false, w1, w2]
        rfl
      · have q' : ((d.one.seq : Int) ≥ (d.two.seq : Int)) := by omega
        simp -implicitDefEqProofs only [go_sem, h1, h2, q, q', Bool.not_true, Bool.not_false, guardP_tf, guardP_ff, guardP_ft, guardP_tt, condJ_true, condJ_false, w3, w4]
        rfl
theorem c49_c (d : MDisk) (h : d.ok) : CallR Tryz.prog 49 [.agg d.cs] (.agg (mHeld d).cs) [] := by
  refine use_of dcW1 false Tryz.f49 ?_
  conv => enter [1]; reduce
  refine jvR Tryz.f49 19 [.cell 2 39] (by kernel_rfl) (by decide +kernel) rfl ?_
  have hr := c147_c d h
  have hHO := c148_c ⟨#[]⟩ (by decide)
  have eHO : mHashOf (⟨#[]⟩ : ByteArray).data.toList = mHashOf [] := rfl
  rw [eHO] at hHO
  unfold mHeld
  generalize mHashOf [] = H at *
  generalize mRead d = R at *
  obtain ⟨r, a⟩ := R
  simp -implicitDefEqProofs only [go_sem]
  refine Want.intro hr ?_
  by_cases e : a = 0
  · subst e
    simp -implicitDefEqProofs only [go_sem, beq_self_eq_true, condJ_true, condJ_false]
    refine Want.intro hHO ?_
    simp -implicitDefEqProofs only [go_sem]
    rfl
  · have e' : (a == 0) = false := beq_eq_false_iff_ne.2 e
    simp -implicitDefEqProofs only [go_sem, e, e', condJ_true, condJ_false]
theorem c45_c (d : MDisk) (h : d.ok) : CallR Tryz.prog 45 [.agg d.cs] (.agg (mHeld d).cs) [] := by
  refine use_of dcW1 false Tryz.f45 ?_
  conv => enter [1]; reduce
  refine jvR Tryz.f45 19 [.cell 2 39] (by kernel_rfl) (by decide +kernel) rfl ?_
  have hr := c132_c d h
  have hHO := c133_c ⟨#[]⟩ (by decide)
  have eHO : mHashOf (⟨#[]⟩ : ByteArray).data.toList = mHashOf [] := rfl
  rw [eHO] at hHO
  unfold mHeld
  generalize mHashOf [] = H at *
  generalize mRead d = R at *
  obtain ⟨r, a⟩ := R
  simp -implicitDefEqProofs only [go_sem]
  refine Want.intro hr ?_
  by_cases e : a = 0
  · subst e
    simp -implicitDefEqProofs only [go_sem, beq_self_eq_true, condJ_true, condJ_false]
    refine Want.intro hHO ?_
    simp -implicitDefEqProofs only [go_sem]
    rfl
  · have e' : (a == 0) = false := beq_eq_false_iff_ne.2 e
    simp -implicitDefEqProofs only [go_sem, e, e', condJ_true, condJ_false]
end Go.Proofs.YtjlhdfciklnndaaGreat.E
