/-
  Contracts: lists in laws (printed by gent.py).
-/
import Derived.Test.YtjlhdfciklnndaaGreatF7
namespace Go.Proofs.YtjlhdfciklnndaaGreat.E
open Go Go.RowKit
set_option maxHeartbeats 4000000
set_option maxRecDepth 10000
set_option linter.unusedSimpArgs false
set_option linter.unusedVariables false
set_option linter.unusedSectionVars false
def dcLB : Dec := ⟨[], [9, 10, 11], [27, 30, 44, 45, 46, 58, 68, 78, 79, 86, 101, 112, 113, 132, 174, 196, 247, 249, 351, 356], false⟩
theorem byNe_self (b : ByteArray) : (b.toList != b.toList) = false := by simp

theorem c83_c (a : MPt) : CallR Tryz.prog 83 [.agg (MPt.cs a), .agg (MPt.cs a)] (vB true) [] := by
  refine use_of dcLB false Tryz.f83 ?_
  conv => enter [1]; reduce
  refine jvR Tryz.f83 16 [.tmp 4] (by kernel_rfl) (by decide +kernel) rfl ?_
  simp -implicitDefEqProofs only [go_sem, bne_self_eq_false]
  repeat' first | (refine Want.intro (by first | exact c124_c _ _) ?_; try simp -implicitDefEqProofs only [go_sem, bne_self_eq_false, eqDig_refl]) | (refine WantM.intro (by first | exact c124_c _ _) ?_; try simp -implicitDefEqProofs only [go_sem, bne_self_eq_false, eqDig_refl]) | (refine guardP_intro (fun h => ?_) (fun h => ?_) <;> try simp -implicitDefEqProofs only [go_sem, bne_self_eq_false, eqDig_refl, h]) | (refine condJ_intro (fun h => ?_) (fun h => ?_) <;> try simp -implicitDefEqProofs only [go_sem, bne_self_eq_false, eqDig_refl, h])

theorem r80_c (l : List MPt) (hl : l.length ≤ maxLen) : CallR Tryz.prog 80 [.ro 5 (l.map MPt.cs), .ro 5 (l.map MPt.cs)] (vB true) [] := by
  refine use_of dcLB false Tryz.f80 ?_
  conv => enter [1]; reduce
  refine jvR Tryz.f80 27 [.tmp 4] (by kernel_rfl) (by decide +kernel) rfl ?_
  simp -implicitDefEqProofs only [go_sem, bne_self_eq_false]
  refine jv_lp (fun k s => ∃ (i : Nat), i ≤ l.length ∧ k = l.length - i ∧ s = ⟨27, [(0, .ro 5 (l.map MPt.cs)), (1, .ro 5 (l.map MPt.cs)), (5, vI i)], [], 1⟩) l.length (by simp -implicitDefEqProofs only [go_sem]; exact ⟨0, Nat.zero_le _, rfl, rfl⟩) ?_
  rintro k s ⟨i, hi, rfl, rfl⟩
  rcases Nat.lt_or_ge i l.length with hlt | hge
  · have hlt' : (i : Int) < (l.length : Int) := by omega
    have hg : l[i]? = some l[i] := List.getElem?_eq_getElem hlt
    have hw := wrap_succ hlt hl
    simp -implicitDefEqProofs only [go_sem, hlt', hg, hw, bne_self_eq_false, byNe_self]
    refine Want.intro (c83_c _) ?_
    simp -implicitDefEqProofs only [go_sem, hw, bne_self_eq_false, eqDig_refl]
    exact ⟨_, by omega, i + 1, hlt, rfl, rfl⟩
  · have hi : i = l.length := by omega
    subst hi
    have hlt' : ¬ ((l.length : Int) < (l.length : Int)) := by omega
    simp -implicitDefEqProofs only [go_sem, hlt']
def mkPoint (k : Int) : MPt × Int := (⟨k, ⟨(k + 1).toNat, (k + 1 + 1).toNat, (k + 1 + 1 + 1).toNat, (k + 1 + 1 + 1 + 1).toNat⟩⟩, k + 1 + 1 + 1 + 1 + 1)
theorem mkPoint_num (n : Nat) (k : Int) : (gMark mkPoint n k).2 = k + 5 * n := by
  induction n with
  | zero => simp [gMark]
  | succ n ih => simp only [gMark, mkPoint, ih]; omega
theorem zwPoint {z : Int} (hz : 0 ≤ z ∧ z ≤ 9000000000000) : IntKind.i64.wrap (z + 1) = z + 1 ∧ IntKind.i64.wrap (z + 1 + 1) = z + 1 + 1 ∧ IntKind.i64.wrap (z + 1 + 1 + 1) = z + 1 + 1 + 1 ∧ IntKind.i64.wrap (z + 1 + 1 + 1 + 1) = z + 1 + 1 + 1 + 1 ∧ IntKind.i64.wrap (z + 1 + 1 + 1 + 1 + 1) = z + 1 + 1 + 1 + 1 + 1 ∧ IntKind.u64.wrap (z + 1) = ((z + 1).toNat : Int) ∧ IntKind.u64.wrap (z + 1 + 1) = ((z + 1 + 1).toNat : Int) ∧ IntKind.u64.wrap (z + 1 + 1 + 1) = ((z + 1 + 1 + 1).toNat : Int) ∧ IntKind.u64.wrap (z + 1 + 1 + 1 + 1) = ((z + 1 + 1 + 1 + 1).toNat : Int) := ⟨wrS (by omega), wrS (by omega), wrS (by omega), wrS (by omega), wrS (by omega), u64_of (by omega), u64_of (by omega), u64_of (by omega), u64_of (by omega)⟩

theorem c88_c (l : List MPt) (k : Int) (hl : l.length ≤ 2000000) (hk : 0 ≤ k ∧ k ≤ 1000000000000) : CallM Tryz.prog 88 [(1000000, 0, one ⟨5, l.map MPt.cs, 2, false⟩)] [.blk 1000000 0 [] 5 0 l.length, vI k] (vI (gMark mkPoint l.length k).2) [(1000000, 0, one ⟨5, (gMark mkPoint l.length k).1.map MPt.cs, 2, false⟩)] := by
  refine use_of dcLB false Tryz.f88 ?_
  conv => enter [1]; reduce
  refine jvM Tryz.f88 56 [.tmp 4] (by kernel_rfl) (by decide +kernel) rfl ?_
  have hlm : l.length ≤ maxLen := by unfold maxLen; omega
  simp -implicitDefEqProofs only [go_sem]
  refine jv_lp (fun m s => ∃ (i : Nat), i ≤ l.length ∧ m = l.length - i ∧ s = ⟨56, [(0, .blk 1000000 0 [] 5 0 l.length), (1, vI (gMark mkPoint i k).2), (5, vI i)], [(1000000, 0, one ⟨5, marked MPt.cs mkPoint l i k, 2, false⟩)], 1⟩) l.length ?_ ?_
  · simp -implicitDefEqProofs only [go_sem]
    exact ⟨0, Nat.zero_le _, rfl, by simp [marked_zero, gMark]⟩
  · rintro m s ⟨i, hi, rfl, rfl⟩
    rcases Nat.lt_or_ge i l.length with hlt | hge
    · have hlt' : (i : Int) < (l.length : Int) := by omega
      have hw := wrap_succ hlt hlm
      have hnum := mkPoint_num i k
      have hset := marked_set (E := MPt.cs) (mk := mkPoint) (k := k) hlt
      have hget := marked_get (E := MPt.cs) (mk := mkPoint) (k := k) hlt
      have hlen := marked_len (E := MPt.cs) (mk := mkPoint) (k := k) hi
      have hnx : (gMark mkPoint (i + 1) k).2 = (gMark mkPoint i k).2 + 1 + 1 + 1 + 1 + 1 := rfl
      generalize marked MPt.cs mkPoint l i k = L at *
      generalize hzz : (gMark mkPoint i k).2 = z at *
      have hz : 0 ≤ z ∧ z ≤ 9000000000000 := by omega
      obtain ⟨h1, h2, h3, h4, h5, u2, u3, u4, u5⟩ := zwPoint hz
      have hself : ∀ x, (L.set i x)[i]? = some x := fun x => List.getElem?_set_self (by omega)
      simp -implicitDefEqProofs only [go_sem, hlt', hw, hlen, hget, hself, h1, h2, h3, h4, h5, u2, u3, u4, u5]
      refine ⟨_, by omega, i + 1, hlt, rfl, ?_⟩
      rw [hnx, ← hset]
      rfl
    · have hi : i = l.length := by omega
      subst hi
      have hlt' : ¬ ((l.length : Int) < (l.length : Int)) := by omega
      have hlen := marked_len (E := MPt.cs) (mk := mkPoint) (k := k) hi
      simp -implicitDefEqProofs only [go_sem, hlt', marked_all]

theorem r92_c (n : Nat) (k : Int) (hn : n ≤ 2000000) (hk : 0 ≤ k ∧ k ≤ 1000000000000) : CallR Tryz.prog 92 [.ro 5 ((gMark mkPoint n k).1.map MPt.cs), vI k] (vI (gMark mkPoint n k).2) [] := by
  refine use_of dcLB false Tryz.f92 ?_
  conv => enter [1]; reduce
  refine jvR Tryz.f92 66 [.tmp 4] (by kernel_rfl) (by decide +kernel) rfl ?_
  have hlm : n ≤ maxLen := by unfold maxLen; omega
  have hG : (gMark mkPoint n k).1.length = n := gMark_len
  simp -implicitDefEqProofs only [go_sem]
  refine jv_lp (fun m s => ∃ (i : Nat), i ≤ n ∧ m = n - i ∧ s = ⟨66, [(0, .ro 5 ((gMark mkPoint n k).1.map MPt.cs)), (1, vI (gMark mkPoint i k).2), (5, vI i)], [], 1⟩) n ?_ ?_
  · simp -implicitDefEqProofs only [go_sem]
    exact ⟨0, Nat.zero_le _, rfl, rfl⟩
  · rintro m s ⟨i, hi, rfl, rfl⟩
    rcases Nat.lt_or_ge i n with hlt | hge
    · have hlt' : (i : Int) < ((gMark mkPoint n k).1.length : Int) := by omega
      have hw := wrap_succ hlt hlm
      have hnum := mkPoint_num i k
      have hg := gMark_get (mk := mkPoint) (k := k) hlt
      have hnx : (gMark mkPoint (i + 1) k).2 = (gMark mkPoint i k).2 + 1 + 1 + 1 + 1 + 1 := rfl
      simp only [mkPoint] at hg
      generalize hzz : (gMark mkPoint i k).2 = z at *
      have hz : 0 ≤ z ∧ z ≤ 9000000000000 := by omega
      obtain ⟨h1, h2, h3, h4, h5, u2, u3, u4, u5⟩ := zwPoint hz
      simp -implicitDefEqProofs only [go_sem, hlt', hw, hg, bne_self_eq_false, byNe_self, h1, h2, h3, h4, h5, u2, u3, u4, u5]
      exact ⟨_, by omega, i + 1, hlt, rfl, by rw [hnx]⟩
    · have hi : i = n := by omega
      subst hi
      have hlt' : ¬ ((i : Int) < ((gMark mkPoint i k).1.length : Int)) := by omega
      simp -implicitDefEqProofs only [go_sem, hlt']

theorem c192_c (a : MLet) : CallR Tryz.prog 192 [.agg (MLet.cs a), .agg (MLet.cs a)] (vB true) [] := by
  refine use_of dcLB false Tryz.f192 ?_
  conv => enter [1]; reduce
  refine jvR Tryz.f192 20 [.tmp 4] (by kernel_rfl) (by decide +kernel) rfl ?_
  simp -implicitDefEqProofs only [go_sem, bne_self_eq_false]

theorem r78_c (l : List MLet) (hl : l.length ≤ maxLen) : CallR Tryz.prog 78 [.ro 3 (l.map MLet.cs), .ro 3 (l.map MLet.cs)] (vB true) [] := by
  refine use_of dcLB false Tryz.f78 ?_
  conv => enter [1]; reduce
  refine jvR Tryz.f78 27 [.tmp 4] (by kernel_rfl) (by decide +kernel) rfl ?_
  simp -implicitDefEqProofs only [go_sem, bne_self_eq_false]
  refine jv_lp (fun k s => ∃ (i : Nat), i ≤ l.length ∧ k = l.length - i ∧ s = ⟨27, [(0, .ro 3 (l.map MLet.cs)), (1, .ro 3 (l.map MLet.cs)), (5, vI i)], [], 1⟩) l.length (by simp -implicitDefEqProofs only [go_sem]; exact ⟨0, Nat.zero_le _, rfl, rfl⟩) ?_
  rintro k s ⟨i, hi, rfl, rfl⟩
  rcases Nat.lt_or_ge i l.length with hlt | hge
  · have hlt' : (i : Int) < (l.length : Int) := by omega
    have hg : l[i]? = some l[i] := List.getElem?_eq_getElem hlt
    have hw := wrap_succ hlt hl
    simp -implicitDefEqProofs only [go_sem, hlt', hg, hw, bne_self_eq_false, byNe_self]
    refine Want.intro (c192_c _) ?_
    simp -implicitDefEqProofs only [go_sem, hw, bne_self_eq_false, eqDig_refl]
    exact ⟨_, by omega, i + 1, hlt, rfl, rfl⟩
  · have hi : i = l.length := by omega
    subst hi
    have hlt' : ¬ ((l.length : Int) < (l.length : Int)) := by omega
    simp -implicitDefEqProofs only [go_sem, hlt']
def mkLetter (k : Int) : MLet × Int := (⟨k, k + 1, mText (k + 1 + 1)⟩, k + 1 + 1 + 1)
theorem mkLetter_num (n : Nat) (k : Int) : (gMark mkLetter n k).2 = k + 3 * n := by
  induction n with
  | zero => simp [gMark]
  | succ n ih => simp only [gMark, mkLetter, ih]; omega
theorem zwLetter {z : Int} (hz : 0 ≤ z ∧ z ≤ 9000000000000) : IntKind.i64.wrap (z + 1) = z + 1 ∧ IntKind.i64.wrap (z + 1 + 1) = z + 1 + 1 ∧ IntKind.i64.wrap (z + 1 + 1 + 1) = z + 1 + 1 + 1 := ⟨wrS (by omega), wrS (by omega), wrS (by omega)⟩

theorem c86_c (l : List MLet) (k : Int) (hl : l.length ≤ 2000000) (hk : 0 ≤ k ∧ k ≤ 1000000000000) : CallM Tryz.prog 86 [(1000000, 0, one ⟨3, l.map MLet.cs, 2, false⟩)] [.blk 1000000 0 [] 3 0 l.length, vI k] (vI (gMark mkLetter l.length k).2) [(1000000, 0, one ⟨3, (gMark mkLetter l.length k).1.map MLet.cs, 2, false⟩)] := by
  refine use_of dcLB false Tryz.f86 ?_
  conv => enter [1]; reduce
  refine jvM Tryz.f86 35 [.tmp 4] (by kernel_rfl) (by decide +kernel) rfl ?_
  have hlm : l.length ≤ maxLen := by unfold maxLen; omega
  simp -implicitDefEqProofs only [go_sem]
  refine jv_lp (fun m s => ∃ (i : Nat), i ≤ l.length ∧ m = l.length - i ∧ s = ⟨35, [(0, .blk 1000000 0 [] 3 0 l.length), (1, vI (gMark mkLetter i k).2), (5, vI i)], [(1000000, 0, one ⟨3, marked MLet.cs mkLetter l i k, 2, false⟩)], 1⟩) l.length ?_ ?_
  · simp -implicitDefEqProofs only [go_sem]
    exact ⟨0, Nat.zero_le _, rfl, by simp [marked_zero, gMark]⟩
  · rintro m s ⟨i, hi, rfl, rfl⟩
    rcases Nat.lt_or_ge i l.length with hlt | hge
    · have hlt' : (i : Int) < (l.length : Int) := by omega
      have hw := wrap_succ hlt hlm
      have hnum := mkLetter_num i k
      have hset := marked_set (E := MLet.cs) (mk := mkLetter) (k := k) hlt
      have hget := marked_get (E := MLet.cs) (mk := mkLetter) (k := k) hlt
      have hlen := marked_len (E := MLet.cs) (mk := mkLetter) (k := k) hi
      have hnx : (gMark mkLetter (i + 1) k).2 = (gMark mkLetter i k).2 + 1 + 1 + 1 := rfl
      generalize marked MLet.cs mkLetter l i k = L at *
      generalize hzz : (gMark mkLetter i k).2 = z at *
      have hz : 0 ≤ z ∧ z ≤ 9000000000000 := by omega
      obtain ⟨h1, h2, h3⟩ := zwLetter hz
      have hself : ∀ x, (L.set i x)[i]? = some x := fun x => List.getElem?_set_self (by omega)
      simp -implicitDefEqProofs only [go_sem, hlt', hw, hlen, hget, hself, h1, h2, h3]
      refine Want.intro (c196_c _ (by omega)) ?_
      simp -implicitDefEqProofs only [go_sem, hlt', hw, hlen, hget, hself, h1, h2, h3]
      refine ⟨_, by omega, i + 1, hlt, rfl, ?_⟩
      rw [hnx, ← hset]
      rfl
    · have hi : i = l.length := by omega
      subst hi
      have hlt' : ¬ ((l.length : Int) < (l.length : Int)) := by omega
      have hlen := marked_len (E := MLet.cs) (mk := mkLetter) (k := k) hi
      simp -implicitDefEqProofs only [go_sem, hlt', marked_all]

theorem r90_c (n : Nat) (k : Int) (hn : n ≤ 2000000) (hk : 0 ≤ k ∧ k ≤ 1000000000000) : CallR Tryz.prog 90 [.ro 3 ((gMark mkLetter n k).1.map MLet.cs), vI k] (vI (gMark mkLetter n k).2) [] := by
  refine use_of dcLB false Tryz.f90 ?_
  conv => enter [1]; reduce
  refine jvR Tryz.f90 41 [.tmp 4] (by kernel_rfl) (by decide +kernel) rfl ?_
  have hlm : n ≤ maxLen := by unfold maxLen; omega
  have hG : (gMark mkLetter n k).1.length = n := gMark_len
  simp -implicitDefEqProofs only [go_sem]
  refine jv_lp (fun m s => ∃ (i : Nat), i ≤ n ∧ m = n - i ∧ s = ⟨41, [(0, .ro 3 ((gMark mkLetter n k).1.map MLet.cs)), (1, vI (gMark mkLetter i k).2), (5, vI i)], [], 1⟩) n ?_ ?_
  · simp -implicitDefEqProofs only [go_sem]
    exact ⟨0, Nat.zero_le _, rfl, rfl⟩
  · rintro m s ⟨i, hi, rfl, rfl⟩
    rcases Nat.lt_or_ge i n with hlt | hge
    · have hlt' : (i : Int) < ((gMark mkLetter n k).1.length : Int) := by omega
      have hw := wrap_succ hlt hlm
      have hnum := mkLetter_num i k
      have hg := gMark_get (mk := mkLetter) (k := k) hlt
      have hnx : (gMark mkLetter (i + 1) k).2 = (gMark mkLetter i k).2 + 1 + 1 + 1 := rfl
      simp only [mkLetter] at hg
      generalize hzz : (gMark mkLetter i k).2 = z at *
      have hz : 0 ≤ z ∧ z ≤ 9000000000000 := by omega
      obtain ⟨h1, h2, h3⟩ := zwLetter hz
      simp -implicitDefEqProofs only [go_sem, hlt', hw, hg, bne_self_eq_false, byNe_self, h1, h2, h3]
      refine Want.intro (c196_c _ (by omega)) ?_
      simp -implicitDefEqProofs only [go_sem, hlt', hw, hg, bne_self_eq_false, byNe_self, h1, h2, h3]
      exact ⟨_, by omega, i + 1, hlt, rfl, by rw [hnx]⟩
    · have hi : i = n := by omega
      subst hi
      have hlt' : ¬ ((i : Int) < ((gMark mkLetter i k).1.length : Int)) := by omega
      simp -implicitDefEqProofs only [go_sem, hlt']

theorem r194_c (l : List Int) (hl : l.length ≤ maxLen) : CallR Tryz.prog 194 [.ro 1 (l.map intC), .ro 1 (l.map intC)] (vB true) [] := by
  refine use_of dcLB false Tryz.f194 ?_
  conv => enter [1]; reduce
  refine jvR Tryz.f194 26 [.tmp 4] (by kernel_rfl) (by decide +kernel) rfl ?_
  simp -implicitDefEqProofs only [go_sem, bne_self_eq_false]
  refine jv_lp (fun k s => ∃ (i : Nat), i ≤ l.length ∧ k = l.length - i ∧ s = ⟨26, [(0, .ro 1 (l.map intC)), (1, .ro 1 (l.map intC)), (5, vI i)], [], 1⟩) l.length (by simp -implicitDefEqProofs only [go_sem]; exact ⟨0, Nat.zero_le _, rfl, rfl⟩) ?_
  rintro k s ⟨i, hi, rfl, rfl⟩
  rcases Nat.lt_or_ge i l.length with hlt | hge
  · have hlt' : (i : Int) < (l.length : Int) := by omega
    have hg : l[i]? = some l[i] := List.getElem?_eq_getElem hlt
    have hw := wrap_succ hlt hl
    simp -implicitDefEqProofs only [go_sem, hlt', hg, hw, bne_self_eq_false, byNe_self]
    exact ⟨_, by omega, i + 1, hlt, rfl, rfl⟩
  · have hi : i = l.length := by omega
    subst hi
    have hlt' : ¬ ((l.length : Int) < (l.length : Int)) := by omega
    simp -implicitDefEqProofs only [go_sem, hlt']
def mkInt (k : Int) : Int × Int := (k, k + 1)
theorem mkInt_num (n : Nat) (k : Int) : (gMark mkInt n k).2 = k + 1 * n := by
  induction n with
  | zero => simp [gMark]
  | succ n ih => simp only [gMark, mkInt, ih]; omega
theorem zwInt {z : Int} (hz : 0 ≤ z ∧ z ≤ 9000000000000) : IntKind.i64.wrap (z + 1) = z + 1 := wrS (by omega)

theorem c195_c (l : List Int) (k : Int) (hl : l.length ≤ 2000000) (hk : 0 ≤ k ∧ k ≤ 1000000000000) : CallM Tryz.prog 195 [(1000000, 0, one ⟨1, l.map intC, 2, false⟩)] [.blk 1000000 0 [] 1 0 l.length, vI k] (vI (gMark mkInt l.length k).2) [(1000000, 0, one ⟨1, (gMark mkInt l.length k).1.map intC, 2, false⟩)] := by
  refine use_of dcLB false Tryz.f195 ?_
  conv => enter [1]; reduce
  refine jvM Tryz.f195 19 [.tmp 4] (by kernel_rfl) (by decide +kernel) rfl ?_
  have hlm : l.length ≤ maxLen := by unfold maxLen; omega
  simp -implicitDefEqProofs only [go_sem]
  refine jv_lp (fun m s => ∃ (i : Nat), i ≤ l.length ∧ m = l.length - i ∧ s = ⟨19, [(0, .blk 1000000 0 [] 1 0 l.length), (1, vI (gMark mkInt i k).2), (5, vI i)], [(1000000, 0, one ⟨1, marked intC mkInt l i k, 2, false⟩)], 1⟩) l.length ?_ ?_
  · simp -implicitDefEqProofs only [go_sem]
    exact ⟨0, Nat.zero_le _, rfl, by simp [marked_zero, gMark]⟩
  · rintro m s ⟨i, hi, rfl, rfl⟩
    rcases Nat.lt_or_ge i l.length with hlt | hge
    · have hlt' : (i : Int) < (l.length : Int) := by omega
      have hw := wrap_succ hlt hlm
      have hnum := mkInt_num i k
      have hset := marked_set (E := intC) (mk := mkInt) (k := k) hlt
      have hget := marked_get (E := intC) (mk := mkInt) (k := k) hlt
      have hlen := marked_len (E := intC) (mk := mkInt) (k := k) hi
      have hnx : (gMark mkInt (i + 1) k).2 = (gMark mkInt i k).2 + 1 := rfl
      generalize marked intC mkInt l i k = L at *
      generalize hzz : (gMark mkInt i k).2 = z at *
      have hz : 0 ≤ z ∧ z ≤ 9000000000000 := by omega
      have h1 := zwInt hz
      have hself : ∀ x, (L.set i x)[i]? = some x := fun x => List.getElem?_set_self (by omega)
      simp -implicitDefEqProofs only [go_sem, hlt', hw, hlen, hget, hself, h1]
      refine ⟨_, by omega, i + 1, hlt, rfl, ?_⟩
      rw [hnx, ← hset]
      rfl
    · have hi : i = l.length := by omega
      subst hi
      have hlt' : ¬ ((l.length : Int) < (l.length : Int)) := by omega
      have hlen := marked_len (E := intC) (mk := mkInt) (k := k) hi
      simp -implicitDefEqProofs only [go_sem, hlt', marked_all]

theorem r267_c (n : Nat) (k : Int) (hn : n ≤ 2000000) (hk : 0 ≤ k ∧ k ≤ 1000000000000) : CallR Tryz.prog 267 [.ro 1 ((gMark mkInt n k).1.map intC), vI k] (vI (gMark mkInt n k).2) [] := by
  refine use_of dcLB false Tryz.f267 ?_
  conv => enter [1]; reduce
  refine jvR Tryz.f267 21 [.tmp 4] (by kernel_rfl) (by decide +kernel) rfl ?_
  have hlm : n ≤ maxLen := by unfold maxLen; omega
  have hG : (gMark mkInt n k).1.length = n := gMark_len
  simp -implicitDefEqProofs only [go_sem]
  refine jv_lp (fun m s => ∃ (i : Nat), i ≤ n ∧ m = n - i ∧ s = ⟨21, [(0, .ro 1 ((gMark mkInt n k).1.map intC)), (1, vI (gMark mkInt i k).2), (5, vI i)], [], 1⟩) n ?_ ?_
  · simp -implicitDefEqProofs only [go_sem]
    exact ⟨0, Nat.zero_le _, rfl, rfl⟩
  · rintro m s ⟨i, hi, rfl, rfl⟩
    rcases Nat.lt_or_ge i n with hlt | hge
    · have hlt' : (i : Int) < ((gMark mkInt n k).1.length : Int) := by omega
      have hw := wrap_succ hlt hlm
      have hnum := mkInt_num i k
      have hg := gMark_get (mk := mkInt) (k := k) hlt
      have hnx : (gMark mkInt (i + 1) k).2 = (gMark mkInt i k).2 + 1 := rfl
      simp only [mkInt] at hg
      generalize hzz : (gMark mkInt i k).2 = z at *
      have hz : 0 ≤ z ∧ z ≤ 9000000000000 := by omega
      have h1 := zwInt hz
      simp -implicitDefEqProofs only [go_sem, hlt', hw, hg, bne_self_eq_false, byNe_self, h1]
      exact ⟨_, by omega, i + 1, hlt, rfl, by rw [hnx]⟩
    · have hi : i = n := by omega
      subst hi
      have hlt' : ¬ ((i : Int) < ((gMark mkInt i k).1.length : Int)) := by omega
      simp -implicitDefEqProofs only [go_sem, hlt']

theorem r82_c (l : List ByteArray) (hl : l.length ≤ maxLen) : CallR Tryz.prog 82 [.ro 1 (l.map leafCs), .ro 1 (l.map leafCs)] (vB true) [] := by
  refine use_of dcLB false Tryz.f82 ?_
  conv => enter [1]; reduce
  refine jvR Tryz.f82 26 [.tmp 4] (by kernel_rfl) (by decide +kernel) rfl ?_
  simp -implicitDefEqProofs only [go_sem, bne_self_eq_false]
  refine jv_lp (fun k s => ∃ (i : Nat), i ≤ l.length ∧ k = l.length - i ∧ s = ⟨26, [(0, .ro 1 (l.map leafCs)), (1, .ro 1 (l.map leafCs)), (5, vI i)], [], 1⟩) l.length (by simp -implicitDefEqProofs only [go_sem]; exact ⟨0, Nat.zero_le _, rfl, rfl⟩) ?_
  rintro k s ⟨i, hi, rfl, rfl⟩
  rcases Nat.lt_or_ge i l.length with hlt | hge
  · have hlt' : (i : Int) < (l.length : Int) := by omega
    have hg : l[i]? = some l[i] := List.getElem?_eq_getElem hlt
    have hw := wrap_succ hlt hl
    simp -implicitDefEqProofs only [go_sem, hlt', hg, hw, bne_self_eq_false, byNe_self]
    exact ⟨_, by omega, i + 1, hlt, rfl, rfl⟩
  · have hi : i = l.length := by omega
    subst hi
    have hlt' : ¬ ((l.length : Int) < (l.length : Int)) := by omega
    simp -implicitDefEqProofs only [go_sem, hlt']
theorem zwString {z : Int} (hz : 0 ≤ z ∧ z ≤ 9000000000000) : IntKind.i64.wrap (z + 1) = z + 1 := wrS (by omega)

theorem mS85_c (l : List ByteArray) (k : Int) (hl : l.length ≤ 2000000) (hk : 0 ≤ k ∧ k ≤ 1000000000000) : CallM Tryz.prog 85 [(1000000, 0, one ⟨1, l.map leafCs, 2, false⟩)] [.blk 1000000 0 [] 1 0 l.length, vI k] (vI (gMark mkBy l.length k).2) [(1000000, 0, one ⟨1, (gMark mkBy l.length k).1.map leafCs, 2, false⟩)] := by
  refine use_of dcLB false Tryz.f85 ?_
  conv => enter [1]; reduce
  refine jvM Tryz.f85 20 [.tmp 4] (by kernel_rfl) (by decide +kernel) rfl ?_
  have hlm : l.length ≤ maxLen := by unfold maxLen; omega
  simp -implicitDefEqProofs only [go_sem]
  refine jv_lp (fun m s => ∃ (i : Nat), i ≤ l.length ∧ m = l.length - i ∧ s = ⟨20, [(0, .blk 1000000 0 [] 1 0 l.length), (1, vI (gMark mkBy i k).2), (5, vI i)], [(1000000, 0, one ⟨1, marked leafCs mkBy l i k, 2, false⟩)], 1⟩) l.length ?_ ?_
  · simp -implicitDefEqProofs only [go_sem]
    exact ⟨0, Nat.zero_le _, rfl, by simp [marked_zero, gMark]⟩
  · rintro m s ⟨i, hi, rfl, rfl⟩
    rcases Nat.lt_or_ge i l.length with hlt | hge
    · have hlt' : (i : Int) < (l.length : Int) := by omega
      have hw := wrap_succ hlt hlm
      have hnum := mkBy_num i k
      have hset := marked_set (E := leafCs) (mk := mkBy) (k := k) hlt
      have hget := marked_get (E := leafCs) (mk := mkBy) (k := k) hlt
      have hlen := marked_len (E := leafCs) (mk := mkBy) (k := k) hi
      have hnx : (gMark mkBy (i + 1) k).2 = (gMark mkBy i k).2 + 1 := rfl
      generalize marked leafCs mkBy l i k = L at *
      generalize hzz : (gMark mkBy i k).2 = z at *
      have hz : 0 ≤ z ∧ z ≤ 9000000000000 := by omega
      have h1 := zwString hz
      have hself : ∀ x, (L.set i x)[i]? = some x := fun x => List.getElem?_set_self (by omega)
      simp -implicitDefEqProofs only [go_sem, hlt', hw, hlen, hget, hself, h1]
      refine Want.intro (c196_c _ (by omega)) ?_
      simp -implicitDefEqProofs only [go_sem, hlt', hw, hlen, hget, hself, h1]
      refine ⟨_, by omega, i + 1, hlt, rfl, ?_⟩
      rw [hnx, ← hset]
      rfl
    · have hi : i = l.length := by omega
      subst hi
      have hlt' : ¬ ((l.length : Int) < (l.length : Int)) := by omega
      have hlen := marked_len (E := leafCs) (mk := mkBy) (k := k) hi
      simp -implicitDefEqProofs only [go_sem, hlt', marked_all]

theorem r198_c (n : Nat) (k : Int) (hn : n ≤ 2000000) (hk : 0 ≤ k ∧ k ≤ 1000000000000) : CallR Tryz.prog 198 [.ro 1 ((gMark mkBy n k).1.map leafCs), vI k] (vI (gMark mkBy n k).2) [] := by
  refine use_of dcLB false Tryz.f198 ?_
  conv => enter [1]; reduce
  refine jvR Tryz.f198 22 [.tmp 4] (by kernel_rfl) (by decide +kernel) rfl ?_
  have hlm : n ≤ maxLen := by unfold maxLen; omega
  have hG : (gMark mkBy n k).1.length = n := gMark_len
  simp -implicitDefEqProofs only [go_sem]
  refine jv_lp (fun m s => ∃ (i : Nat), i ≤ n ∧ m = n - i ∧ s = ⟨22, [(0, .ro 1 ((gMark mkBy n k).1.map leafCs)), (1, vI (gMark mkBy i k).2), (5, vI i)], [], 1⟩) n ?_ ?_
  · simp -implicitDefEqProofs only [go_sem]
    exact ⟨0, Nat.zero_le _, rfl, rfl⟩
  · rintro m s ⟨i, hi, rfl, rfl⟩
    rcases Nat.lt_or_ge i n with hlt | hge
    · have hlt' : (i : Int) < ((gMark mkBy n k).1.length : Int) := by omega
      have hw := wrap_succ hlt hlm
      have hnum := mkBy_num i k
      have hg := gMark_get (mk := mkBy) (k := k) hlt
      have hnx : (gMark mkBy (i + 1) k).2 = (gMark mkBy i k).2 + 1 := rfl
      simp only [mkBy] at hg
      generalize hzz : (gMark mkBy i k).2 = z at *
      have hz : 0 ≤ z ∧ z ≤ 9000000000000 := by omega
      have h1 := zwString hz
      simp -implicitDefEqProofs only [go_sem, hlt', hw, hg, bne_self_eq_false, byNe_self, h1]
      refine Want.intro (c196_c _ (by omega)) ?_
      simp -implicitDefEqProofs only [go_sem, hlt', hw, hg, bne_self_eq_false, byNe_self, h1]
      exact ⟨_, by omega, i + 1, hlt, rfl, by rw [hnx]⟩
    · have hi : i = n := by omega
      subst hi
      have hlt' : ¬ ((i : Int) < ((gMark mkBy i k).1.length : Int)) := by omega
      simp -implicitDefEqProofs only [go_sem, hlt']
end Go.Proofs.YtjlhdfciklnndaaGreat.E
