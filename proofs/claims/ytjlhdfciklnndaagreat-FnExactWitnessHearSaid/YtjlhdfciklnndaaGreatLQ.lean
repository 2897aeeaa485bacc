/-
  Contracts: lists in laws (printed by gent.py).
-/
import Derived.Test.YtjlhdfciklnndaaGreatW4
namespace Go.Proofs.YtjlhdfciklnndaaGreat.E
open Go Go.RowKit
set_option maxHeartbeats 4000000
set_option maxRecDepth 10000
set_option linter.unusedSimpArgs false
set_option linter.unusedVariables false
set_option linter.unusedSectionVars false
def dcLQ : Dec := ⟨[], [9, 10, 11], [27, 30, 44, 45, 46, 58, 68, 78, 79, 86, 101, 112, 113, 132, 174, 196, 247, 249, 351, 356], false⟩
theorem byNe_self (b : ByteArray) : (b.toList != b.toList) = false := by simp

theorem c83_c (a : MPt) : CallR Tryz.prog 83 [.agg (MPt.cs a), .agg (MPt.cs a)] (vB true) [] := by
  refine use_of dcLQ false Tryz.f83 ?_
  conv => enter [1]; reduce
  refine jvR Tryz.f83 16 [.tmp 4] (by kernel_rfl) (by decide +kernel) rfl ?_
  simp -implicitDefEqProofs only [go_sem, bne_self_eq_false]
  repeat' first | (refine Want.intro (by first | exact c124_c _ _) ?_; try simp -implicitDefEqProofs only [go_sem, bne_self_eq_false, eqDig_refl]) | (refine WantM.intro (by first | exact c124_c _ _) ?_; try simp -implicitDefEqProofs only [go_sem, bne_self_eq_false, eqDig_refl]) | (refine guardP_intro (fun h => ?_) (fun h => ?_) <;> try simp -implicitDefEqProofs only [go_sem, bne_self_eq_false, eqDig_refl, h]) | (refine condJ_intro (fun h => ?_) (fun h => ?_) <;> try simp -implicitDefEqProofs only [go_sem, bne_self_eq_false, eqDig_refl, h])

theorem c192_c (a : MLet) : CallR Tryz.prog 192 [.agg (MLet.cs a), .agg (MLet.cs a)] (vB true) [] := by
  refine use_of dcLQ false Tryz.f192 ?_
  conv => enter [1]; reduce
  refine jvR Tryz.f192 20 [.tmp 4] (by kernel_rfl) (by decide +kernel) rfl ?_
  simp -implicitDefEqProofs only [go_sem, bne_self_eq_false]

theorem r78_c (l : List MLet) (hl : l.length ≤ maxLen) : CallR Tryz.prog 78 [.ro 3 (l.map MLet.cs), .ro 3 (l.map MLet.cs)] (vB true) [] := by
  refine use_of dcLQ false Tryz.f78 ?_
  conv => enter [1]; reduce
  refine jvR Tryz.f78 27 [.tmp 4] (by kernel_rfl) (by decide +kernel) rfl ?_
  simp -implicitDefEqProofs only [go_sem, bne_self_eq_false]
  refine jv_lp (fun k s => ∃ (i : Nat), i ≤ l.length ∧ k = l.length - i ∧ s = ⟨27, [(0, .ro 3 (l.map MLet.cs)), (1, .ro 3 (l.map MLet.cs)), (5, vI i)], [], 1⟩) l.length (by simp -implicitDefEqProofs only [go_sem]; exact ⟨0, Nat.zero_le _, rfl, rfl⟩) ?_
  rintro k s ⟨i, hi, rfl, rfl⟩
  rcases Nat.lt_or_ge i l.length with hlt | hge
  · have hlt' : (i : Int) < (l.length : Int) := by omega
    have hg : l[i]? = some l[i] := List.getElem?_eq_getElem hlt
    have hw := wrap_succ hlt hl
    simp -implicitDefEqProofs only [go_sem, hlt', hg, hw, bne_self_eq_false, byNe_self]
    refine Want.intro (c192_c _) ?_
    simp -implicitDefEqProofs only [go_sem, hw, bne_self_eq_false, eqDig_refl]
    exact ⟨_, by omega, i + 1, hlt, rfl, rfl⟩
  · have hi : i = l.length := by omega
    subst hi
    have hlt' : ¬ ((l.length : Int) < (l.length : Int)) := by omega
    simp -implicitDefEqProofs only [go_sem, hlt']
def mkLetter (k : Int) : MLet × Int := (⟨k, k + 1, mText (k + 1 + 1)⟩, k + 1 + 1 + 1)
theorem mkLetter_num (n : Nat) (k : Int) : (gMark mkLetter n k).2 = k + 3 * n := by
  induction n with
  | zero => simp [gMark]
  | succ n ih => simp only [gMark, mkLetter, ih]; omega
theorem zwLetter {z : Int} (hz : 0 ≤ z ∧ z ≤ 9000000000000) : IntKind.i64.wrap (z + 1) = z + 1 ∧ IntKind.i64.wrap (z + 1 + 1) = z + 1 + 1 ∧ IntKind.i64.wrap (z + 1 + 1 + 1) = z + 1 + 1 + 1 := ⟨wrS (by omega), wrS (by omega), wrS (by omega)⟩

theorem c86_c (l : List MLet) (k : Int) (hl : l.length ≤ 2000000) (hk : 0 ≤ k ∧ k ≤ 1000000000000) : CallM Tryz.prog 86 [(1000000, 0, one ⟨3, l.map MLet.cs, 2, false⟩)] [.blk 1000000 0 [] 3 0 l.length, vI k] (vI (gMark mkLetter l.length k).2) [(1000000, 0, one ⟨3, (gMark mkLetter l.length k).1.map MLet.cs, 2, false⟩)] := by
  refine use_of dcLQ false Tryz.f86 ?_
  conv => enter [1]; reduce
  refine jvM Tryz.f86 35 [.tmp 4] (by kernel_rfl) (by decide +kernel) rfl ?_
  have hlm : l.length ≤ maxLen := by unfold maxLen; omega
  simp -implicitDefEqProofs only [go_sem]
  refine jv_lp (fun m s => ∃ (i : Nat), i ≤ l.length ∧ m = l.length - i ∧ s = ⟨35, [(0, .blk 1000000 0 [] 3 0 l.length), (1, vI (gMark mkLetter i k).2), (5, vI i)], [(1000000, 0, one ⟨3, marked MLet.cs mkLetter l i k, 2, false⟩)], 1⟩) l.length ?_ ?_
  · simp -implicitDefEqProofs only [go_sem]
    exact ⟨0, Nat.zero_le _, rfl, by simp [marked_zero, gMark]⟩
  · rintro m s ⟨i, hi, rfl, rfl⟩
    rcases Nat.lt_or_ge i l.length with hlt | hge
    · have hlt' : (i : Int) < (l.length : Int) := by omega
      have hw := wrap_succ hlt hlm
      have hnum := mkLetter_num i k
      have hset := marked_set (E := MLet.cs) (mk := mkLetter) (k := k) hlt
      have hget := marked_get (E := MLet.cs) (mk := mkLetter) (k := k) hlt
      have hlen := marked_len (E := MLet.cs) (mk := mkLetter) (k := k) hi
      have hnx : (gMark mkLetter (i + 1) k).2 = (gMark mkLetter i k).2 + 1 + 1 + 1 := rfl
      generalize marked MLet.cs mkLetter l i k = L at *
      generalize hzz : (gMark mkLetter i k).2 = z at *
      have hz : 0 ≤ z ∧ z ≤ 9000000000000 := by omega
      obtain ⟨h1, h2, h3⟩ := zwLetter hz
      have hself : ∀ x, (L.set i x)[i]? = some x := fun x => List.getElem?_set_self (by omega)
      simp -implicitDefEqProofs only [go_sem, hlt', hw, hlen, hget, hself, h1, h2, h3]
      refine Want.intro (c196_c _ (by omega)) ?_
      simp -implicitDefEqProofs only [go_sem, hlt', hw, hlen, hget, hself, h1, h2, h3]
      refine ⟨_, by omega, i + 1, hlt, rfl, ?_⟩
      rw [hnx, ← hset]
      rfl
    · have hi : i = l.length := by omega
      subst hi
      have hlt' : ¬ ((l.length : Int) < (l.length : Int)) := by omega
      have hlen := marked_len (E := MLet.cs) (mk := mkLetter) (k := k) hi
      simp -implicitDefEqProofs only [go_sem, hlt', marked_all]

theorem r90_c (n : Nat) (k : Int) (hn : n ≤ 2000000) (hk : 0 ≤ k ∧ k ≤ 1000000000000) : CallR Tryz.prog 90 [.ro 3 ((gMark mkLetter n k).1.map MLet.cs), vI k] (vI (gMark mkLetter n k).2) [] := by
  refine use_of dcLQ false Tryz.f90 ?_
  conv => enter [1]; reduce
  refine jvR Tryz.f90 41 [.tmp 4] (by kernel_rfl) (by decide +kernel) rfl ?_
  have hlm : n ≤ maxLen := by unfold maxLen; omega
  have hG : (gMark mkLetter n k).1.length = n := gMark_len
  simp -implicitDefEqProofs only [go_sem]
  refine jv_lp (fun m s => ∃ (i : Nat), i ≤ n ∧ m = n - i ∧ s = ⟨41, [(0, .ro 3 ((gMark mkLetter n k).1.map MLet.cs)), (1, vI (gMark mkLetter i k).2), (5, vI i)], [], 1⟩) n ?_ ?_
  · simp -implicitDefEqProofs only [go_sem]
    exact ⟨0, Nat.zero_le _, rfl, rfl⟩
  · rintro m s ⟨i, hi, rfl, rfl⟩
    rcases Nat.lt_or_ge i n with hlt | hge
    · have hlt' : (i : Int) < ((gMark mkLetter n k).1.length : Int) := by omega
      have hw := wrap_succ hlt hlm
      have hnum := mkLetter_num i k
      have hg := gMark_get (mk := mkLetter) (k := k) hlt
      have hnx : (gMark mkLetter (i + 1) k).2 = (gMark mkLetter i k).2 + 1 + 1 + 1 := rfl
      simp only [mkLetter] at hg
      generalize hzz : (gMark mkLetter i k).2 = z at *
      have hz : 0 ≤ z ∧ z ≤ 9000000000000 := by omega
      obtain ⟨h1, h2, h3⟩ := zwLetter hz
      simp -implicitDefEqProofs only [go_sem, hlt', hw, hg, bne_self_eq_false, byNe_self, h1, h2, h3]
      refine Want.intro (c196_c _ (by omega)) ?_
      simp -implicitDefEqProofs only [go_sem, hlt', hw, hg, bne_self_eq_false, byNe_self, h1, h2, h3]
      exact ⟨_, by omega, i + 1, hlt, rfl, by rw [hnx]⟩
    · have hi : i = n := by omega
      subst hi
      have hlt' : ¬ ((i : Int) < ((gMark mkLetter i k).1.length : Int)) := by omega
      simp -implicitDefEqProofs only [go_sem, hlt']

theorem c193_c (a : MAl) : CallR Tryz.prog 193 [.agg (MAl.cs a), .agg (MAl.cs a)] (vB true) [] := by
  refine use_of dcLQ false Tryz.f193 ?_
  conv => enter [1]; reduce
  refine jvR Tryz.f193 32 [.tmp 4] (by kernel_rfl) (by decide +kernel) rfl ?_
  simp -implicitDefEqProofs only [go_sem, bne_self_eq_false]
  repeat' first | (refine Want.intro (by first | exact c83_c _) ?_; try simp -implicitDefEqProofs only [go_sem, bne_self_eq_false, eqDig_refl]) | (refine WantM.intro (by first | exact c83_c _) ?_; try simp -implicitDefEqProofs only [go_sem, bne_self_eq_false, eqDig_refl]) | (refine guardP_intro (fun h => ?_) (fun h => ?_) <;> try simp -implicitDefEqProofs only [go_sem, bne_self_eq_false, eqDig_refl, h]) | (refine condJ_intro (fun h => ?_) (fun h => ?_) <;> try simp -implicitDefEqProofs only [go_sem, bne_self_eq_false, eqDig_refl, h])

theorem r79_c (l : List MAl) (hl : l.length ≤ maxLen) : CallR Tryz.prog 79 [.ro 13 (l.map MAl.cs), .ro 13 (l.map MAl.cs)] (vB true) [] := by
  refine use_of dcLQ false Tryz.f79 ?_
  conv => enter [1]; reduce
  refine jvR Tryz.f79 27 [.tmp 4] (by kernel_rfl) (by decide +kernel) rfl ?_
  simp -implicitDefEqProofs only [go_sem, bne_self_eq_false]
  refine jv_lp (fun k s => ∃ (i : Nat), i ≤ l.length ∧ k = l.length - i ∧ s = ⟨27, [(0, .ro 13 (l.map MAl.cs)), (1, .ro 13 (l.map MAl.cs)), (5, vI i)], [], 1⟩) l.length (by simp -implicitDefEqProofs only [go_sem]; exact ⟨0, Nat.zero_le _, rfl, rfl⟩) ?_
  rintro k s ⟨i, hi, rfl, rfl⟩
  rcases Nat.lt_or_ge i l.length with hlt | hge
  · have hlt' : (i : Int) < (l.length : Int) := by omega
    have hg : l[i]? = some l[i] := List.getElem?_eq_getElem hlt
    have hw := wrap_succ hlt hl
    simp -implicitDefEqProofs only [go_sem, hlt', hg, hw, bne_self_eq_false, byNe_self]
    refine Want.intro (c193_c _) ?_
    simp -implicitDefEqProofs only [go_sem, hw, bne_self_eq_false, eqDig_refl]
    exact ⟨_, by omega, i + 1, hlt, rfl, rfl⟩
  · have hi : i = l.length := by omega
    subst hi
    have hlt' : ¬ ((l.length : Int) < (l.length : Int)) := by omega
    simp -implicitDefEqProofs only [go_sem, hlt']
def mkAlarm (k : Int) : MAl × Int := (⟨k, k + 1, ⟨k + 1 + 1, ⟨(k + 1 + 1 + 1).toNat, (k + 1 + 1 + 1 + 1).toNat, (k + 1 + 1 + 1 + 1 + 1).toNat, (k + 1 + 1 + 1 + 1 + 1 + 1).toNat⟩⟩, ⟨k + 1 + 1 + 1 + 1 + 1 + 1 + 1, ⟨(k + 1 + 1 + 1 + 1 + 1 + 1 + 1 + 1).toNat, (k + 1 + 1 + 1 + 1 + 1 + 1 + 1 + 1 + 1).toNat, (k + 1 + 1 + 1 + 1 + 1 + 1 + 1 + 1 + 1 + 1).toNat, (k + 1 + 1 + 1 + 1 + 1 + 1 + 1 + 1 + 1 + 1 + 1).toNat⟩⟩, k + 1 + 1 + 1 + 1 + 1 + 1 + 1 + 1 + 1 + 1 + 1 + 1⟩, k + 1 + 1 + 1 + 1 + 1 + 1 + 1 + 1 + 1 + 1 + 1 + 1 + 1)
theorem mkAlarm_num (n : Nat) (k : Int) : (gMark mkAlarm n k).2 = k + 13 * n := by
  induction n with
  | zero => simp [gMark]
  | succ n ih => simp only [gMark, mkAlarm, ih]; omega
theorem zwAlarm {z : Int} (hz : 0 ≤ z ∧ z ≤ 9000000000000) : IntKind.i64.wrap (z + 1) = z + 1 ∧ IntKind.i64.wrap (z + 1 + 1) = z + 1 + 1 ∧ IntKind.i64.wrap (z + 1 + 1 + 1) = z + 1 + 1 + 1 ∧ IntKind.i64.wrap (z + 1 + 1 + 1 + 1) = z + 1 + 1 + 1 + 1 ∧ IntKind.i64.wrap (z + 1 + 1 + 1 + 1 + 1) = z + 1 + 1 + 1 + 1 + 1 ∧ IntKind.i64.wrap (z + 1 + 1 + 1 + 1 + 1 + 1) = z + 1 + 1 + 1 + 1 + 1 + 1 ∧ IntKind.i64.wrap (z + 1 + 1 + 1 + 1 + 1 + 1 + 1) = z + 1 + 1 + 1 + 1 + 1 + 1 + 1 ∧ IntKind.i64.wrap (z + 1 + 1 + 1 + 1 + 1 + 1 + 1 + 1) = z + 1 + 1 + 1 + 1 + 1 + 1 + 1 + 1 ∧ IntKind.i64.wrap (z + 1 + 1 + 1 + 1 + 1 + 1 + 1 + 1 + 1) = z + 1 + 1 + 1 + 1 + 1 + 1 + 1 + 1 + 1 ∧ IntKind.i64.wrap (z + 1 + 1 + 1 + 1 + 1 + 1 + 1 + 1 + 1 + 1) = z + 1 + 1 + 1 + 1 + 1 + 1 + 1 + 1 + 1 + 1 ∧ IntKind.i64.wrap (z + 1 + 1 + 1 + 1 + 1 + 1 + 1 + 1 + 1 + 1 + 1) = z + 1 + 1 + 1 + 1 + 1 + 1 + 1 + 1 + 1 + 1 + 1 ∧ IntKind.i64.wrap (z + 1 + 1 + 1 + 1 + 1 + 1 + 1 + 1 + 1 + 1 + 1 + 1) = z + 1 + 1 + 1 + 1 + 1 + 1 + 1 + 1 + 1 + 1 + 1 + 1 ∧ IntKind.i64.wrap (z + 1 + 1 + 1 + 1 + 1 + 1 + 1 + 1 + 1 + 1 + 1 + 1 + 1) = z + 1 + 1 + 1 + 1 + 1 + 1 + 1 + 1 + 1 + 1 + 1 + 1 + 1 ∧ IntKind.u64.wrap (z + 1 + 1 + 1) = ((z + 1 + 1 + 1).toNat : Int) ∧ IntKind.u64.wrap (z + 1 + 1 + 1 + 1) = ((z + 1 + 1 + 1 + 1).toNat : Int) ∧ IntKind.u64.wrap (z + 1 + 1 + 1 + 1 + 1) = ((z + 1 + 1 + 1 + 1 + 1).toNat : Int) ∧ IntKind.u64.wrap (z + 1 + 1 + 1 + 1 + 1 + 1) = ((z + 1 + 1 + 1 + 1 + 1 + 1).toNat : Int) ∧ IntKind.u64.wrap (z + 1 + 1 + 1 + 1 + 1 + 1 + 1 + 1) = ((z + 1 + 1 + 1 + 1 + 1 + 1 + 1 + 1).toNat : Int) ∧ IntKind.u64.wrap (z + 1 + 1 + 1 + 1 + 1 + 1 + 1 + 1 + 1) = ((z + 1 + 1 + 1 + 1 + 1 + 1 + 1 + 1 + 1).toNat : Int) ∧ IntKind.u64.wrap (z + 1 + 1 + 1 + 1 + 1 + 1 + 1 + 1 + 1 + 1) = ((z + 1 + 1 + 1 + 1 + 1 + 1 + 1 + 1 + 1 + 1).toNat : Int) ∧ IntKind.u64.wrap (z + 1 + 1 + 1 + 1 + 1 + 1 + 1 + 1 + 1 + 1 + 1) = ((z + 1 + 1 + 1 + 1 + 1 + 1 + 1 + 1 + 1 + 1 + 1).toNat : Int) := ⟨wrS (by omega), wrS (by omega), wrS (by omega), wrS (by omega), wrS (by omega), wrS (by omega), wrS (by omega), wrS (by omega), wrS (by omega), wrS (by omega), wrS (by omega), wrS (by omega), wrS (by omega), u64_of (by omega), u64_of (by omega), u64_of (by omega), u64_of (by omega), u64_of (by omega), u64_of (by omega), u64_of (by omega), u64_of (by omega)⟩

theorem c87_c (l : List MAl) (k : Int) (hl : l.length ≤ 2000000) (hk : 0 ≤ k ∧ k ≤ 1000000000000) : CallM Tryz.prog 87 [(1000000, 0, one ⟨13, l.map MAl.cs, 2, false⟩)] [.blk 1000000 0 [] 13 0 l.length, vI k] (vI (gMark mkAlarm l.length k).2) [(1000000, 0, one ⟨13, (gMark mkAlarm l.length k).1.map MAl.cs, 2, false⟩)] := by
  refine use_of dcLQ false Tryz.f87 ?_
  conv => enter [1]; reduce
  refine jvM Tryz.f87 130 [.tmp 4] (by kernel_rfl) (by decide +kernel) rfl ?_
  have hlm : l.length ≤ maxLen := by unfold maxLen; omega
  simp -implicitDefEqProofs only [go_sem]
  refine jv_lp (fun m s => ∃ (i : Nat), i ≤ l.length ∧ m = l.length - i ∧ s = ⟨130, [(0, .blk 1000000 0 [] 13 0 l.length), (1, vI (gMark mkAlarm i k).2), (5, vI i)], [(1000000, 0, one ⟨13, marked MAl.cs mkAlarm l i k, 2, false⟩)], 1⟩) l.length ?_ ?_
  · simp -implicitDefEqProofs only [go_sem]
    exact ⟨0, Nat.zero_le _, rfl, by simp [marked_zero, gMark]⟩
  · rintro m s ⟨i, hi, rfl, rfl⟩
    rcases Nat.lt_or_ge i l.length with hlt | hge
    · have hlt' : (i : Int) < (l.length : Int) := by omega
      have hw := wrap_succ hlt hlm
      have hnum := mkAlarm_num i k
      have hset := marked_set (E := MAl.cs) (mk := mkAlarm) (k := k) hlt
      have hget := marked_get (E := MAl.cs) (mk := mkAlarm) (k := k) hlt
      have hlen := marked_len (E := MAl.cs) (mk := mkAlarm) (k := k) hi
      have hnx : (gMark mkAlarm (i + 1) k).2 = (gMark mkAlarm i k).2 + 1 + 1 + 1 + 1 + 1 + 1 + 1 + 1 + 1 + 1 + 1 + 1 + 1 := rfl
      generalize marked MAl.cs mkAlarm l i k = L at *
      generalize hzz : (gMark mkAlarm i k).2 = z at *
      have hz : 0 ≤ z ∧ z ≤ 9000000000000 := by omega
      obtain ⟨h1, h2, h3, h4, h5, h6, h7, h8, h9, h10, h11, h12, h13, u4, u5, u6, u7, u9, u10, u11, u12⟩ := zwAlarm hz
      have hself : ∀ x, (L.set i x)[i]? = some x := fun x => List.getElem?_set_self (by omega)
      simp -implicitDefEqProofs only [go_sem, hlt', hw, hlen, hget, hself, h1, h2, h3, h4, h5, h6, h7, h8, h9, h10, h11, h12, h13, u4, u5, u6, u7, u9, u10, u11, u12]
      refine ⟨_, by omega, i + 1, hlt, rfl, ?_⟩
      rw [hnx, ← hset]
      rfl
    · have hi : i = l.length := by omega
      subst hi
      have hlt' : ¬ ((l.length : Int) < (l.length : Int)) := by omega
      have hlen := marked_len (E := MAl.cs) (mk := mkAlarm) (k := k) hi
      simp -implicitDefEqProofs only [go_sem, hlt', marked_all]

theorem r91_c (n : Nat) (k : Int) (hn : n ≤ 2000000) (hk : 0 ≤ k ∧ k ≤ 1000000000000) : CallR Tryz.prog 91 [.ro 13 ((gMark mkAlarm n k).1.map MAl.cs), vI k] (vI (gMark mkAlarm n k).2) [] := by
  refine use_of dcLQ false Tryz.f91 ?_
  conv => enter [1]; reduce
  refine jvR Tryz.f91 156 [.tmp 4] (by kernel_rfl) (by decide +kernel) rfl ?_
  have hlm : n ≤ maxLen := by unfold maxLen; omega
  have hG : (gMark mkAlarm n k).1.length = n := gMark_len
  simp -implicitDefEqProofs only [go_sem]
  refine jv_lp (fun m s => ∃ (i : Nat), i ≤ n ∧ m = n - i ∧ s = ⟨156, [(0, .ro 13 ((gMark mkAlarm n k).1.map MAl.cs)), (1, vI (gMark mkAlarm i k).2), (5, vI i)], [], 1⟩) n ?_ ?_
  · simp -implicitDefEqProofs only [go_sem]
    exact ⟨0, Nat.zero_le _, rfl, rfl⟩
  · rintro m s ⟨i, hi, rfl, rfl⟩
    rcases Nat.lt_or_ge i n with hlt | hge
    · have hlt' : (i : Int) < ((gMark mkAlarm n k).1.length : Int) := by omega
      have hw := wrap_succ hlt hlm
      have hnum := mkAlarm_num i k
      have hg := gMark_get (mk := mkAlarm) (k := k) hlt
      have hnx : (gMark mkAlarm (i + 1) k).2 = (gMark mkAlarm i k).2 + 1 + 1 + 1 + 1 + 1 + 1 + 1 + 1 + 1 + 1 + 1 + 1 + 1 := rfl
      simp only [mkAlarm] at hg
      generalize hzz : (gMark mkAlarm i k).2 = z at *
      have hz : 0 ≤ z ∧ z ≤ 9000000000000 := by omega
      obtain ⟨h1, h2, h3, h4, h5, h6, h7, h8, h9, h10, h11, h12, h13, u4, u5, u6, u7, u9, u10, u11, u12⟩ := zwAlarm hz
      simp -implicitDefEqProofs only [go_sem, hlt', hw, hg, bne_self_eq_false, byNe_self, h1, h2, h3, h4, h5, h6, h7, h8, h9, h10, h11, h12, h13, u4, u5, u6, u7, u9, u10, u11, u12]
      exact ⟨_, by omega, i + 1, hlt, rfl, by rw [hnx]⟩
    · have hi : i = n := by omega
      subst hi
      have hlt' : ¬ ((i : Int) < ((gMark mkAlarm i k).1.length : Int)) := by omega
      simp -implicitDefEqProofs only [go_sem, hlt']

theorem c257_c (a : MWish) : CallR Tryz.prog 257 [.agg (MWish.cs a), .agg (MWish.cs a)] (vB true) [] := by
  refine use_of dcLQ false Tryz.f257 ?_
  conv => enter [1]; reduce
  refine jvR Tryz.f257 21 [.tmp 4] (by kernel_rfl) (by decide +kernel) rfl ?_
  simp -implicitDefEqProofs only [go_sem, bne_self_eq_false]
  repeat' first | (refine Want.intro (by first | exact c83_c _) ?_; try simp -implicitDefEqProofs only [go_sem, bne_self_eq_false, eqDig_refl]) | (refine WantM.intro (by first | exact c83_c _) ?_; try simp -implicitDefEqProofs only [go_sem, bne_self_eq_false, eqDig_refl]) | (refine guardP_intro (fun h => ?_) (fun h => ?_) <;> try simp -implicitDefEqProofs only [go_sem, bne_self_eq_false, eqDig_refl, h]) | (refine condJ_intro (fun h => ?_) (fun h => ?_) <;> try simp -implicitDefEqProofs only [go_sem, bne_self_eq_false, eqDig_refl, h])

theorem r170_c (l : List MWish) (hl : l.length ≤ maxLen) : CallR Tryz.prog 170 [.ro 7 (l.map MWish.cs), .ro 7 (l.map MWish.cs)] (vB true) [] := by
  refine use_of dcLQ false Tryz.f170 ?_
  conv => enter [1]; reduce
  refine jvR Tryz.f170 27 [.tmp 4] (by kernel_rfl) (by decide +kernel) rfl ?_
  simp -implicitDefEqProofs only [go_sem, bne_self_eq_false]
  refine jv_lp (fun k s => ∃ (i : Nat), i ≤ l.length ∧ k = l.length - i ∧ s = ⟨27, [(0, .ro 7 (l.map MWish.cs)), (1, .ro 7 (l.map MWish.cs)), (5, vI i)], [], 1⟩) l.length (by simp -implicitDefEqProofs only [go_sem]; exact ⟨0, Nat.zero_le _, rfl, rfl⟩) ?_
  rintro k s ⟨i, hi, rfl, rfl⟩
  rcases Nat.lt_or_ge i l.length with hlt | hge
  · have hlt' : (i : Int) < (l.length : Int) := by omega
    have hg : l[i]? = some l[i] := List.getElem?_eq_getElem hlt
    have hw := wrap_succ hlt hl
    simp -implicitDefEqProofs only [go_sem, hlt', hg, hw, bne_self_eq_false, byNe_self]
    refine Want.intro (c257_c _) ?_
    simp -implicitDefEqProofs only [go_sem, hw, bne_self_eq_false, eqDig_refl]
    exact ⟨_, by omega, i + 1, hlt, rfl, rfl⟩
  · have hi : i = l.length := by omega
    subst hi
    have hlt' : ¬ ((l.length : Int) < (l.length : Int)) := by omega
    simp -implicitDefEqProofs only [go_sem, hlt']
def mkWish (k : Int) : MWish × Int := (⟨k, k + 1, ⟨k + 1 + 1, ⟨(k + 1 + 1 + 1).toNat, (k + 1 + 1 + 1 + 1).toNat, (k + 1 + 1 + 1 + 1 + 1).toNat, (k + 1 + 1 + 1 + 1 + 1 + 1).toNat⟩⟩⟩, k + 1 + 1 + 1 + 1 + 1 + 1 + 1)
theorem mkWish_num (n : Nat) (k : Int) : (gMark mkWish n k).2 = k + 7 * n := by
  induction n with
  | zero => simp [gMark]
  | succ n ih => simp only [gMark, mkWish, ih]; omega
theorem zwWish {z : Int} (hz : 0 ≤ z ∧ z ≤ 9000000000000) : IntKind.i64.wrap (z + 1) = z + 1 ∧ IntKind.i64.wrap (z + 1 + 1) = z + 1 + 1 ∧ IntKind.i64.wrap (z + 1 + 1 + 1) = z + 1 + 1 + 1 ∧ IntKind.i64.wrap (z + 1 + 1 + 1 + 1) = z + 1 + 1 + 1 + 1 ∧ IntKind.i64.wrap (z + 1 + 1 + 1 + 1 + 1) = z + 1 + 1 + 1 + 1 + 1 ∧ IntKind.i64.wrap (z + 1 + 1 + 1 + 1 + 1 + 1) = z + 1 + 1 + 1 + 1 + 1 + 1 ∧ IntKind.i64.wrap (z + 1 + 1 + 1 + 1 + 1 + 1 + 1) = z + 1 + 1 + 1 + 1 + 1 + 1 + 1 ∧ IntKind.u64.wrap (z + 1 + 1 + 1) = ((z + 1 + 1 + 1).toNat : Int) ∧ IntKind.u64.wrap (z + 1 + 1 + 1 + 1) = ((z + 1 + 1 + 1 + 1).toNat : Int) ∧ IntKind.u64.wrap (z + 1 + 1 + 1 + 1 + 1) = ((z + 1 + 1 + 1 + 1 + 1).toNat : Int) ∧ IntKind.u64.wrap (z + 1 + 1 + 1 + 1 + 1 + 1) = ((z + 1 + 1 + 1 + 1 + 1 + 1).toNat : Int) := ⟨wrS (by omega), wrS (by omega), wrS (by omega), wrS (by omega), wrS (by omega), wrS (by omega), wrS (by omega), u64_of (by omega), u64_of (by omega), u64_of (by omega), u64_of (by omega)⟩

theorem c171_c (l : List MWish) (k : Int) (hl : l.length ≤ 2000000) (hk : 0 ≤ k ∧ k ≤ 1000000000000) : CallM Tryz.prog 171 [(1000000, 0, one ⟨7, l.map MWish.cs, 2, false⟩)] [.blk 1000000 0 [] 7 0 l.length, vI k] (vI (gMark mkWish l.length k).2) [(1000000, 0, one ⟨7, (gMark mkWish l.length k).1.map MWish.cs, 2, false⟩)] := by
  refine use_of dcLQ false Tryz.f171 ?_
  conv => enter [1]; reduce
  refine jvM Tryz.f171 75 [.tmp 4] (by kernel_rfl) (by decide +kernel) rfl ?_
  have hlm : l.length ≤ maxLen := by unfold maxLen; omega
  simp -implicitDefEqProofs only [go_sem]
  refine jv_lp (fun m s => ∃ (i : Nat), i ≤ l.length ∧ m = l.length - i ∧ s = ⟨75, [(0, .blk 1000000 0 [] 7 0 l.length), (1, vI (gMark mkWish i k).2), (5, vI i)], [(1000000, 0, one ⟨7, marked MWish.cs mkWish l i k, 2, false⟩)], 1⟩) l.length ?_ ?_
  · simp -implicitDefEqProofs only [go_sem]
    exact ⟨0, Nat.zero_le _, rfl, by simp [marked_zero, gMark]⟩
  · rintro m s ⟨i, hi, rfl, rfl⟩
    rcases Nat.lt_or_ge i l.length with hlt | hge
    · have hlt' : (i : Int) < (l.length : Int) := by omega
      have hw := wrap_succ hlt hlm
      have hnum := mkWish_num i k
      have hset := marked_set (E := MWish.cs) (mk := mkWish) (k := k) hlt
      have hget := marked_get (E := MWish.cs) (mk := mkWish) (k := k) hlt
      have hlen := marked_len (E := MWish.cs) (mk := mkWish) (k := k) hi
      have hnx : (gMark mkWish (i + 1) k).2 = (gMark mkWish i k).2 + 1 + 1 + 1 + 1 + 1 + 1 + 1 := rfl
      generalize marked MWish.cs mkWish l i k = L at *
      generalize hzz : (gMark mkWish i k).2 = z at *
      have hz : 0 ≤ z ∧ z ≤ 9000000000000 := by omega
      obtain ⟨h1, h2, h3, h4, h5, h6, h7, u4, u5, u6, u7⟩ := zwWish hz
      have hself : ∀ x, (L.set i x)[i]? = some x := fun x => List.getElem?_set_self (by omega)
      simp -implicitDefEqProofs only [go_sem, hlt', hw, hlen, hget, hself, h1, h2, h3, h4, h5, h6, h7, u4, u5, u6, u7]
      refine ⟨_, by omega, i + 1, hlt, rfl, ?_⟩
      rw [hnx, ← hset]
      rfl
    · have hi : i = l.length := by omega
      subst hi
      have hlt' : ¬ ((l.length : Int) < (l.length : Int)) := by omega
      have hlen := marked_len (E := MWish.cs) (mk := mkWish) (k := k) hi
      simp -implicitDefEqProofs only [go_sem, hlt', marked_all]

theorem r259_c (n : Nat) (k : Int) (hn : n ≤ 2000000) (hk : 0 ≤ k ∧ k ≤ 1000000000000) : CallR Tryz.prog 259 [.ro 7 ((gMark mkWish n k).1.map MWish.cs), vI k] (vI (gMark mkWish n k).2) [] := by
  refine use_of dcLQ false Tryz.f259 ?_
  conv => enter [1]; reduce
  refine jvR Tryz.f259 89 [.tmp 4] (by kernel_rfl) (by decide +kernel) rfl ?_
  have hlm : n ≤ maxLen := by unfold maxLen; omega
  have hG : (gMark mkWish n k).1.length = n := gMark_len
  simp -implicitDefEqProofs only [go_sem]
  refine jv_lp (fun m s => ∃ (i : Nat), i ≤ n ∧ m = n - i ∧ s = ⟨89, [(0, .ro 7 ((gMark mkWish n k).1.map MWish.cs)), (1, vI (gMark mkWish i k).2), (5, vI i)], [], 1⟩) n ?_ ?_
  · simp -implicitDefEqProofs only [go_sem]
    exact ⟨0, Nat.zero_le _, rfl, rfl⟩
  · rintro m s ⟨i, hi, rfl, rfl⟩
    rcases Nat.lt_or_ge i n with hlt | hge
    · have hlt' : (i : Int) < ((gMark mkWish n k).1.length : Int) := by omega
      have hw := wrap_succ hlt hlm
      have hnum := mkWish_num i k
      have hg := gMark_get (mk := mkWish) (k := k) hlt
      have hnx : (gMark mkWish (i + 1) k).2 = (gMark mkWish i k).2 + 1 + 1 + 1 + 1 + 1 + 1 + 1 := rfl
      simp only [mkWish] at hg
      generalize hzz : (gMark mkWish i k).2 = z at *
      have hz : 0 ≤ z ∧ z ≤ 9000000000000 := by omega
      obtain ⟨h1, h2, h3, h4, h5, h6, h7, u4, u5, u6, u7⟩ := zwWish hz
      simp -implicitDefEqProofs only [go_sem, hlt', hw, hg, bne_self_eq_false, byNe_self, h1, h2, h3, h4, h5, h6, h7, u4, u5, u6, u7]
      exact ⟨_, by omega, i + 1, hlt, rfl, by rw [hnx]⟩
    · have hi : i = n := by omega
      subst hi
      have hlt' : ¬ ((i : Int) < ((gMark mkWish i k).1.length : Int)) := by omega
      simp -implicitDefEqProofs only [go_sem, hlt']

theorem c254_c (a : MRaw) : CallR Tryz.prog 254 [.agg (MRaw.cs a), .agg (MRaw.cs a)] (vB true) [] := by
  refine use_of dcLQ false Tryz.f254 ?_
  conv => enter [1]; reduce
  refine jvR Tryz.f254 20 [.tmp 4] (by kernel_rfl) (by decide +kernel) rfl ?_
  simp -implicitDefEqProofs only [go_sem, bne_self_eq_false]

theorem r167_c (l : List MRaw) (hl : l.length ≤ maxLen) : CallR Tryz.prog 167 [.ro 3 (l.map MRaw.cs), .ro 3 (l.map MRaw.cs)] (vB true) [] := by
  refine use_of dcLQ false Tryz.f167 ?_
  conv => enter [1]; reduce
  refine jvR Tryz.f167 27 [.tmp 4] (by kernel_rfl) (by decide +kernel) rfl ?_
  simp -implicitDefEqProofs only [go_sem, bne_self_eq_false]
  refine jv_lp (fun k s => ∃ (i : Nat), i ≤ l.length ∧ k = l.length - i ∧ s = ⟨27, [(0, .ro 3 (l.map MRaw.cs)), (1, .ro 3 (l.map MRaw.cs)), (5, vI i)], [], 1⟩) l.length (by simp -implicitDefEqProofs only [go_sem]; exact ⟨0, Nat.zero_le _, rfl, rfl⟩) ?_
  rintro k s ⟨i, hi, rfl, rfl⟩
  rcases Nat.lt_or_ge i l.length with hlt | hge
  · have hlt' : (i : Int) < (l.length : Int) := by omega
    have hg : l[i]? = some l[i] := List.getElem?_eq_getElem hlt
    have hw := wrap_succ hlt hl
    simp -implicitDefEqProofs only [go_sem, hlt', hg, hw, bne_self_eq_false, byNe_self]
    refine Want.intro (c254_c _) ?_
    simp -implicitDefEqProofs only [go_sem, hw, bne_self_eq_false, eqDig_refl]
    exact ⟨_, by omega, i + 1, hlt, rfl, rfl⟩
  · have hi : i = l.length := by omega
    subst hi
    have hlt' : ¬ ((l.length : Int) < (l.length : Int)) := by omega
    simp -implicitDefEqProofs only [go_sem, hlt']
def mkRaw (k : Int) : MRaw × Int := (⟨k, k + 1, (k + 1 + 1).toNat⟩, k + 1 + 1 + 1)
theorem mkRaw_num (n : Nat) (k : Int) : (gMark mkRaw n k).2 = k + 3 * n := by
  induction n with
  | zero => simp [gMark]
  | succ n ih => simp only [gMark, mkRaw, ih]; omega
theorem zwRaw {z : Int} (hz : 0 ≤ z ∧ z ≤ 9000000000000) : IntKind.i64.wrap (z + 1) = z + 1 ∧ IntKind.i64.wrap (z + 1 + 1) = z + 1 + 1 ∧ IntKind.i64.wrap (z + 1 + 1 + 1) = z + 1 + 1 + 1 ∧ IntKind.u64.wrap (z + 1 + 1) = ((z + 1 + 1).toNat : Int) := ⟨wrS (by omega), wrS (by omega), wrS (by omega), u64_of (by omega)⟩

theorem c172_c (l : List MRaw) (k : Int) (hl : l.length ≤ 2000000) (hk : 0 ≤ k ∧ k ≤ 1000000000000) : CallM Tryz.prog 172 [(1000000, 0, one ⟨3, l.map MRaw.cs, 2, false⟩)] [.blk 1000000 0 [] 3 0 l.length, vI k] (vI (gMark mkRaw l.length k).2) [(1000000, 0, one ⟨3, (gMark mkRaw l.length k).1.map MRaw.cs, 2, false⟩)] := by
  refine use_of dcLQ false Tryz.f172 ?_
  conv => enter [1]; reduce
  refine jvM Tryz.f172 35 [.tmp 4] (by kernel_rfl) (by decide +kernel) rfl ?_
  have hlm : l.length ≤ maxLen := by unfold maxLen; omega
  simp -implicitDefEqProofs only [go_sem]
  refine jv_lp (fun m s => ∃ (i : Nat), i ≤ l.length ∧ m = l.length - i ∧ s = ⟨35, [(0, .blk 1000000 0 [] 3 0 l.length), (1, vI (gMark mkRaw i k).2), (5, vI i)], [(1000000, 0, one ⟨3, marked MRaw.cs mkRaw l i k, 2, false⟩)], 1⟩) l.length ?_ ?_
  · simp -implicitDefEqProofs only [go_sem]
    exact ⟨0, Nat.zero_le _, rfl, by simp [marked_zero, gMark]⟩
  · rintro m s ⟨i, hi, rfl, rfl⟩
    rcases Nat.lt_or_ge i l.length with hlt | hge
    · have hlt' : (i : Int) < (l.length : Int) := by omega
      have hw := wrap_succ hlt hlm
      have hnum := mkRaw_num i k
      have hset := marked_set (E := MRaw.cs) (mk := mkRaw) (k := k) hlt
      have hget := marked_get (E := MRaw.cs) (mk := mkRaw) (k := k) hlt
      have hlen := marked_len (E := MRaw.cs) (mk := mkRaw) (k := k) hi
      have hnx : (gMark mkRaw (i + 1) k).2 = (gMark mkRaw i k).2 + 1 + 1 + 1 := rfl
      generalize marked MRaw.cs mkRaw l i k = L at *
      generalize hzz : (gMark mkRaw i k).2 = z at *
      have hz : 0 ≤ z ∧ z ≤ 9000000000000 := by omega
      obtain ⟨h1, h2, h3, u3⟩ := zwRaw hz
      have hself : ∀ x, (L.set i x)[i]? = some x := fun x => List.getElem?_set_self (by omega)
      simp -implicitDefEqProofs only [go_sem, hlt', hw, hlen, hget, hself, h1, h2, h3, u3]
      refine ⟨_, by omega, i + 1, hlt, rfl, ?_⟩
      rw [hnx, ← hset]
      rfl
    · have hi : i = l.length := by omega
      subst hi
      have hlt' : ¬ ((l.length : Int) < (l.length : Int)) := by omega
      have hlen := marked_len (E := MRaw.cs) (mk := mkRaw) (k := k) hi
      simp -implicitDefEqProofs only [go_sem, hlt', marked_all]

theorem r175_c (n : Nat) (k : Int) (hn : n ≤ 2000000) (hk : 0 ≤ k ∧ k ≤ 1000000000000) : CallR Tryz.prog 175 [.ro 3 ((gMark mkRaw n k).1.map MRaw.cs), vI k] (vI (gMark mkRaw n k).2) [] := by
  refine use_of dcLQ false Tryz.f175 ?_
  conv => enter [1]; reduce
  refine jvR Tryz.f175 41 [.tmp 4] (by kernel_rfl) (by decide +kernel) rfl ?_
  have hlm : n ≤ maxLen := by unfold maxLen; omega
  have hG : (gMark mkRaw n k).1.length = n := gMark_len
  simp -implicitDefEqProofs only [go_sem]
  refine jv_lp (fun m s => ∃ (i : Nat), i ≤ n ∧ m = n - i ∧ s = ⟨41, [(0, .ro 3 ((gMark mkRaw n k).1.map MRaw.cs)), (1, vI (gMark mkRaw i k).2), (5, vI i)], [], 1⟩) n ?_ ?_
  · simp -implicitDefEqProofs only [go_sem]
    exact ⟨0, Nat.zero_le _, rfl, rfl⟩
  · rintro m s ⟨i, hi, rfl, rfl⟩
    rcases Nat.lt_or_ge i n with hlt | hge
    · have hlt' : (i : Int) < ((gMark mkRaw n k).1.length : Int) := by omega
      have hw := wrap_succ hlt hlm
      have hnum := mkRaw_num i k
      have hg := gMark_get (mk := mkRaw) (k := k) hlt
      have hnx : (gMark mkRaw (i + 1) k).2 = (gMark mkRaw i k).2 + 1 + 1 + 1 := rfl
      simp only [mkRaw] at hg
      generalize hzz : (gMark mkRaw i k).2 = z at *
      have hz : 0 ≤ z ∧ z ≤ 9000000000000 := by omega
      obtain ⟨h1, h2, h3, u3⟩ := zwRaw hz
      simp -implicitDefEqProofs only [go_sem, hlt', hw, hg, bne_self_eq_false, byNe_self, h1, h2, h3, u3]
      exact ⟨_, by omega, i + 1, hlt, rfl, by rw [hnx]⟩
    · have hi : i = n := by omega
      subst hi
      have hlt' : ¬ ((i : Int) < ((gMark mkRaw i k).1.length : Int)) := by omega
      simp -implicitDefEqProofs only [go_sem, hlt']

def szN (left n : Int) : Int := if left - n < 0 then -1 else left - n
theorem c11_c (l : MLet) (left : Int) (hl : l.text.size ≤ maxLen) (h : 0 ≤ left ∧ left ≤ 1048576) : CallR Tryz.prog 11 [.agg l.cs, vI left] (vI (szN left l.text.size)) [] := by
  refine use_of dcLQ false Tryz.f11 ?_
  conv => enter [1]; reduce
  refine jvR Tryz.f11 13 [.tmp 4] (by kernel_rfl) (by decide +kernel) rfl ?_
  have w1 : IntKind.i64.wrap (left - (l.text.size : Int)) = left - (l.text.size : Int) := wrS (by unfold maxLen at hl; omega)
  unfold szN
  simp -implicitDefEqProofs only [go_sem, w1]
  refine condJ_intro (fun h => ?_) (fun h => ?_)
  · have h' := of_decide_eq_true h
    rw [if_pos h']
    simp -implicitDefEqProofs only [go_sem, h]
  · have h' := of_decide_eq_false h
    rw [if_neg h']
    simp -implicitDefEqProofs only [go_sem, h]
theorem szN_bd {left : Int} {n : Nat} (h : ¬ szN left n < 0) : (n : Int) ≤ left ∧ szN left n = left - n := by
  unfold szN at h ⊢
  split at h
  · omega
  · rename_i h1
    rw [if_neg h1]
    omega
theorem szN_neg {left : Int} {n : Nat} (h : szN left n < 0) : szN left n = -1 := by
  unfold szN at h ⊢
  split
  · rfl
  · rename_i h1
    rw [if_neg h1] at h
    omega
theorem c120_c (d : MDig) : CallR Tryz.prog 120 [.agg d.cs] (.agg d.cs) [] := by
  refine use_of dcLQ false Tryz.f120 ?_
  conv => enter [1]; reduce
  refine jvR Tryz.f120 17 [.cell 2 37] (by kernel_rfl) (by decide +kernel) rfl ?_
  simp -implicitDefEqProofs only [go_sem]
theorem c34_c (p : MPt) : CallR Tryz.prog 34 [.agg p.cs] (.agg p.cs) [] := by
  refine use_of dcLQ false Tryz.f34 ?_
  conv => enter [1]; reduce
  refine jvR Tryz.f34 12 [.cell 2 39] (by kernel_rfl) (by decide +kernel) rfl ?_
  simp -implicitDefEqProofs only [go_sem]
  refine Want.intro (c120_c p.root) ?_
  simp -implicitDefEqProofs only [go_sem]
theorem c14_c (l : MLet) : CallR Tryz.prog 14 [.agg l.cs] (.agg l.cs) [] := by
  refine use_of dcLQ false Tryz.f14 ?_
  conv => enter [1]; reduce
  refine jvR Tryz.f14 14 [.cell 2 51] (by kernel_rfl) (by decide +kernel) rfl ?_
  simp -implicitDefEqProofs only [go_sem]
def setFr {α : Type} (E : α → List AV) (z : List AV) (l : List α) (i : Nat) : List (List AV) := (l.take i).map E ++ List.replicate (l.length - i) z
theorem setFr_len {α : Type} {E : α → List AV} {z : List AV} {l : List α} {i : Nat} (h : i ≤ l.length) : (setFr E z l i).length = l.length := by simp [setFr]; omega
theorem setFr_zero {α : Type} {E : α → List AV} {z : List AV} {l : List α} : setFr E z l 0 = List.replicate l.length z := by simp [setFr]
theorem setFr_all {α : Type} {E : α → List AV} {z : List AV} {l : List α} : setFr E z l l.length = l.map E := by simp [setFr]
theorem setFr_get {α : Type} {E : α → List AV} {z : List AV} {l : List α} {i : Nat} (h : i < l.length) : (setFr E z l i)[i]? = some z := by
  unfold setFr
  rw [List.getElem?_append_right (by simp; omega), List.length_map, List.length_take, Nat.min_eq_left (by omega), Nat.sub_self, List.getElem?_replicate, if_pos (by omega)]
theorem setFr_set {α : Type} {E : α → List AV} {z : List AV} {l : List α} {i : Nat} (h : i < l.length) : (setFr E z l i).set i (E l[i]) = setFr E z l (i + 1) := by
  unfold setFr
  rw [List.set_append_right _ _ (by simp; omega), List.length_map, List.length_take, Nat.min_eq_left (by omega), Nat.sub_self, show l.length - i = (l.length - (i + 1)) + 1 by omega, List.replicate_succ, List.set_cons_zero, List.take_succ_eq_append_getElem h, List.map_append, List.append_assoc]
  rfl
end Go.Proofs.YtjlhdfciklnndaaGreat.E
