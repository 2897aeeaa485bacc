/-
  Contracts: lists in laws (printed by gent.py).
-/
import Derived.Test.YtjlhdfciklnndaaGreatLB
namespace Go.Proofs.YtjlhdfciklnndaaGreat.E
open Go Go.RowKit
set_option maxHeartbeats 4000000
set_option maxRecDepth 10000
set_option linter.unusedSimpArgs false
set_option linter.unusedVariables false
set_option linter.unusedSectionVars false
def dcLBA : Dec := ⟨[], [9, 10, 11], [27, 30, 44, 45, 46, 58, 68, 78, 79, 86, 101, 112, 113, 132, 174, 196, 247, 249, 351, 356], false⟩

theorem c193_c (a : MAl) : CallR Tryz.prog 193 [.agg (MAl.cs a), .agg (MAl.cs a)] (vB true) [] := by
  refine use_of dcLBA false Tryz.f193 ?_
  conv => enter [1]; reduce
  refine jvR Tryz.f193 32 [.tmp 4] (by kernel_rfl) (by decide +kernel) rfl ?_
  simp -implicitDefEqProofs only [go_sem, bne_self_eq_false]
  repeat' first | (refine Want.intro (by first | exact c83_c _) ?_; try simp -implicitDefEqProofs only [go_sem, bne_self_eq_false, eqDig_refl]) | (refine WantM.intro (by first | exact c83_c _) ?_; try simp -implicitDefEqProofs only [go_sem, bne_self_eq_false, eqDig_refl]) | (refine guardP_intro (fun h => ?_) (fun h => ?_) <;> try simp -implicitDefEqProofs only [go_sem, bne_self_eq_false, eqDig_refl, h]) | (refine condJ_intro (fun h => ?_) (fun h => ?_) <;> try simp -implicitDefEqProofs only [go_sem, bne_self_eq_false, eqDig_refl, h])

theorem r79_c (l : List MAl) (hl : l.length ≤ maxLen) : CallR Tryz.prog 79 [.ro 13 (l.map MAl.cs), .ro 13 (l.map MAl.cs)] (vB true) [] := by
  refine use_of dcLBA false Tryz.f79 ?_
  conv => enter [1]; reduce
  refine jvR Tryz.f79 27 [.tmp 4] (by kernel_rfl) (by decide +kernel) rfl ?_
  simp -implicitDefEqProofs only [go_sem, bne_self_eq_false]
  refine jv_lp (fun k s => ∃ (i : Nat), i ≤ l.length ∧ k = l.length - i ∧ s = ⟨27, [(0, .ro 13 (l.map MAl.cs)), (1, .ro 13 (l.map MAl.cs)), (5, vI i)], [], 1⟩) l.length (by simp -implicitDefEqProofs only [go_sem]; exact ⟨0, Nat.zero_le _, rfl, rfl⟩) ?_
  rintro k s ⟨i, hi, rfl, rfl⟩
  rcases Nat.lt_or_ge i l.length with hlt | hge
  · have hlt' : (i : Int) < (l.length : Int) := by omega
    have hg : l[i]? = some l[i] := List.getElem?_eq_getElem hlt
    have hw := wrap_succ hlt hl
    simp -implicitDefEqProofs only [go_sem, hlt', hg, hw, bne_self_eq_false, byNe_self]
    refine Want.intro (c193_c _) ?_
    simp -implicitDefEqProofs only [go_sem, hw, bne_self_eq_false, eqDig_refl]
    exact ⟨_, by omega, i + 1, hlt, rfl, rfl⟩
  · have hi : i = l.length := by omega
    subst hi
    have hlt' : ¬ ((l.length : Int) < (l.length : Int)) := by omega
    simp -implicitDefEqProofs only [go_sem, hlt']
def mkAlarm (k : Int) : MAl × Int := (⟨k, k + 1, ⟨k + 1 + 1, ⟨(k + 1 + 1 + 1).toNat, (k + 1 + 1 + 1 + 1).toNat, (k + 1 + 1 + 1 + 1 + 1).toNat, (k + 1 + 1 + 1 + 1 + 1 + 1).toNat⟩⟩, ⟨k + 1 + 1 + 1 + 1 + 1 + 1 + 1, ⟨(k + 1 + 1 + 1 + 1 + 1 + 1 + 1 + 1).toNat, (k + 1 + 1 + 1 + 1 + 1 + 1 + 1 + 1 + 1).toNat, (k + 1 + 1 + 1 + 1 + 1 + 1 + 1 + 1 + 1 + 1).toNat, (k + 1 + 1 + 1 + 1 + 1 + 1 + 1 + 1 + 1 + 1 + 1).toNat⟩⟩, k + 1 + 1 + 1 + 1 + 1 + 1 + 1 + 1 + 1 + 1 + 1 + 1⟩, k + 1 + 1 + 1 + 1 + 1 + 1 + 1 + 1 + 1 + 1 + 1 + 1 + 1)
theorem mkAlarm_num (n : Nat) (k : Int) : (gMark mkAlarm n k).2 = k + 13 * n := by
  induction n with
  | zero => simp [gMark]
  | succ n ih => simp only [gMark, mkAlarm, ih]; omega
theorem zwAlarm {z : Int} (hz : 0 ≤ z ∧ z ≤ 9000000000000) : IntKind.i64.wrap (z + 1) = z + 1 ∧ IntKind.i64.wrap (z + 1 + 1) = z + 1 + 1 ∧ IntKind.i64.wrap (z + 1 + 1 + 1) = z + 1 + 1 + 1 ∧ IntKind.i64.wrap (z + 1 + 1 + 1 + 1) = z + 1 + 1 + 1 + 1 ∧ IntKind.i64.wrap (z + 1 + 1 + 1 + 1 + 1) = z + 1 + 1 + 1 + 1 + 1 ∧ IntKind.i64.wrap (z + 1 + 1 + 1 + 1 + 1 + 1) = z + 1 + 1 + 1 + 1 + 1 + 1 ∧ IntKind.i64.wrap (z + 1 + 1 + 1 + 1 + 1 + 1 + 1) = z + 1 + 1 + 1 + 1 + 1 + 1 + 1 ∧ IntKind.i64.wrap (z + 1 + 1 + 1 + 1 + 1 + 1 + 1 + 1) = z + 1 + 1 + 1 + 1 + 1 + 1 + 1 + 1 ∧ IntKind.i64.wrap (z + 1 + 1 + 1 + 1 + 1 + 1 + 1 + 1 + 1) = z + 1 + 1 + 1 + 1 + 1 + 1 + 1 + 1 + 1 ∧ IntKind.i64.wrap (z + 1 + 1 + 1 + 1 + 1 + 1 + 1 + 1 + 1 + 1) = z + 1 + 1 + 1 + 1 + 1 + 1 + 1 + 1 + 1 + 1 ∧ IntKind.i64.wrap (z + 1 + 1 + 1 + 1 + 1 + 1 + 1 + 1 + 1 + 1 + 1) = z + 1 + 1 + 1 + 1 + 1 + 1 + 1 + 1 + 1 + 1 + 1 ∧ IntKind.i64.wrap (z + 1 + 1 + 1 + 1 + 1 + 1 + 1 + 1 + 1 + 1 + 1 + 1) = z + 1 + 1 + 1 + 1 + 1 + 1 + 1 + 1 + 1 + 1 + 1 + 1 ∧ IntKind.i64.wrap (z + 1 + 1 + 1 + 1 + 1 + 1 + 1 + 1 + 1 + 1 + 1 + 1 + 1) = z + 1 + 1 + 1 + 1 + 1 + 1 + 1 + 1 + 1 + 1 + 1 + 1 + 1 ∧ IntKind.u64.wrap (z + 1 + 1 + 1) = ((z + 1 + 1 + 1).toNat : Int) ∧ IntKind.u64.wrap (z + 1 + 1 + 1 + 1) = ((z + 1 + 1 + 1 + 1).toNat : Int) ∧ IntKind.u64.wrap (z + 1 + 1 + 1 + 1 + 1) = ((z + 1 + 1 + 1 + 1 + 1).toNat : Int) ∧ IntKind.u64.wrap (z + 1 + 1 + 1 + 1 + 1 + 1) = ((z + 1 + 1 + 1 + 1 + 1 + 1).toNat : Int) ∧ IntKind.u64.wrap (z + 1 + 1 + 1 + 1 + 1 + 1 + 1 + 1) = ((z + 1 + 1 + 1 + 1 + 1 + 1 + 1 + 1).toNat : Int) ∧ IntKind.u64.wrap (z + 1 + 1 + 1 + 1 + 1 + 1 + 1 + 1 + 1) = ((z + 1 + 1 + 1 + 1 + 1 + 1 + 1 + 1 + 1).toNat : Int) ∧ IntKind.u64.wrap (z + 1 + 1 + 1 + 1 + 1 + 1 + 1 + 1 + 1 + 1) = ((z + 1 + 1 + 1 + 1 + 1 + 1 + 1 + 1 + 1 + 1).toNat : Int) ∧ IntKind.u64.wrap (z + 1 + 1 + 1 + 1 + 1 + 1 + 1 + 1 + 1 + 1 + 1) = ((z + 1 + 1 + 1 + 1 + 1 + 1 + 1 + 1 + 1 + 1 + 1).toNat : Int) := ⟨wrS (by omega), wrS (by omega), wrS (by omega), wrS (by omega), wrS (by omega), wrS (by omega), wrS (by omega), wrS (by omega), wrS (by omega), wrS (by omega), wrS (by omega), wrS (by omega), wrS (by omega), u64_of (by omega), u64_of (by omega), u64_of (by omega), u64_of (by omega), u64_of (by omega), u64_of (by omega), u64_of (by omega), u64_of (by omega)⟩

theorem c87_c (l : List MAl) (k : Int) (hl : l.length ≤ 2000000) (hk : 0 ≤ k ∧ k ≤ 1000000000000) : CallM Tryz.prog 87 [(1000000, 0, one ⟨13, l.map MAl.cs, 2, false⟩)] [.blk 1000000 0 [] 13 0 l.length, vI k] (vI (gMark mkAlarm l.length k).2) [(1000000, 0, one ⟨13, (gMark mkAlarm l.length k).1.map MAl.cs, 2, false⟩)] := by
  refine use_of dcLBA false Tryz.f87 ?_
  conv => enter [1]; reduce
  refine jvM Tryz.f87 130 [.tmp 4] (by kernel_rfl) (by decide +kernel) rfl ?_
  have hlm : l.length ≤ maxLen := by unfold maxLen; omega
  simp -implicitDefEqProofs only [go_sem]
  refine jv_lp (fun m s => ∃ (i : Nat), i ≤ l.length ∧ m = l.length - i ∧ s = ⟨130, [(0, .blk 1000000 0 [] 13 0 l.length), (1, vI (gMark mkAlarm i k).2), (5, vI i)], [(1000000, 0, one ⟨13, marked MAl.cs mkAlarm l i k, 2, false⟩)], 1⟩) l.length ?_ ?_
  · simp -implicitDefEqProofs only [go_sem]
    exact ⟨0, Nat.zero_le _, rfl, by simp [marked_zero, gMark]⟩
  · rintro m s ⟨i, hi, rfl, rfl⟩
    rcases Nat.lt_or_ge i l.length with hlt | hge
    · have hlt' : (i : Int) < (l.length : Int) := by omega
      have hw := wrap_succ hlt hlm
      have hnum := mkAlarm_num i k
      have hset := marked_set (E := MAl.cs) (mk := mkAlarm) (k := k) hlt
      have hget := marked_get (E := MAl.cs) (mk := mkAlarm) (k := k) hlt
      have hlen := marked_len (E := MAl.cs) (mk := mkAlarm) (k := k) hi
      have hnx : (gMark mkAlarm (i + 1) k).2 = (gMark mkAlarm i k).2 + 1 + 1 + 1 + 1 + 1 + 1 + 1 + 1 + 1 + 1 + 1 + 1 + 1 := rfl
      generalize marked MAl.cs mkAlarm l i k = L at *
      generalize hzz : (gMark mkAlarm i k).2 = z at *
      have hz : 0 ≤ z ∧ z ≤ 9000000000000 := by omega
      obtain ⟨h1, h2, h3, h4, h5, h6, h7, h8, h9, h10, h11, h12, h13, u4, u5, u6, u7, u9, u10, u11, u12⟩ := zwAlarm hz
      have hself : ∀ x, (L.set i x)[i]? = some x := fun x => List.getElem?_set_self (by omega)
      simp -implicitDefEqProofs only [go_sem, hlt', hw, hlen, hget, hself, h1, h2, h3, h4, h5, h6, h7, h8, h9, h10, h11, h12, h13, u4, u5, u6, u7, u9, u10, u11, u12]
      refine ⟨_, by omega, i + 1, hlt, rfl, ?_⟩
      rw [hnx, ← hset]
      rfl
    · have hi : i = l.length := by omega
      subst hi
      have hlt' : ¬ ((l.length : Int) < (l.length : Int)) := by omega
      have hlen := marked_len (E := MAl.cs) (mk := mkAlarm) (k := k) hi
      simp -implicitDefEqProofs only [go_sem, hlt', marked_all]

theorem r91_c (n : Nat) (k : Int) (hn : n ≤ 2000000) (hk : 0 ≤ k ∧ k ≤ 1000000000000) : CallR Tryz.prog 91 [.ro 13 ((gMark mkAlarm n k).1.map MAl.cs), vI k] (vI (gMark mkAlarm n k).2) [] := by
  refine use_of dcLBA false Tryz.f91 ?_
  conv => enter [1]; reduce
  refine jvR Tryz.f91 156 [.tmp 4] (by kernel_rfl) (by decide +kernel) rfl ?_
  have hlm : n ≤ maxLen := by unfold maxLen; omega
  have hG : (gMark mkAlarm n k).1.length = n := gMark_len
  simp -implicitDefEqProofs only [go_sem]
  refine jv_lp (fun m s => ∃ (i : Nat), i ≤ n ∧ m = n - i ∧ s = ⟨156, [(0, .ro 13 ((gMark mkAlarm n k).1.map MAl.cs)), (1, vI (gMark mkAlarm i k).2), (5, vI i)], [], 1⟩) n ?_ ?_
  · simp -implicitDefEqProofs only [go_sem]
    exact ⟨0, Nat.zero_le _, rfl, rfl⟩
  · rintro m s ⟨i, hi, rfl, rfl⟩
    rcases Nat.lt_or_ge i n with hlt | hge
    · have hlt' : (i : Int) < ((gMark mkAlarm n k).1.length : Int) := by omega
      have hw := wrap_succ hlt hlm
      have hnum := mkAlarm_num i k
      have hg := gMark_get (mk := mkAlarm) (k := k) hlt
      have hnx : (gMark mkAlarm (i + 1) k).2 = (gMark mkAlarm i k).2 + 1 + 1 + 1 + 1 + 1 + 1 + 1 + 1 + 1 + 1 + 1 + 1 + 1 := rfl
      simp only [mkAlarm] at hg
      generalize hzz : (gMark mkAlarm i k).2 = z at *
      have hz : 0 ≤ z ∧ z ≤ 9000000000000 := by omega
      obtain ⟨h1, h2, h3, h4, h5, h6, h7, h8, h9, h10, h11, h12, h13, u4, u5, u6, u7, u9, u10, u11, u12⟩ := zwAlarm hz
      simp -implicitDefEqProofs only [go_sem, hlt', hw, hg, bne_self_eq_false, byNe_self, h1, h2, h3, h4, h5, h6, h7, h8, h9, h10, h11, h12, h13, u4, u5, u6, u7, u9, u10, u11, u12]
      exact ⟨_, by omega, i + 1, hlt, rfl, by rw [hnx]⟩
    · have hi : i = n := by omega
      subst hi
      have hlt' : ¬ ((i : Int) < ((gMark mkAlarm i k).1.length : Int)) := by omega
      simp -implicitDefEqProofs only [go_sem, hlt']
end Go.Proofs.YtjlhdfciklnndaaGreat.E
