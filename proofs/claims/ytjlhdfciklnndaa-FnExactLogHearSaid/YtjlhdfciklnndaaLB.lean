/-
  Contracts: lists in laws (printed by gent.py).
-/
import Derived.Test.YtjlhdfciklnndaaF7
namespace Go.Proofs.Ytjlhdfciklnndaa.E
open Go Go.RowKit
set_option maxHeartbeats 4000000
set_option maxRecDepth 10000
set_option linter.unusedSimpArgs false
set_option linter.unusedVariables false
set_option linter.unusedSectionVars false
def dcLB : Dec := ⟨[], [9, 10, 11], [22, 43, 84, 88, 103], false⟩
theorem byNe_self (b : ByteArray) : (b.toList != b.toList) = false := by simp


def mkPoint (k : Int) : MPt × Int := (⟨k, ⟨(k + 1).toNat, (k + 1 + 1).toNat, (k + 1 + 1 + 1).toNat, (k + 1 + 1 + 1 + 1).toNat⟩⟩, k + 1 + 1 + 1 + 1 + 1)
theorem mkPoint_num (n : Nat) (k : Int) : (gMark mkPoint n k).2 = k + 5 * n := by
  induction n with
  | zero => simp [gMark]
  | succ n ih => simp only [gMark, mkPoint, ih]; omega
theorem zwPoint {z : Int} (hz : 0 ≤ z ∧ z ≤ 9000000000000) : IntKind.i64.wrap (z + 1) = z + 1 ∧ IntKind.i64.wrap (z + 1 + 1) = z + 1 + 1 ∧ IntKind.i64.wrap (z + 1 + 1 + 1) = z + 1 + 1 + 1 ∧ IntKind.i64.wrap (z + 1 + 1 + 1 + 1) = z + 1 + 1 + 1 + 1 ∧ IntKind.i64.wrap (z + 1 + 1 + 1 + 1 + 1) = z + 1 + 1 + 1 + 1 + 1 ∧ IntKind.u64.wrap (z + 1) = ((z + 1).toNat : Int) ∧ IntKind.u64.wrap (z + 1 + 1) = ((z + 1 + 1).toNat : Int) ∧ IntKind.u64.wrap (z + 1 + 1 + 1) = ((z + 1 + 1 + 1).toNat : Int) ∧ IntKind.u64.wrap (z + 1 + 1 + 1 + 1) = ((z + 1 + 1 + 1 + 1).toNat : Int) := ⟨wrS (by omega), wrS (by omega), wrS (by omega), wrS (by omega), wrS (by omega), u64_of (by omega), u64_of (by omega), u64_of (by omega), u64_of (by omega)⟩



theorem c10_c (a : MLet) : CallR Try.prog 10 [.agg (MLet.cs a), .agg (MLet.cs a)] (vB true) [] := by
  refine use_of dcLB false Try.f10 ?_
  conv => enter [1]; reduce
  refine jvR Try.f10 20 [.tmp 4] (by kernel_rfl) (by decide +kernel) rfl ?_
  simp -implicitDefEqProofs only [go_sem, bne_self_eq_false]

def mkLetter (k : Int) : MLet × Int := (⟨k, k + 1, mText (k + 1 + 1)⟩, k + 1 + 1 + 1)
theorem mkLetter_num (n : Nat) (k : Int) : (gMark mkLetter n k).2 = k + 3 * n := by
  induction n with
  | zero => simp [gMark]
  | succ n ih => simp only [gMark, mkLetter, ih]; omega
theorem zwLetter {z : Int} (hz : 0 ≤ z ∧ z ≤ 9000000000000) : IntKind.i64.wrap (z + 1) = z + 1 ∧ IntKind.i64.wrap (z + 1 + 1) = z + 1 + 1 ∧ IntKind.i64.wrap (z + 1 + 1 + 1) = z + 1 + 1 + 1 := ⟨wrS (by omega), wrS (by omega), wrS (by omega)⟩



def mkInt (k : Int) : Int × Int := (k, k + 1)
theorem mkInt_num (n : Nat) (k : Int) : (gMark mkInt n k).2 = k + 1 * n := by
  induction n with
  | zero => simp [gMark]
  | succ n ih => simp only [gMark, mkInt, ih]; omega
theorem zwInt {z : Int} (hz : 0 ≤ z ∧ z ≤ 9000000000000) : IntKind.i64.wrap (z + 1) = z + 1 := wrS (by omega)



theorem r22_c (l : List ByteArray) (hl : l.length ≤ maxLen) : CallR Try.prog 22 [.ro 1 (l.map leafCs), .ro 1 (l.map leafCs)] (vB true) [] := by
  refine use_of dcLB false Try.f22 ?_
  conv => enter [1]; reduce
  refine jvR Try.f22 26 [.tmp 4] (by kernel_rfl) (by decide +kernel) rfl ?_
  simp -implicitDefEqProofs only [go_sem, bne_self_eq_false]
  refine jv_lp (fun k s => ∃ (i : Nat), i ≤ l.length ∧ k = l.length - i ∧ s = ⟨26, [(0, .ro 1 (l.map leafCs)), (1, .ro 1 (l.map leafCs)), (5, vI i)], [], 1⟩) l.length (by simp -implicitDefEqProofs only [go_sem]; exact ⟨0, Nat.zero_le _, rfl, rfl⟩) ?_
  rintro k s ⟨i, hi, rfl, rfl⟩
  rcases Nat.lt_or_ge i l.length with hlt | hge
  · have hlt' : (i : Int) < (l.length : Int) := by omega
    have hg : l[i]? = some l[i] := List.getElem?_eq_getElem hlt
    have hw := wrap_succ hlt hl
    simp -implicitDefEqProofs only [go_sem, hlt', hg, hw, bne_self_eq_false, byNe_self]
    exact ⟨_, by omega, i + 1, hlt, rfl, rfl⟩
  · have hi : i = l.length := by omega
    subst hi
    have hlt' : ¬ ((l.length : Int) < (l.length : Int)) := by omega
    simp -implicitDefEqProofs only [go_sem, hlt']
theorem zwString {z : Int} (hz : 0 ≤ z ∧ z ≤ 9000000000000) : IntKind.i64.wrap (z + 1) = z + 1 := wrS (by omega)


end Go.Proofs.Ytjlhdfciklnndaa.E
