/-
  Contracts: lists in laws (printed by gent.py).
-/
import Derived.Test.YtjlhdfciklnndaaLB
namespace Go.Proofs.Ytjlhdfciklnndaa.E
open Go Go.RowKit
set_option maxHeartbeats 4000000
set_option maxRecDepth 10000
set_option linter.unusedSimpArgs false
set_option linter.unusedVariables false
set_option linter.unusedSectionVars false


def mkAlarm (k : Int) : MAl × Int := (⟨k, k + 1, ⟨k + 1 + 1, ⟨(k + 1 + 1 + 1).toNat, (k + 1 + 1 + 1 + 1).toNat, (k + 1 + 1 + 1 + 1 + 1).toNat, (k + 1 + 1 + 1 + 1 + 1 + 1).toNat⟩⟩, ⟨k + 1 + 1 + 1 + 1 + 1 + 1 + 1, ⟨(k + 1 + 1 + 1 + 1 + 1 + 1 + 1 + 1).toNat, (k + 1 + 1 + 1 + 1 + 1 + 1 + 1 + 1 + 1).toNat, (k + 1 + 1 + 1 + 1 + 1 + 1 + 1 + 1 + 1 + 1).toNat, (k + 1 + 1 + 1 + 1 + 1 + 1 + 1 + 1 + 1 + 1 + 1).toNat⟩⟩, k + 1 + 1 + 1 + 1 + 1 + 1 + 1 + 1 + 1 + 1 + 1 + 1⟩, k + 1 + 1 + 1 + 1 + 1 + 1 + 1 + 1 + 1 + 1 + 1 + 1 + 1)
theorem mkAlarm_num (n : Nat) (k : Int) : (gMark mkAlarm n k).2 = k + 13 * n := by
  induction n with
  | zero => simp [gMark]
  | succ n ih => simp only [gMark, mkAlarm, ih]; omega
theorem zwAlarm {z : Int} (hz : 0 ≤ z ∧ z ≤ 9000000000000) : IntKind.i64.wrap (z + 1) = z + 1 ∧ IntKind.i64.wrap (z + 1 + 1) = z + 1 + 1 ∧ IntKind.i64.wrap (z + 1 + 1 + 1) = z + 1 + 1 + 1 ∧ IntKind.i64.wrap (z + 1 + 1 + 1 + 1) = z + 1 + 1 + 1 + 1 ∧ IntKind.i64.wrap (z + 1 + 1 + 1 + 1 + 1) = z + 1 + 1 + 1 + 1 + 1 ∧ IntKind.i64.wrap (z + 1 + 1 + 1 + 1 + 1 + 1) = z + 1 + 1 + 1 + 1 + 1 + 1 ∧ IntKind.i64.wrap (z + 1 + 1 + 1 + 1 + 1 + 1 + 1) = z + 1 + 1 + 1 + 1 + 1 + 1 + 1 ∧ IntKind.i64.wrap (z + 1 + 1 + 1 + 1 + 1 + 1 + 1 + 1) = z + 1 + 1 + 1 + 1 + 1 + 1 + 1 + 1 ∧ IntKind.i64.wrap (z + 1 + 1 + 1 + 1 + 1 + 1 + 1 + 1 + 1) = z + 1 + 1 + 1 + 1 + 1 + 1 + 1 + 1 + 1 ∧ IntKind.i64.wrap (z + 1 + 1 + 1 + 1 + 1 + 1 + 1 + 1 + 1 + 1) = z + 1 + 1 + 1 + 1 + 1 + 1 + 1 + 1 + 1 + 1 ∧ IntKind.i64.wrap (z + 1 + 1 + 1 + 1 + 1 + 1 + 1 + 1 + 1 + 1 + 1) = z + 1 + 1 + 1 + 1 + 1 + 1 + 1 + 1 + 1 + 1 + 1 ∧ IntKind.i64.wrap (z + 1 + 1 + 1 + 1 + 1 + 1 + 1 + 1 + 1 + 1 + 1 + 1) = z + 1 + 1 + 1 + 1 + 1 + 1 + 1 + 1 + 1 + 1 + 1 + 1 ∧ IntKind.i64.wrap (z + 1 + 1 + 1 + 1 + 1 + 1 + 1 + 1 + 1 + 1 + 1 + 1 + 1) = z + 1 + 1 + 1 + 1 + 1 + 1 + 1 + 1 + 1 + 1 + 1 + 1 + 1 ∧ IntKind.u64.wrap (z + 1 + 1 + 1) = ((z + 1 + 1 + 1).toNat : Int) ∧ IntKind.u64.wrap (z + 1 + 1 + 1 + 1) = ((z + 1 + 1 + 1 + 1).toNat : Int) ∧ IntKind.u64.wrap (z + 1 + 1 + 1 + 1 + 1) = ((z + 1 + 1 + 1 + 1 + 1).toNat : Int) ∧ IntKind.u64.wrap (z + 1 + 1 + 1 + 1 + 1 + 1) = ((z + 1 + 1 + 1 + 1 + 1 + 1).toNat : Int) ∧ IntKind.u64.wrap (z + 1 + 1 + 1 + 1 + 1 + 1 + 1 + 1) = ((z + 1 + 1 + 1 + 1 + 1 + 1 + 1 + 1).toNat : Int) ∧ IntKind.u64.wrap (z + 1 + 1 + 1 + 1 + 1 + 1 + 1 + 1 + 1) = ((z + 1 + 1 + 1 + 1 + 1 + 1 + 1 + 1 + 1).toNat : Int) ∧ IntKind.u64.wrap (z + 1 + 1 + 1 + 1 + 1 + 1 + 1 + 1 + 1 + 1) = ((z + 1 + 1 + 1 + 1 + 1 + 1 + 1 + 1 + 1 + 1).toNat : Int) ∧ IntKind.u64.wrap (z + 1 + 1 + 1 + 1 + 1 + 1 + 1 + 1 + 1 + 1 + 1) = ((z + 1 + 1 + 1 + 1 + 1 + 1 + 1 + 1 + 1 + 1 + 1).toNat : Int) := ⟨wrS (by omega), wrS (by omega), wrS (by omega), wrS (by omega), wrS (by omega), wrS (by omega), wrS (by omega), wrS (by omega), wrS (by omega), wrS (by omega), wrS (by omega), wrS (by omega), wrS (by omega), u64_of (by omega), u64_of (by omega), u64_of (by omega), u64_of (by omega), u64_of (by omega), u64_of (by omega), u64_of (by omega), u64_of (by omega)⟩


end Go.Proofs.Ytjlhdfciklnndaa.E
