/-
  Contract: the byte of a code at a place.
-/
import Derived.Test.YtkhemolkhegppaaD13
namespace Go.Proofs.Ytkhemolkhegppaa.E
open Go Go.RowKit
set_option maxHeartbeats 4000000
set_option maxRecDepth 10000
set_option linter.unusedSimpArgs false
set_option linter.unusedVariables false
set_option linter.unusedSectionVars false
def dcDA : Dec := ⟨[], [9, 10, 11], [22, 28, 34, 35, 36, 42, 43, 48, 179, 193], false⟩

theorem at_c (l : List UInt8) (i : Nat) (hl : l.length ≤ maxLen) (hi : i ≤ 1000) : ∃ v : Nat, v < 256 ∧ CallR Try.prog 13 [.ro 1 (l.map byteC), vI i] (.sc (.int .u8 (v : Int))) [] := by
  unfold maxLen at hl
  by_cases h0 : l.length = 0
  · have e0 : ((l.length : Int) == 0) = true := by rw [h0]; rfl
    refine ⟨_, Nat.mod_lt (i * 37) (by omega), ?_⟩
    refine use_of dcDA false Try.f13 ?_
    conv => enter [1]; reduce
    refine jvR Try.f13 40 [.tmp 4] (by kernel_rfl) (by decide +kernel) rfl ?_
    have w1 : IntKind.i64.wrap ((i : Int) * 37) = ((i * 37 : Nat) : Int) := by rw [wrS (by omega)]; omega
    simp -implicitDefEqProofs only [go_sem, e0, w1, u8_mod, condJ_true]
  · have e0 : ((l.length : Int) == 0) = false := by rw [beq_eq_false_iff_ne]; omega
    by_cases h1 : i < l.length
    · have h1' : (i : Int) < (l.length : Int) := by omega
      have hg := byte_get h1
      refine ⟨_, bL_lt l i, ?_⟩
      refine use_of dcDA false Try.f13 ?_
      conv => enter [1]; reduce
      refine jvR Try.f13 40 [.tmp 4] (by kernel_rfl) (by decide +kernel) rfl ?_
      simp -implicitDefEqProofs only [go_sem, e0, h1', hg, condJ_true, condJ_false]
    · have h1' : ¬ (i : Int) < (l.length : Int) := by omega
      have hL : 0 < l.length := by omega
      have h5 : ¬ ((l.length : Int) = 0) := by omega
      have e1 : (i : Int).tmod (l.length : Int) = ((i % l.length : Nat) : Int) := by rw [Int.tmod_eq_emod_of_nonneg (by omega)]; rfl
      have e2 : IntKind.i64.wrap ((i : Int) * 5) = ((i * 5 : Nat) : Int) := by rw [wrS (by omega)]; omega
      have e3 : IntKind.i64.wrap (((i * 5 : Nat) : Int) + 1) = ((i * 5 + 1 : Nat) : Int) := by rw [wrS (by omega)]; omega
      have e4 : ((i * 5 + 1 : Nat) : Int).tmod (l.length : Int) = (((i * 5 + 1) % l.length : Nat) : Int) := by rw [Int.tmod_eq_emod_of_nonneg (by omega)]; rfl
      have l1 : i % l.length < l.length := Nat.mod_lt _ hL
      have l2 : (i * 5 + 1) % l.length < l.length := Nat.mod_lt _ hL
      have g1 := byte_get l1
      have g2 := byte_get l2
      have l1' : ((i % l.length : Nat) : Int) < (l.length : Int) := by omega
      have l2' : (((i * 5 + 1) % l.length : Nat) : Int) < (l.length : Int) := by omega
      have f1 : IntKind.u8.wrap ((bL l (i % l.length) : Int) * 31) = ((bL l (i % l.length) * 31 % 256 : Nat) : Int) := u8_mod _
      have f2 : ∀ a b : Nat, IntKind.u8.wrap ((a : Int) + (b : Int)) = (((a + b) % 256 : Nat) : Int) := fun a b => u8_mod (a + b)
      refine ⟨_, Nat.mod_lt ((bL l (i % l.length) * 31 % 256 + bL l ((i * 5 + 1) % l.length)) % 256 + i % 256) (by omega), ?_⟩
      refine use_of dcDA false Try.f13 ?_
      conv => enter [1]; reduce
      refine jvR Try.f13 40 [.tmp 4] (by kernel_rfl) (by decide +kernel) rfl ?_
      simp -implicitDefEqProofs only [go_sem, e0, h1', h5, e1, e2, e3, e4, g1, g2, l1', l2', f1, f2, u8_mod, condJ_true, condJ_false]
end Go.Proofs.Ytkhemolkhegppaa.E
