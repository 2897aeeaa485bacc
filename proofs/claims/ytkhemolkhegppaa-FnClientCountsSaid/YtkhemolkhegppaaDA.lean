/-
  Contract: the byte of a code at a place.
-/
import Derived.Test.YtkhemolkhegppaaD13
namespace Go.Proofs.Ytkhemolkhegppaa.E
open Go Go.RowKit
set_option maxHeartbeats 4000000
set_option maxRecDepth 10000
set_option linter.unusedSimpArgs false
set_option linter.unusedVariables false
set_option linter.unusedSectionVars false
@[go_sem] def c13 : SC J := .sq [0, 1] (.reg [.p (.as 4 (.const (.int .u8 0)))])
 (.sq [0, 1] (.sq [0, 1, 7] (.reg [.p (.mv 5 (.tmp 0)), .p (.ln 6 22 (.tmp 5)), .p (.bn 7 .eql 3 (.tmp 6) (.const (.int .i64 0)) 3)])
   (.cond (.tmp 7)
    (.sq [4] (.reg [.p (.mv 8 (.tmp 1)), .p (.bn 9 .mul 3 (.tmp 8) (.const (.int .i64 37)) 3), .p (.cv 10 3 5 (.tmp 9)), .p (.as 4 (.tmp 10))])
     (.ret))
    (.skip)))
  (.sq [0, 1] (.sq [0, 1, 14] (.reg [.p (.mv 11 (.tmp 1)), .p (.mv 12 (.tmp 0)), .p (.ln 13 22 (.tmp 12)), .p (.bn 14 .lss 3 (.tmp 11) (.tmp 13) 3)])
    (.cond (.tmp 14)
     (.sq [4] (.reg [.p (.mv 15 (.tmp 0)), .p (.mv 16 (.tmp 1)), .p (.ia 17 22 (.tmp 15) (.tmp 16)), .p (.ld 18 5 (.tmp 17)), .p (.as 4 (.tmp 18))])
      (.ret))
     (.skip)))
   (.sq [4] (.dr (.pu 0 (.pu 1 (.pu 2 (.pu 3 (.pu 4 (.pu 5 (.pu 6 (.pu 7 (.pu 8 (.pu 9 (.pu 10 (.pu 11 (.pu 12 (.pu 13 (.pu 14 (.pu 15 (.pu 16 (.pu 17 (.pu 18 (.pu 19 (.pu 20 (.pu 21 (.nil))))))))))))))))))))))) [[], [], [], [2], [1, 2, 3], [0, 1, 2, 3, 4], [0, 1, 2, 3, 4, 5], [0, 1, 2, 3, 4, 5, 6], [], [], [9], [9, 10], [], [12], [9, 10, 11, 12, 13], [8, 9, 10, 11, 12, 13, 14], [8, 9, 10, 11, 12, 13, 14, 15], [0, 1, 2, 3, 4, 5, 6, 7, 8, 9, 10, 11, 12, 13, 14, 15, 16], [], [18], [0, 1, 2, 3, 4, 5, 6, 7, 8, 9, 10, 11, 12, 13, 14, 15, 16, 17, 18, 19], [0, 1, 2, 3, 4, 5, 6, 7, 8, 9, 10, 11, 12, 13, 14, 15, 16, 17, 18, 19, 20]] [.p (.mv 19 (.tmp 0)), .p (.mv 20 (.tmp 1)), .p (.mv 21 (.tmp 0)), .p (.ln 22 22 (.tmp 21)), .p (.bn 23 .rem 3 (.tmp 20) (.tmp 22) 3), .p (.ia 24 22 (.tmp 19) (.tmp 23)), .p (.ld 25 5 (.tmp 24)), .p (.bn 26 .mul 5 (.tmp 25) (.const (.int .u8 31)) 5), .p (.mv 27 (.tmp 0)), .p (.mv 28 (.tmp 1)), .p (.bn 29 .mul 3 (.tmp 28) (.const (.int .i64 5)) 3), .p (.bn 30 .add 3 (.tmp 29) (.const (.int .i64 1)) 3), .p (.mv 31 (.tmp 0)), .p (.ln 32 22 (.tmp 31)), .p (.bn 33 .rem 3 (.tmp 30) (.tmp 32) 3), .p (.ia 34 22 (.tmp 27) (.tmp 33)), .p (.ld 35 5 (.tmp 34)), .p (.bn 36 .add 5 (.tmp 26) (.tmp 35) 5), .p (.mv 37 (.tmp 1)), .p (.cv 38 3 5 (.tmp 37)), .p (.bn 39 .add 5 (.tmp 36) (.tmp 38) 5), .p (.as 4 (.tmp 39))] [[], [], [], [2], [1, 3], [0, 4], [5], [6], [], [], [9], [10], [], [12], [11, 13], [8, 14], [15], [7, 16], [], [18], [17, 19], [20, 0, 1, 2, 3, 4, 5, 6, 7, 8, 9, 10, 11, 12, 13, 14, 15, 16, 17, 18, 19, 20]])
    (.ret))))
theorem b13 : BodyOK Try.prog 13 c13 40 [.tmp 4] := ⟨Try.f13, by kernel_rfl, by kernel_rfl, by kernel_rfl, by kernel_rfl, by kernel_rfl⟩
set_option maxRecDepth 100000 in
@[go_sem] theorem k13_0 : chkT (.pu 0 (.pu 1 (.pu 2 (.pu 3 (.pu 4 (.pu 5 (.pu 6 (.pu 7 (.pu 8 (.pu 9 (.pu 10 (.pu 11 (.pu 12 (.pu 13 (.pu 14 (.pu 15 (.pu 16 (.pu 17 (.pu 18 (.pu 19 (.pu 20 (.pu 21 (.nil))))))))))))))))))))))) [[], [], [], [2], [1, 2, 3], [0, 1, 2, 3, 4], [0, 1, 2, 3, 4, 5], [0, 1, 2, 3, 4, 5, 6], [], [], [9], [9, 10], [], [12], [9, 10, 11, 12, 13], [8, 9, 10, 11, 12, 13, 14], [8, 9, 10, 11, 12, 13, 14, 15], [0, 1, 2, 3, 4, 5, 6, 7, 8, 9, 10, 11, 12, 13, 14, 15, 16], [], [18], [0, 1, 2, 3, 4, 5, 6, 7, 8, 9, 10, 11, 12, 13, 14, 15, 16, 17, 18, 19], [0, 1, 2, 3, 4, 5, 6, 7, 8, 9, 10, 11, 12, 13, 14, 15, 16, 17, 18, 19, 20]] (soI [.p (.mv 19 (.tmp 0)), .p (.mv 20 (.tmp 1)), .p (.mv 21 (.tmp 0)), .p (.ln 22 22 (.tmp 21)), .p (.bn 23 .rem 3 (.tmp 20) (.tmp 22) 3), .p (.ia 24 22 (.tmp 19) (.tmp 23)), .p (.ld 25 5 (.tmp 24)), .p (.bn 26 .mul 5 (.tmp 25) (.const (.int .u8 31)) 5), .p (.mv 27 (.tmp 0)), .p (.mv 28 (.tmp 1)), .p (.bn 29 .mul 3 (.tmp 28) (.const (.int .i64 5)) 3), .p (.bn 30 .add 3 (.tmp 29) (.const (.int .i64 1)) 3), .p (.mv 31 (.tmp 0)), .p (.ln 32 22 (.tmp 31)), .p (.bn 33 .rem 3 (.tmp 30) (.tmp 32) 3), .p (.ia 34 22 (.tmp 27) (.tmp 33)), .p (.ld 35 5 (.tmp 34)), .p (.bn 36 .add 5 (.tmp 26) (.tmp 35) 5), .p (.mv 37 (.tmp 1)), .p (.cv 38 3 5 (.tmp 37)), .p (.bn 39 .add 5 (.tmp 36) (.tmp 38) 5), .p (.as 4 (.tmp 39))]) [[], [], [], [2], [1, 3], [0, 4], [5], [6], [], [], [9], [10], [], [12], [11, 13], [8, 14], [15], [7, 16], [], [18], [17, 19], [20, 0, 1, 2, 3, 4, 5, 6, 7, 8, 9, 10, 11, 12, 13, 14, 15, 16, 17, 18, 19, 20]] = true := by kernel_rfl

theorem at_c (l : List UInt8) (i : Nat) (hl : l.length ≤ maxLen) (hi : i ≤ 1000) : ∃ v : Nat, v < 256 ∧ CallR Try.prog 13 [.ro 1 (l.map byteC), vI i] (.sc (.int .u8 (v : Int))) [] := by
  unfold maxLen at hl
  by_cases h0 : l.length = 0
  · have e0 : ((l.length : Int) == 0) = true := by rw [h0]; rfl
    refine ⟨_, Nat.mod_lt (i * 37) (by omega), ?_⟩
    refine callR_of_jv b13 rfl ?_
    have w1 : IntKind.i64.wrap ((i : Int) * 37) = ((i * 37 : Nat) : Int) := by rw [wrS (by omega)]; omega
    simp -implicitDefEqProofs only [go_sem, e0, w1, u8_mod, condJ_true]
  · have e0 : ((l.length : Int) == 0) = false := by rw [beq_eq_false_iff_ne]; omega
    by_cases h1 : i < l.length
    · have h1' : (i : Int) < (l.length : Int) := by omega
      have hg := byte_get h1
      refine ⟨_, bL_lt l i, ?_⟩
      refine callR_of_jv b13 rfl ?_
      simp -implicitDefEqProofs only [go_sem, e0, h1', hg, condJ_true, condJ_false]
    · have h1' : ¬ (i : Int) < (l.length : Int) := by omega
      have hL : 0 < l.length := by omega
      have h5 : ¬ ((l.length : Int) = 0) := by omega
      have e1 : (i : Int).tmod (l.length : Int) = ((i % l.length : Nat) : Int) := by rw [Int.tmod_eq_emod_of_nonneg (by omega)]; rfl
      have e2 : IntKind.i64.wrap ((i : Int) * 5) = ((i * 5 : Nat) : Int) := by rw [wrS (by omega)]; omega
      have e3 : IntKind.i64.wrap (((i * 5 : Nat) : Int) + 1) = ((i * 5 + 1 : Nat) : Int) := by rw [wrS (by omega)]; omega
      have e4 : ((i * 5 + 1 : Nat) : Int).tmod (l.length : Int) = (((i * 5 + 1) % l.length : Nat) : Int) := by rw [Int.tmod_eq_emod_of_nonneg (by omega)]; rfl
      have l1 : i % l.length < l.length := Nat.mod_lt _ hL
      have l2 : (i * 5 + 1) % l.length < l.length := Nat.mod_lt _ hL
      have g1 := byte_get l1
      have g2 := byte_get l2
      have l1' : ((i % l.length : Nat) : Int) < (l.length : Int) := by omega
      have l2' : (((i * 5 + 1) % l.length : Nat) : Int) < (l.length : Int) := by omega
      have f1 : IntKind.u8.wrap ((bL l (i % l.length) : Int) * 31) = ((bL l (i % l.length) * 31 % 256 : Nat) : Int) := u8_mod _
      have f2 : ∀ a b : Nat, IntKind.u8.wrap ((a : Int) + (b : Int)) = (((a + b) % 256 : Nat) : Int) := fun a b => u8_mod (a + b)
      refine ⟨_, Nat.mod_lt ((bL l (i % l.length) * 31 % 256 + bL l ((i * 5 + 1) % l.length)) % 256 + i % 256) (by omega), ?_⟩
      refine callR_of_jv b13 rfl ?_
      simp -implicitDefEqProofs only [go_sem, e0, h1', h5, e1, e2, e3, e4, g1, g2, l1', l2', f1, f2, u8_mod, condJ_true, condJ_false]
end Go.Proofs.Ytkhemolkhegppaa.E
