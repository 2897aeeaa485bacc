/-
  Contracts: lists of steps that are the same.
-/
import Derived.Test.YtbamamgeamnmnaaC3
namespace Go.Proofs.Ytbamamgeamnmnaa.E
open Go Go.RowKit
set_option maxHeartbeats 4000000
set_option linter.unusedSimpArgs false
set_option linter.unusedVariables false
@[go_sem] def c14 : SC J := .sq [0, 1] (.reg [.p (.as 4 (.const (.bool false)))])
 (.sq [0, 1] (.sq [0, 1, 10] (.reg [.p (.mv 6 (.tmp 0)), .p (.ln 7 31 (.tmp 6)), .p (.mv 8 (.tmp 1)), .p (.ln 9 31 (.tmp 8)), .p (.bn 10 .neq 3 (.tmp 7) (.tmp 9) 3)])
   (.cond (.tmp 10)
    (.sq [4] (.reg [.p (.as 4 (.const (.bool false)))])
     (.ret))
    (.skip)))
  (.sq [] (.sq [0, 1, 5] (.reg [.p (.as 5 (.const (.int .i64 0)))])
    (.block 0 (.lp [0, 1, 5] (.sq [0, 1, 5] (.sq [0, 1, 5, 14] (.reg [.p (.mv 11 (.tmp 5)), .p (.mv 12 (.tmp 0)), .p (.ln 13 31 (.tmp 12)), .p (.bn 14 .lss 3 (.tmp 11) (.tmp 13) 3)])
        (.cond (.tmp 14)
         (.skip)
         (.exit 0)))
       (.sq [0, 1, 5] (.block 1 (.sq [0, 1, 5, 26] (.dr (.pu 0 (.pu 1 (.pu 2 (.pu 3 (.pu 4 (.pu 5 (.pu 6 (.pu 7 (.ef 8 [] (.pu 9 (.nil))))))))))) [[], [], [0, 1], [0, 1, 2], [], [], [4, 5], [4, 5, 6], [0, 1, 2, 3, 4, 5, 6, 7], [0, 1, 2, 3, 4, 5, 6, 7, 8]] [.p (.mv 17 (.tmp 0)), .p (.mv 18 (.tmp 5)), .p (.ia 19 31 (.tmp 17) (.tmp 18)), .p (.ld 20 42 (.tmp 19)), .p (.mv 21 (.tmp 1)), .p (.mv 22 (.tmp 5)), .p (.ia 23 31 (.tmp 21) (.tmp 22)), .p (.ld 24 42 (.tmp 23)), .p (.cl (some 25) 25 [.tmp 20, .tmp 24] [42, 42]), .p (.un 26 .not 4 (.tmp 25))] [[], [], [0, 1], [2], [], [], [4, 5], [6], [3, 7], [8]])
          (.cond (.tmp 26)
           (.sq [4] (.reg [.p (.as 4 (.const (.bool false)))])
            (.ret))
           (.skip))))
        (.reg [.p (.mv 15 (.tmp 5)), .p (.bn 16 .add 3 (.tmp 15) (.const (.int .i64 1)) 3), .p (.as 5 (.tmp 16))]))))))
   (.sq [4] (.reg [.p (.as 4 (.const (.bool true)))])
    (.ret))))
theorem b14 : BodyOK Try.prog 14 c14 27 [.tmp 4] := ⟨Try.f14, by kernel_rfl, by kernel_rfl, by kernel_rfl, by kernel_rfl, by kernel_rfl⟩
set_option maxRecDepth 100000 in
@[go_sem] theorem k14_0 : chkT (.pu 0 (.pu 1 (.pu 2 (.pu 3 (.pu 4 (.pu 5 (.pu 6 (.pu 7 (.ef 8 [] (.pu 9 (.nil))))))))))) [[], [], [0, 1], [0, 1, 2], [], [], [4, 5], [4, 5, 6], [0, 1, 2, 3, 4, 5, 6, 7], [0, 1, 2, 3, 4, 5, 6, 7, 8]] (soI [.p (.mv 17 (.tmp 0)), .p (.mv 18 (.tmp 5)), .p (.ia 19 31 (.tmp 17) (.tmp 18)), .p (.ld 20 42 (.tmp 19)), .p (.mv 21 (.tmp 1)), .p (.mv 22 (.tmp 5)), .p (.ia 23 31 (.tmp 21) (.tmp 22)), .p (.ld 24 42 (.tmp 23)), .p (.cl (some 25) 25 [.tmp 20, .tmp 24] [42, 42]), .p (.un 26 .not 4 (.tmp 25))]) [[], [], [0, 1], [2], [], [], [4, 5], [6], [3, 7], [8]] = true := by kernel_rfl

@[go_sem] def c4 : SC J := .sq [0] (.reg [.p (.as 2 (.const (.bool false)))])
 (.sq [0, 3] (.reg [.p (.as 3 (.const (.int .i64 1048576)))])
  (.sq [0, 3] (.reg [.p (.mv 7 (.tmp 0)), .p (.mv 8 (.tmp 3)), .p (.cl (some 9) 10 [.tmp 7, .tmp 8] [28, 3]), .p (.as 3 (.tmp 9))])
   (.sq [0] (.sq [0, 11] (.reg [.p (.mv 10 (.tmp 3)), .p (.bn 11 .lss 3 (.tmp 10) (.const (.int .i64 0)) 3)])
     (.cond (.tmp 11)
      (.sq [2] (.reg [.p (.as 2 (.const (.bool true)))])
       (.ret))
      (.skip)))
    (.sq [0, 4] (.reg [.p (.mv 12 (.tmp 0)), .p (.cl (some 13) 12 [.tmp 12] [28]), .p (.cl (some 14) 11 [.tmp 13] [31]), .p (.as 4 (.tmp 14))])
     (.sq [0, 4, 5] (.reg [.p (.mv 15 (.tmp 0)), .p (.cl (some 16) 12 [.tmp 15] [28]), .p (.as 5 (.tmp 16))])
      (.sq [0, 4, 5, 6] (.reg [.p (.mv 17 (.tmp 5)), .p (.cl (some 18) 13 [.tmp 17] [31]), .p (.as 6 (.tmp 18))])
       (.sq [0, 5] (.sq [0, 5, 21] (.reg [.p (.mv 19 (.tmp 6)), .p (.mv 20 (.tmp 4)), .p (.bn 21 .neq 4 (.tmp 19) (.tmp 20) 4)])
         (.cond (.tmp 21)
          (.sq [2] (.reg [.p (.as 2 (.const (.bool false)))])
           (.ret))
          (.skip)))
        (.sq [] (.sq [26] (.reg [.p (.mv 22 (.tmp 5)), .p (.mv 23 (.tmp 0)), .p (.cl (some 24) 12 [.tmp 23] [28]), .p (.cl (some 25) 14 [.tmp 22, .tmp 24] [31, 31]), .p (.un 26 .not 4 (.tmp 25))])
          (.cond (.tmp 26)
           (.sq [2] (.reg [.p (.as 2 (.const (.bool false)))])
            (.ret))
           (.skip)))
         (.sq [2] (.reg [.p (.as 2 (.const (.bool true)))])
          (.ret))))))))))
theorem b4 : BodyOK Try.prog 4 c4 27 [.tmp 2] := ⟨Try.f4, by kernel_rfl, by kernel_rfl, by kernel_rfl, by kernel_rfl, by kernel_rfl⟩

def mEqL {α : Type} (e : α → α → Bool) : List α → List α → Bool
  | [], [] => true
  | a :: l, b :: m => e a b && mEqL e l m
  | _, _ => false
theorem mEqL_len {α : Type} {e : α → α → Bool} : ∀ {l m : List α}, mEqL e l m = true → l.length = m.length
  | [], [], _ => rfl
  | a :: l, b :: m, h => by simp only [mEqL, Bool.and_eq_true] at h; simp [mEqL_len h.2]
theorem mEqL_drop {α : Type} {e : α → α → Bool} {l m : List α} {i : Nat} (h : i < l.length) (k : i < m.length) : mEqL e (l.drop i) (m.drop i) = (e l[i] m[i] && mEqL e (l.drop (i + 1)) (m.drop (i + 1))) := by
  rw [List.drop_eq_getElem_cons h, List.drop_eq_getElem_cons k]; rfl
theorem follows_any : Try.prog.follows .mixedOrders = true := by kernel_rfl
attribute [go_sem] follows_any
theorem c14_c (l m : List MStep) (hl : l.length ≤ maxLen) : CallR Try.prog 14 [stepsV l, stepsV m] (vB (mEqL mEqStep l m)) [] := by
  refine callR_of_jv b14 rfl ?_
  simp -implicitDefEqProofs only [go_sem, Nat.reduceBEq, Nat.reduceAdd, Nat.reduceSub, Nat.reduceMul, Nat.reduceLT, Nat.reduceLeDiff, reduceCtorEq]
  refine condJ_intro (fun h => ?_) (fun h => ?_)
  · simp -implicitDefEqProofs only [go_sem, Nat.reduceBEq, Nat.reduceAdd, Nat.reduceSub, Nat.reduceMul, Nat.reduceLT, Nat.reduceLeDiff, reduceCtorEq, h]
    have h : ¬ l.length = m.length := by have := bne_iff_ne.1 h; omega
    cases hm : mEqL mEqStep l m with
    | true => exact absurd (mEqL_len hm) h
    | false => rfl
  · have h0 : l.length = m.length := by have := bne_eq_false_iff_eq.1 h; omega
    simp -implicitDefEqProofs only [go_sem, Nat.reduceBEq, Nat.reduceAdd, Nat.reduceSub, Nat.reduceMul, Nat.reduceLT, Nat.reduceLeDiff, reduceCtorEq, h]
    refine jv_lp (fun k s => ∃ (i : Nat), i ≤ l.length ∧ k = l.length - i ∧ mEqL mEqStep (l.drop i) (m.drop i) = mEqL mEqStep l m ∧ s = ⟨27, [(0, stepsV l), (1, stepsV m), (5, vI i)], [], 1⟩) l.length
      (by simp -implicitDefEqProofs only [go_sem, Nat.reduceBEq, Nat.reduceAdd, Nat.reduceSub, Nat.reduceMul, Nat.reduceLT, Nat.reduceLeDiff, reduceCtorEq]; exact ⟨0, Nat.zero_le _, rfl, rfl, rfl⟩) ?_
    rintro k s ⟨i, hi, rfl, hx, rfl⟩
    rcases Nat.lt_or_ge i l.length with hlt | hge
    · have hlt' : (i : Int) < (l.length : Int) := by omega
      have hlm : i < m.length := by omega
      have hlm' : (i : Int) < (m.length : Int) := by omega
      have hg : l[i]? = some l[i] := List.getElem?_eq_getElem hlt
      have hg2 : m[i]? = some m[i] := List.getElem?_eq_getElem hlm
      have hw := wrap_succ hlt hl
      rw [mEqL_drop hlt hlm] at hx
      simp -implicitDefEqProofs only [go_sem, Nat.reduceBEq, Nat.reduceAdd, Nat.reduceSub, Nat.reduceMul, Nat.reduceLT, Nat.reduceLeDiff, reduceCtorEq, hlt', hlm', hg, hg2]
      refine Want.intro (c25_c _ _) ?_
      simp -implicitDefEqProofs only [go_sem, Nat.reduceBEq, Nat.reduceAdd, Nat.reduceSub, Nat.reduceMul, Nat.reduceLT, Nat.reduceLeDiff, reduceCtorEq]
      refine condJ_intro (fun h => ?_) (fun h => ?_)
      · simp -implicitDefEqProofs only [go_sem, Nat.reduceBEq, Nat.reduceAdd, Nat.reduceSub, Nat.reduceMul, Nat.reduceLT, Nat.reduceLeDiff, reduceCtorEq, h]
        simp_all
      · simp -implicitDefEqProofs only [go_sem, Nat.reduceBEq, Nat.reduceAdd, Nat.reduceSub, Nat.reduceMul, Nat.reduceLT, Nat.reduceLeDiff, reduceCtorEq, h, hw]
        refine ⟨_, by omega, i + 1, hlt, rfl, ?_, rfl⟩
        simp_all
    · have hi : i = l.length := by omega
      subst hi
      have hlt' : ¬ ((l.length : Int) < (l.length : Int)) := by omega
      rw [List.drop_length, h0, List.drop_length] at hx
      simp -implicitDefEqProofs only [go_sem, Nat.reduceBEq, Nat.reduceAdd, Nat.reduceSub, Nat.reduceMul, Nat.reduceLT, Nat.reduceLeDiff, reduceCtorEq, hlt']
      rw [← hx]; rfl
theorem mEqL_refl {α : Type} {e : α → α → Bool} (h : ∀ a, e a a = true) : ∀ l : List α, mEqL e l l = true
  | [] => rfl
  | a :: l => by simp [mEqL, h, mEqL_refl h l]
theorem mEqStep_refl (a : MStep) : mEqStep a a = true := by simp [mEqStep]
theorem c4_c (l : List MStep) (hl : l.length ≤ maxLen) : CallR Try.prog 4 [stepsV l] (vB true) [] := by
  refine callR_of_jv b4 rfl ?_
  simp -implicitDefEqProofs only [go_sem, Nat.reduceBEq, Nat.reduceAdd, Nat.reduceSub, Nat.reduceMul, Nat.reduceLT, Nat.reduceLeDiff, reduceCtorEq]
  refine Want.intro (c10_c l _ hl) ?_
  simp -implicitDefEqProofs only [go_sem, Nat.reduceBEq, Nat.reduceAdd, Nat.reduceSub, Nat.reduceMul, Nat.reduceLT, Nat.reduceLeDiff, reduceCtorEq]
  refine condJ_intro (fun h => ?_) (fun h => ?_)
  · simp -implicitDefEqProofs only [go_sem, Nat.reduceBEq, Nat.reduceAdd, Nat.reduceSub, Nat.reduceMul, Nat.reduceLT, Nat.reduceLeDiff, reduceCtorEq, h]
  · have hs : l.length ≤ 1048576 := by
      have h : ¬ mSzS l 1048576 < 0 := of_decide_eq_false h
      unfold mSzS at h
      split at h
      · omega
      · rename_i h2
        unfold maxLen at hl
        rw [wrap_small (by omega)] at h2
        omega
    simp -implicitDefEqProofs only [go_sem, Nat.reduceBEq, Nat.reduceAdd, Nat.reduceSub, Nat.reduceMul, Nat.reduceLT, Nat.reduceLeDiff, reduceCtorEq, h]
    repeat' first | (refine Want.intro (by first | exact c12_c l hs | exact c11_c l hl | exact c13_c l hl | exact c14_c l l hl) ?_; try simp -implicitDefEqProofs only [go_sem, Nat.reduceBEq, Nat.reduceAdd, Nat.reduceSub, Nat.reduceMul, Nat.reduceLT, Nat.reduceLeDiff, reduceCtorEq]) | (refine guardP_intro (fun h => ?_) (fun h => ?_) <;> try simp -implicitDefEqProofs only [go_sem, Nat.reduceBEq, Nat.reduceAdd, Nat.reduceSub, Nat.reduceMul, Nat.reduceLT, Nat.reduceLeDiff, reduceCtorEq, h]) | (refine condJ_intro (fun h => ?_) (fun h => ?_) <;> try simp -implicitDefEqProofs only [go_sem, Nat.reduceBEq, Nat.reduceAdd, Nat.reduceSub, Nat.reduceMul, Nat.reduceLT, Nat.reduceLeDiff, reduceCtorEq, h])
    all_goals simp_all [mEqL_refl mEqStep_refl]
end Go.Proofs.Ytbamamgeamnmnaa.E
