/-
  Contracts: honest steps; steps that are the same.
-/
import Derived.Test.YtbamamgeamnmnaaC2
namespace Go.Proofs.Ytbamamgeamnmnaa.E
open Go Go.RowKit
set_option maxHeartbeats 4000000
set_option linter.unusedSimpArgs false
set_option linter.unusedVariables false
@[go_sem] def c25 : SC J := .sq [2, 3] (.reg [.p (.bx 2 42 (.tmp 0)), .p (.bx 3 42 (.tmp 1)), .p (.as 4 (.const (.bool false)))])
 (.sq [2, 3] (.sq [2, 3, 9] (.reg [.p (.fa 5 42 (.tmp 2) 0), .p (.ld 6 3 (.tmp 5)), .p (.fa 7 42 (.tmp 3) 0), .p (.ld 8 3 (.tmp 7)), .p (.bn 9 .neq 3 (.tmp 6) (.tmp 8) 3)])
   (.cond (.tmp 9)
    (.sq [4] (.reg [.p (.as 4 (.const (.bool false)))])
     (.ret))
    (.skip)))
  (.sq [2, 3] (.sq [2, 3, 14] (.reg [.p (.fa 10 42 (.tmp 2) 1), .p (.ld 11 3 (.tmp 10)), .p (.fa 12 42 (.tmp 3) 1), .p (.ld 13 3 (.tmp 12)), .p (.bn 14 .neq 3 (.tmp 11) (.tmp 13) 3)])
    (.cond (.tmp 14)
     (.sq [4] (.reg [.p (.as 4 (.const (.bool false)))])
      (.ret))
     (.skip)))
   (.sq [2, 3] (.sq [2, 3, 19] (.reg [.p (.fa 15 42 (.tmp 2) 2), .p (.ld 16 3 (.tmp 15)), .p (.fa 17 42 (.tmp 3) 2), .p (.ld 18 3 (.tmp 17)), .p (.bn 19 .neq 3 (.tmp 16) (.tmp 18) 3)])
     (.cond (.tmp 19)
      (.sq [4] (.reg [.p (.as 4 (.const (.bool false)))])
       (.ret))
      (.skip)))
    (.sq [] (.sq [24] (.reg [.p (.fa 20 42 (.tmp 2) 3), .p (.ld 21 9 (.tmp 20)), .p (.fa 22 42 (.tmp 3) 3), .p (.ld 23 9 (.tmp 22)), .p (.bn 24 .neq 9 (.tmp 21) (.tmp 23) 9)])
      (.cond (.tmp 24)
       (.sq [4] (.reg [.p (.as 4 (.const (.bool false)))])
        (.ret))
       (.skip)))
     (.sq [4] (.reg [.p (.as 4 (.const (.bool true)))])
      (.ret))))))
theorem b25 : BodyOK Try.prog 25 c25 25 [.tmp 4] := ⟨Try.f25, by kernel_rfl, by kernel_rfl, by kernel_rfl, by kernel_rfl, by kernel_rfl⟩

@[go_sem] def c11 : SC J := .sq [0] (.reg [.p (.as 2 (.const (.bool false)))])
 (.sq [] (.sq [0, 3] (.reg [.p (.as 3 (.const (.int .i64 0)))])
   (.block 0 (.lp [0, 3] (.sq [0, 3] (.sq [0, 3, 8] (.reg [.p (.mv 5 (.tmp 3)), .p (.mv 6 (.tmp 0)), .p (.ln 7 31 (.tmp 6)), .p (.bn 8 .lss 3 (.tmp 5) (.tmp 7) 3)])
       (.cond (.tmp 8)
        (.skip)
        (.exit 0)))
      (.sq [0, 3] (.block 1 (.sq [0, 3, 4] (.reg [.p (.mv 11 (.tmp 0)), .p (.mv 12 (.tmp 3)), .p (.ia 13 31 (.tmp 11) (.tmp 12)), .p (.ld 14 42 (.tmp 13)), .p (.al 4 42), .p (.st 42 (.tmp 4) (.tmp 14))])
         (.sq [0, 3, 32] (.reg [.p (.fa 15 42 (.tmp 4) 0), .p (.ld 16 3 (.tmp 15)), .p (.bn 17 .eql 3 (.tmp 16) (.const (.int .i64 11)) 3), .p (.mv 18 (.tmp 17)), .g 18 false (.fa 19 42 (.tmp 4) 0), .g 18 false (.ld 20 3 (.tmp 19)), .g 18 false (.bn 21 .eql 3 (.tmp 20) (.const (.int .i64 13)) 3), .p (.pk 22 (.tmp 18) (.const (.bool true)) (.tmp 21)), .p (.mv 23 (.tmp 22)), .g 23 false (.fa 24 42 (.tmp 4) 0), .g 23 false (.ld 25 3 (.tmp 24)), .g 23 false (.bn 26 .eql 3 (.tmp 25) (.const (.int .i64 8)) 3), .g 23 false (.mv 27 (.tmp 26)), .g 27 true (.fa 28 42 (.tmp 4) 1), .g 27 true (.ld 29 3 (.tmp 28)), .g 27 true (.bn 30 .eql 3 (.tmp 29) (.const (.int .i64 0)) 3), .g 23 false (.pk 31 (.tmp 27) (.tmp 30) (.const (.bool false))), .p (.pk 32 (.tmp 23) (.const (.bool true)) (.tmp 31))])
          (.cond (.tmp 32)
           (.sq [2] (.reg [.p (.as 2 (.const (.bool false)))])
            (.ret))
           (.skip)))))
       (.reg [.p (.mv 9 (.tmp 3)), .p (.bn 10 .add 3 (.tmp 9) (.const (.int .i64 1)) 3), .p (.as 3 (.tmp 10))]))))))
  (.sq [2] (.reg [.p (.as 2 (.const (.bool true)))])
   (.ret)))
theorem b11 : BodyOK Try.prog 11 c11 33 [.tmp 2] := ⟨Try.f11, by kernel_rfl, by kernel_rfl, by kernel_rfl, by kernel_rfl, by kernel_rfl⟩

@[go_sem] def c13 : SC J := .sq [0] (.reg [.p (.as 2 (.const (.bool false)))])
 (.sq [] (.sq [5, 6, 7] (.reg [.p (.mv 5 (.tmp 0)), .p (.ln 6 31 (.tmp 5)), .p (.mv 7 (.const (.int .i64 0)))])
   (.block 0 (.lp [5, 6, 7] (.sq [5, 6, 7, 8] (.reg [.p (.bn 8 .lss 3 (.tmp 7) (.tmp 6) 3)])
      (.sq [5, 6, 7] (.cond (.tmp 8)
        (.skip)
        (.exit 0))
       (.sq [5, 6, 7] (.block 1 (.sq [4, 5, 6, 7] (.reg [.p (.ia 9 31 (.tmp 5) (.tmp 7)), .p (.ld 10 42 (.tmp 9)), .p (.al 4 42), .p (.st 42 (.tmp 4) (.tmp 10))])
          (.sq [5, 6, 7, 28] (.reg [.p (.fa 11 42 (.tmp 4) 0), .p (.ld 12 3 (.tmp 11)), .p (.bn 13 .eql 3 (.tmp 12) (.const (.int .i64 11)) 3), .p (.mv 14 (.tmp 13)), .g 14 false (.fa 15 42 (.tmp 4) 0), .g 14 false (.ld 16 3 (.tmp 15)), .g 14 false (.bn 17 .eql 3 (.tmp 16) (.const (.int .i64 13)) 3), .p (.pk 18 (.tmp 14) (.const (.bool true)) (.tmp 17)), .p (.mv 19 (.tmp 18)), .g 19 false (.fa 20 42 (.tmp 4) 0), .g 19 false (.ld 21 3 (.tmp 20)), .g 19 false (.bn 22 .eql 3 (.tmp 21) (.const (.int .i64 8)) 3), .g 19 false (.mv 23 (.tmp 22)), .g 23 true (.fa 24 42 (.tmp 4) 1), .g 23 true (.ld 25 3 (.tmp 24)), .g 23 true (.bn 26 .eql 3 (.tmp 25) (.const (.int .i64 0)) 3), .g 19 false (.pk 27 (.tmp 23) (.tmp 26) (.const (.bool false))), .p (.pk 28 (.tmp 19) (.const (.bool true)) (.tmp 27))])
           (.cond (.tmp 28)
            (.sq [2] (.reg [.p (.as 2 (.const (.bool false)))])
             (.ret))
            (.skip)))))
        (.reg [.p (.bn 29 .add 3 (.tmp 7) (.const (.int .i64 1)) 3), .p (.mv 7 (.tmp 29))])))))))
  (.sq [2] (.reg [.p (.as 2 (.const (.bool true)))])
   (.ret)))
theorem b13 : BodyOK Try.prog 13 c13 30 [.tmp 2] := ⟨Try.f13, by kernel_rfl, by kernel_rfl, by kernel_rfl, by kernel_rfl, by kernel_rfl⟩

def mBad (s : MStep) : Bool := s.kind == 11 || (s.kind == 13 || (s.kind == 8 && s.node == 0))
def mHonest (l : List MStep) : Bool := l.all fun s => !mBad s
theorem mHonest_drop {l : List MStep} {i : Nat} (h : i < l.length) : mHonest (l.drop i) = (!mBad l[i] && mHonest (l.drop (i + 1))) := by
  rw [List.drop_eq_getElem_cons h]; rfl
def mEqStep (a b : MStep) : Bool := !(a.kind != b.kind) && (!(a.node != b.node) && (!(a.arg != b.arg) && !(!a.text.toList == b.text.toList)))
theorem c25_c (a b : MStep) : CallR Try.prog 25 [.agg a.cs, .agg b.cs] (vB (mEqStep a b)) [] := by
  refine callR_of_jv b25 rfl ?_
  simp -implicitDefEqProofs only [go_sem, Nat.reduceBEq, Nat.reduceAdd, Nat.reduceSub, Nat.reduceMul, Nat.reduceLT, Nat.reduceLeDiff, reduceCtorEq, mEqStep]
  repeat' first | (refine guardP_intro (fun h => ?_) (fun h => ?_) <;> try simp -implicitDefEqProofs only [go_sem, Nat.reduceBEq, Nat.reduceAdd, Nat.reduceSub, Nat.reduceMul, Nat.reduceLT, Nat.reduceLeDiff, reduceCtorEq, h]) | (refine condJ_intro (fun h => ?_) (fun h => ?_) <;> try simp -implicitDefEqProofs only [go_sem, Nat.reduceBEq, Nat.reduceAdd, Nat.reduceSub, Nat.reduceMul, Nat.reduceLT, Nat.reduceLeDiff, reduceCtorEq, h])
  all_goals simp_all
theorem c11_c (l : List MStep) (hl : l.length ≤ maxLen) : CallR Try.prog 11 [stepsV l] (vB (mHonest l)) [] := by
  refine callR_of_jv b11 rfl ?_
  simp -implicitDefEqProofs only [go_sem, Nat.reduceBEq, Nat.reduceAdd, Nat.reduceSub, Nat.reduceMul, Nat.reduceLT, Nat.reduceLeDiff, reduceCtorEq]
  refine jv_lp (fun m s => ∃ (i : Nat), i ≤ l.length ∧ m = l.length - i ∧ mHonest (l.drop i) = mHonest l ∧ s = ⟨33, [(0,stepsV l),(3,vI i)], [], 1⟩) l.length
    (by simp -implicitDefEqProofs only [go_sem, Nat.reduceBEq, Nat.reduceAdd, Nat.reduceSub, Nat.reduceMul, Nat.reduceLT, Nat.reduceLeDiff, reduceCtorEq]; exact ⟨0, Nat.zero_le _, rfl, rfl, rfl⟩) ?_
  rintro m s ⟨i, hi, rfl, hx, rfl⟩
  rcases Nat.lt_or_ge i l.length with hlt | hge
  · have hlt' : (i : Int) < (l.length : Int) := by omega
    have hg : l[i]? = some l[i] := List.getElem?_eq_getElem hlt
    have hw := wrap_succ hlt hl
    rw [mHonest_drop hlt, mBad] at hx
    simp -implicitDefEqProofs only [go_sem, Nat.reduceBEq, Nat.reduceAdd, Nat.reduceSub, Nat.reduceMul, Nat.reduceLT, Nat.reduceLeDiff, reduceCtorEq, hlt', hg]
    repeat' first | (refine guardP_intro (fun h => ?_) (fun h => ?_) <;> try simp -implicitDefEqProofs only [go_sem, Nat.reduceBEq, Nat.reduceAdd, Nat.reduceSub, Nat.reduceMul, Nat.reduceLT, Nat.reduceLeDiff, reduceCtorEq, hw, h]) | (refine condJ_intro (fun h => ?_) (fun h => ?_) <;> try simp -implicitDefEqProofs only [go_sem, Nat.reduceBEq, Nat.reduceAdd, Nat.reduceSub, Nat.reduceMul, Nat.reduceLT, Nat.reduceLeDiff, reduceCtorEq, hw, h])
    all_goals first
      | (rw [← hx]; simp_all; done)
      | (refine ⟨_, by omega, i + 1, hlt, rfl, ?_, rfl⟩; simp_all; done)
  · have hi : i = l.length := by omega
    subst hi
    have hlt' : ¬ ((l.length : Int) < (l.length : Int)) := by omega
    rw [List.drop_length] at hx
    simp -implicitDefEqProofs only [go_sem, Nat.reduceBEq, Nat.reduceAdd, Nat.reduceSub, Nat.reduceMul, Nat.reduceLT, Nat.reduceLeDiff, reduceCtorEq, hlt']
    rw [← hx]; rfl
theorem c13_c (l : List MStep) (hl : l.length ≤ maxLen) : CallR Try.prog 13 [stepsV l] (vB (mHonest l)) [] := by
  refine callR_of_jv b13 rfl ?_
  simp -implicitDefEqProofs only [go_sem, Nat.reduceBEq, Nat.reduceAdd, Nat.reduceSub, Nat.reduceMul, Nat.reduceLT, Nat.reduceLeDiff, reduceCtorEq]
  refine jv_lp (fun m s => ∃ (i : Nat), i ≤ l.length ∧ m = l.length - i ∧ mHonest (l.drop i) = mHonest l ∧ s = ⟨30, [(5,stepsV l),(6,vI l.length),(7,vI i)], [], 1⟩) l.length
    (by simp -implicitDefEqProofs only [go_sem, Nat.reduceBEq, Nat.reduceAdd, Nat.reduceSub, Nat.reduceMul, Nat.reduceLT, Nat.reduceLeDiff, reduceCtorEq]; exact ⟨0, Nat.zero_le _, rfl, rfl, rfl⟩) ?_
  rintro m s ⟨i, hi, rfl, hx, rfl⟩
  rcases Nat.lt_or_ge i l.length with hlt | hge
  · have hlt' : (i : Int) < (l.length : Int) := by omega
    have hg : l[i]? = some l[i] := List.getElem?_eq_getElem hlt
    have hw := wrap_succ hlt hl
    rw [mHonest_drop hlt, mBad] at hx
    simp -implicitDefEqProofs only [go_sem, Nat.reduceBEq, Nat.reduceAdd, Nat.reduceSub, Nat.reduceMul, Nat.reduceLT, Nat.reduceLeDiff, reduceCtorEq, hlt', hg]
    repeat' first | (refine guardP_intro (fun h => ?_) (fun h => ?_) <;> try simp -implicitDefEqProofs only [go_sem, Nat.reduceBEq, Nat.reduceAdd, Nat.reduceSub, Nat.reduceMul, Nat.reduceLT, Nat.reduceLeDiff, reduceCtorEq, hw, h]) | (refine condJ_intro (fun h => ?_) (fun h => ?_) <;> try simp -implicitDefEqProofs only [go_sem, Nat.reduceBEq, Nat.reduceAdd, Nat.reduceSub, Nat.reduceMul, Nat.reduceLT, Nat.reduceLeDiff, reduceCtorEq, hw, h])
    all_goals first
      | (rw [← hx]; simp_all; done)
      | (refine ⟨_, by omega, i + 1, hlt, rfl, ?_, rfl⟩; simp_all; done)
  · have hi : i = l.length := by omega
    subst hi
    have hlt' : ¬ ((l.length : Int) < (l.length : Int)) := by omega
    rw [List.drop_length] at hx
    simp -implicitDefEqProofs only [go_sem, Nat.reduceBEq, Nat.reduceAdd, Nat.reduceSub, Nat.reduceMul, Nat.reduceLT, Nat.reduceLeDiff, reduceCtorEq, hlt']
    rw [← hx]; rfl
end Go.Proofs.Ytbamamgeamnmnaa.E
