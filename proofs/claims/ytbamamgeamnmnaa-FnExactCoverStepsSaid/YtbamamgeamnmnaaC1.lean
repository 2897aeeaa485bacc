/-
  Contracts: bounds, setups, the room of an honest script.
-/
import Derived.Test.YtbamamgeamnmnaaEL
import Derived.Test.YtbamamgeamnmnaaProg
import Derived.Test.YtbamamgeamnmnaaET
import Derived.KernelRfl
namespace Go.Proofs.Ytbamamgeamnmnaa.E
open Go Go.RowKit
set_option maxHeartbeats 4000000
set_option linter.unusedSimpArgs false
attribute [go_sem] TT
@[go_sem] def c29 : SC J := .sq [0, 1, 2] (.reg [.p (.as 6 (.const (.bool false)))])
 (.sq [6] (.reg [.p (.mv 7 (.tmp 0)), .p (.mv 8 (.tmp 1)), .p (.bn 9 .geq 3 (.tmp 7) (.tmp 8) 3), .p (.mv 10 (.tmp 9)), .g 10 true (.mv 11 (.tmp 0)), .g 10 true (.mv 12 (.tmp 2)), .g 10 true (.bn 13 .leq 3 (.tmp 11) (.tmp 12) 3), .p (.pk 14 (.tmp 10) (.tmp 13) (.const (.bool false))), .p (.as 6 (.tmp 14))])
  (.ret))
theorem b29 : BodyOK Try.prog 29 c29 15 [.tmp 6] := ⟨Try.f29, by kernel_rfl, by kernel_rfl, by kernel_rfl, by kernel_rfl, by kernel_rfl⟩

@[go_sem] def c31 : SC J := .sq [0, 1, 2] (.reg [.p (.as 6 (.const (.bool false)))])
 (.sq [6] (.reg [.p (.mv 7 (.tmp 0)), .p (.mv 8 (.tmp 1)), .p (.bn 9 .geq 3 (.tmp 7) (.tmp 8) 3), .p (.mv 10 (.tmp 9)), .g 10 true (.mv 11 (.tmp 0)), .g 10 true (.mv 12 (.tmp 2)), .g 10 true (.bn 13 .leq 3 (.tmp 11) (.tmp 12) 3), .p (.pk 14 (.tmp 10) (.tmp 13) (.const (.bool false))), .p (.as 6 (.tmp 14))])
  (.ret))
theorem b31 : BodyOK Try.prog 31 c31 15 [.tmp 6] := ⟨Try.f31, by kernel_rfl, by kernel_rfl, by kernel_rfl, by kernel_rfl, by kernel_rfl⟩

@[go_sem] def c21 : SC J := .sq [1] (.reg [.p (.bx 1 25 (.tmp 0)), .p (.as 2 (.const (.bool false)))])
 (.sq [2] (.reg [.p (.fa 3 25 (.tmp 1) 0), .p (.ld 4 3 (.tmp 3)), .p (.cl (some 5) 29 [.tmp 4, .const (.int .i64 1), .const (.int .i64 5)] [3, 3, 3]), .p (.mv 6 (.tmp 5)), .g 6 true (.fa 7 25 (.tmp 1) 1), .g 6 true (.ld 8 3 (.tmp 7)), .g 6 true (.fa 9 25 (.tmp 1) 0), .g 6 true (.ld 10 3 (.tmp 9)), .g 6 true (.cl (some 11) 29 [.tmp 8, .const (.int .i64 1), .tmp 10] [3, 3, 3]), .p (.pk 12 (.tmp 6) (.tmp 11) (.const (.bool false))), .p (.mv 13 (.tmp 12)), .g 13 true (.fa 14 25 (.tmp 1) 1), .g 13 true (.ld 15 3 (.tmp 14)), .g 13 true (.bn 16 .mul 3 (.const (.int .i64 2)) (.tmp 15) 3), .g 13 true (.fa 17 25 (.tmp 1) 0), .g 13 true (.ld 18 3 (.tmp 17)), .g 13 true (.bn 19 .gtr 3 (.tmp 16) (.tmp 18) 3), .p (.pk 20 (.tmp 13) (.tmp 19) (.const (.bool false))), .p (.mv 21 (.tmp 20)), .g 21 true (.fa 22 25 (.tmp 1) 2), .g 21 true (.ld 23 3 (.tmp 22)), .g 21 true (.cl (some 24) 29 [.tmp 23, .const (.int .i64 1), .const (.int .i64 3)] [3, 3, 3]), .p (.pk 25 (.tmp 21) (.tmp 24) (.const (.bool false))), .p (.mv 26 (.tmp 25)), .g 26 true (.fa 27 25 (.tmp 1) 3), .g 26 true (.ld 28 3 (.tmp 27)), .g 26 true (.cl (some 29) 29 [.tmp 28, .const (.int .i64 1), .const (.int .i64 64)] [3, 3, 3]), .p (.pk 30 (.tmp 26) (.tmp 29) (.const (.bool false))), .p (.mv 31 (.tmp 30)), .g 31 true (.fa 32 25 (.tmp 1) 4), .g 31 true (.ld 33 3 (.tmp 32)), .g 31 true (.cl (some 34) 29 [.tmp 33, .const (.int .i64 1), .const (.int .i64 64)] [3, 3, 3]), .p (.pk 35 (.tmp 31) (.tmp 34) (.const (.bool false))), .p (.as 2 (.tmp 35))])
  (.ret))
theorem b21 : BodyOK Try.prog 21 c21 36 [.tmp 2] := ⟨Try.f21, by kernel_rfl, by kernel_rfl, by kernel_rfl, by kernel_rfl, by kernel_rfl⟩

@[go_sem] def c22 : SC J := .sq [1] (.reg [.p (.bx 1 25 (.tmp 0)), .p (.as 2 (.const (.bool false)))])
 (.sq [2] (.reg [.p (.fa 3 25 (.tmp 1) 0), .p (.ld 4 3 (.tmp 3)), .p (.cl (some 5) 31 [.tmp 4, .const (.int .i64 1), .const (.int .i64 5)] [3, 3, 3]), .p (.mv 6 (.tmp 5)), .g 6 true (.fa 7 25 (.tmp 1) 1), .g 6 true (.ld 8 3 (.tmp 7)), .g 6 true (.fa 9 25 (.tmp 1) 0), .g 6 true (.ld 10 3 (.tmp 9)), .g 6 true (.cl (some 11) 31 [.tmp 8, .const (.int .i64 1), .tmp 10] [3, 3, 3]), .p (.pk 12 (.tmp 6) (.tmp 11) (.const (.bool false))), .p (.mv 13 (.tmp 12)), .g 13 true (.fa 14 25 (.tmp 1) 1), .g 13 true (.ld 15 3 (.tmp 14)), .g 13 true (.bn 16 .mul 3 (.const (.int .i64 2)) (.tmp 15) 3), .g 13 true (.fa 17 25 (.tmp 1) 0), .g 13 true (.ld 18 3 (.tmp 17)), .g 13 true (.bn 19 .gtr 3 (.tmp 16) (.tmp 18) 3), .p (.pk 20 (.tmp 13) (.tmp 19) (.const (.bool false))), .p (.mv 21 (.tmp 20)), .g 21 true (.fa 22 25 (.tmp 1) 2), .g 21 true (.ld 23 3 (.tmp 22)), .g 21 true (.cl (some 24) 31 [.tmp 23, .const (.int .i64 1), .const (.int .i64 3)] [3, 3, 3]), .p (.pk 25 (.tmp 21) (.tmp 24) (.const (.bool false))), .p (.mv 26 (.tmp 25)), .g 26 true (.fa 27 25 (.tmp 1) 3), .g 26 true (.ld 28 3 (.tmp 27)), .g 26 true (.cl (some 29) 31 [.tmp 28, .const (.int .i64 1), .const (.int .i64 64)] [3, 3, 3]), .p (.pk 30 (.tmp 26) (.tmp 29) (.const (.bool false))), .p (.mv 31 (.tmp 30)), .g 31 true (.fa 32 25 (.tmp 1) 4), .g 31 true (.ld 33 3 (.tmp 32)), .g 31 true (.cl (some 34) 31 [.tmp 33, .const (.int .i64 1), .const (.int .i64 64)] [3, 3, 3]), .p (.pk 35 (.tmp 31) (.tmp 34) (.const (.bool false))), .p (.as 2 (.tmp 35))])
  (.ret))
theorem b22 : BodyOK Try.prog 22 c22 36 [.tmp 2] := ⟨Try.f22, by kernel_rfl, by kernel_rfl, by kernel_rfl, by kernel_rfl, by kernel_rfl⟩

@[go_sem] def c7 : SC J := .sq [1] (.reg [.p (.bx 1 25 (.tmp 0)), .p (.as 2 (.const (.bool false)))])
 (.sq [2] (.reg [.p (.ld 3 25 (.tmp 1)), .p (.cl (some 4) 21 [.tmp 3] [25]), .p (.mv 5 (.tmp 4)), .g 5 true (.fa 6 25 (.tmp 1) 3), .g 5 true (.ld 7 3 (.tmp 6)), .g 5 true (.fa 8 25 (.tmp 1) 0), .g 5 true (.ld 9 3 (.tmp 8)), .g 5 true (.bn 10 .geq 3 (.tmp 7) (.tmp 9) 3), .p (.pk 11 (.tmp 5) (.tmp 10) (.const (.bool false))), .p (.mv 12 (.tmp 11)), .g 12 true (.fa 13 25 (.tmp 1) 4), .g 12 true (.ld 14 3 (.tmp 13)), .g 12 true (.fa 15 25 (.tmp 1) 3), .g 12 true (.ld 16 3 (.tmp 15)), .g 12 true (.bn 17 .geq 3 (.tmp 14) (.tmp 16) 3), .p (.pk 18 (.tmp 12) (.tmp 17) (.const (.bool false))), .p (.as 2 (.tmp 18))])
  (.ret))
theorem b7 : BodyOK Try.prog 7 c7 19 [.tmp 2] := ⟨Try.f7, by kernel_rfl, by kernel_rfl, by kernel_rfl, by kernel_rfl, by kernel_rfl⟩

@[go_sem] def c9 : SC J := .sq [1] (.reg [.p (.bx 1 25 (.tmp 0)), .p (.as 2 (.const (.bool false)))])
 (.sq [2] (.reg [.p (.ld 3 25 (.tmp 1)), .p (.cl (some 4) 22 [.tmp 3] [25]), .p (.mv 5 (.tmp 4)), .g 5 true (.fa 6 25 (.tmp 1) 3), .g 5 true (.ld 7 3 (.tmp 6)), .g 5 true (.fa 8 25 (.tmp 1) 0), .g 5 true (.ld 9 3 (.tmp 8)), .g 5 true (.bn 10 .geq 3 (.tmp 7) (.tmp 9) 3), .p (.pk 11 (.tmp 5) (.tmp 10) (.const (.bool false))), .p (.mv 12 (.tmp 11)), .g 12 true (.fa 13 25 (.tmp 1) 4), .g 12 true (.ld 14 3 (.tmp 13)), .g 12 true (.fa 15 25 (.tmp 1) 3), .g 12 true (.ld 16 3 (.tmp 15)), .g 12 true (.bn 17 .geq 3 (.tmp 14) (.tmp 16) 3), .p (.pk 18 (.tmp 12) (.tmp 17) (.const (.bool false))), .p (.as 2 (.tmp 18))])
  (.ret))
theorem b9 : BodyOK Try.prog 9 c9 19 [.tmp 2] := ⟨Try.f9, by kernel_rfl, by kernel_rfl, by kernel_rfl, by kernel_rfl, by kernel_rfl⟩

@[go_sem] def c8 : SC J := .sq [1, 2] (.reg [.p (.bx 1 23 (.tmp 0)), .p (.al 2 25)])
 (.sq [1, 2, 3] (.reg [.p (.al 3 25)])
  (.sq [1, 2, 3] (.reg [.p (.fa 4 23 (.tmp 1) 0), .p (.ld 5 3 (.tmp 4)), .p (.fa 6 25 (.tmp 3) 0), .p (.st 3 (.tmp 6) (.tmp 5))])
   (.sq [1, 2, 3] (.reg [.p (.fa 7 23 (.tmp 1) 1), .p (.ld 8 3 (.tmp 7)), .p (.fa 9 25 (.tmp 3) 1), .p (.st 3 (.tmp 9) (.tmp 8))])
    (.sq [1, 2, 3] (.reg [.p (.fa 10 23 (.tmp 1) 2), .p (.ld 11 3 (.tmp 10)), .p (.fa 12 25 (.tmp 3) 2), .p (.st 3 (.tmp 12) (.tmp 11))])
     (.sq [1, 2, 3] (.reg [.p (.fa 13 23 (.tmp 1) 3), .p (.ld 14 3 (.tmp 13)), .p (.fa 15 25 (.tmp 3) 3), .p (.st 3 (.tmp 15) (.tmp 14))])
      (.sq [2, 3] (.reg [.p (.fa 16 23 (.tmp 1) 4), .p (.ld 17 3 (.tmp 16)), .p (.fa 18 25 (.tmp 3) 4), .p (.st 3 (.tmp 18) (.tmp 17))])
       (.sq [2] (.reg [.p (.ld 19 25 (.tmp 3)), .p (.st 25 (.tmp 2) (.tmp 19))])
        (.ret))))))))
theorem b8 : BodyOK Try.prog 8 c8 20 [.cell 2 25] := ⟨Try.f8, by kernel_rfl, by kernel_rfl, by kernel_rfl, by kernel_rfl, by kernel_rfl⟩

@[go_sem] def c3 : SC J := .sq [1] (.reg [.p (.bx 1 23 (.tmp 0)), .p (.as 2 (.const (.bool false)))])
 (.sq [1, 3] (.reg [.p (.ld 5 23 (.tmp 1)), .p (.cl (some 6) 8 [.tmp 5] [23]), .p (.cl (some 7) 7 [.tmp 6] [25]), .p (.as 3 (.tmp 7))])
  (.sq [3, 4] (.reg [.p (.ld 8 23 (.tmp 1)), .p (.cl (some 9) 8 [.tmp 8] [23]), .p (.cl (some 10) 9 [.tmp 9] [25]), .p (.as 4 (.tmp 10))])
   (.sq [] (.sq [13] (.reg [.p (.mv 11 (.tmp 4)), .p (.mv 12 (.tmp 3)), .p (.bn 13 .neq 4 (.tmp 11) (.tmp 12) 4)])
     (.cond (.tmp 13)
      (.sq [2] (.reg [.p (.as 2 (.const (.bool false)))])
       (.ret))
      (.skip)))
    (.sq [2] (.reg [.p (.as 2 (.const (.bool true)))])
     (.ret)))))
theorem b3 : BodyOK Try.prog 3 c3 14 [.tmp 2] := ⟨Try.f3, by kernel_rfl, by kernel_rfl, by kernel_rfl, by kernel_rfl, by kernel_rfl⟩

abbrev vI (a : Int) : AV := .sc (.int .i64 a)
abbrev vB (b : Bool) : AV := .sc (.bool b)
def mIn (a b c : Int) : Bool := decide (b ≤ a) && decide (a ≤ c)
structure MSetup where
  many : Int
  need : Int
  clients : Int
  room : Int
  inbox : Int
def MSetup.av (s : MSetup) : AV := .agg [vI s.many, vI s.need, vI s.clients, vI s.room, vI s.inbox]
def mSetupOk (s : MSetup) : Bool := mIn s.many 1 5 && (mIn s.need 1 s.many && (decide (IntKind.i64.wrap (2 * s.need) > s.many) && (mIn s.clients 1 3 && (mIn s.room 1 64 && mIn s.inbox 1 64))))
def mQuietRoom (s : MSetup) : Bool := mSetupOk s && (decide (s.room ≥ s.many) && decide (s.inbox ≥ s.room))
attribute [go_sem] MSetup.av
theorem c29_c (a b c : Int) : CallR Try.prog 29 [vI a, vI b, vI c] (vB (mIn a b c)) [] := by
  refine callR_of_jv b29 rfl ?_
  simp -implicitDefEqProofs only [go_sem, Nat.reduceBEq, Nat.reduceAdd, Nat.reduceSub, Nat.reduceMul, Nat.reduceLT, Nat.reduceLeDiff, reduceCtorEq]
  refine guardP_intro (fun h => ?_) (fun h => ?_)
  · simp -implicitDefEqProofs only [go_sem, Nat.reduceBEq, Nat.reduceAdd, Nat.reduceSub, Nat.reduceMul, Nat.reduceLT, Nat.reduceLeDiff, reduceCtorEq, h]
    simp_all [mIn]
  · simp -implicitDefEqProofs only [go_sem, Nat.reduceBEq, Nat.reduceAdd, Nat.reduceSub, Nat.reduceMul, Nat.reduceLT, Nat.reduceLeDiff, reduceCtorEq, h]
    simp_all [mIn]
    omega
theorem c21_c (s : MSetup) : CallR Try.prog 21 [s.av] (vB (mSetupOk s)) [] := by
  refine callR_of_jv b21 rfl ?_
  simp -implicitDefEqProofs only [go_sem, Nat.reduceBEq, Nat.reduceAdd, Nat.reduceSub, Nat.reduceMul, Nat.reduceLT, Nat.reduceLeDiff, reduceCtorEq, mSetupOk]
  repeat' first | (refine Want.intro (by first | exact c29_c _ _ _) ?_; try simp -implicitDefEqProofs only [go_sem, Nat.reduceBEq, Nat.reduceAdd, Nat.reduceSub, Nat.reduceMul, Nat.reduceLT, Nat.reduceLeDiff, reduceCtorEq]) | (refine guardP_intro (fun h => ?_) (fun h => ?_) <;> try simp -implicitDefEqProofs only [go_sem, Nat.reduceBEq, Nat.reduceAdd, Nat.reduceSub, Nat.reduceMul, Nat.reduceLT, Nat.reduceLeDiff, reduceCtorEq, h]) | (refine condJ_intro (fun h => ?_) (fun h => ?_) <;> try simp -implicitDefEqProofs only [go_sem, Nat.reduceBEq, Nat.reduceAdd, Nat.reduceSub, Nat.reduceMul, Nat.reduceLT, Nat.reduceLeDiff, reduceCtorEq, h])
theorem c7_c (s : MSetup) : CallR Try.prog 7 [s.av] (vB (mQuietRoom s)) [] := by
  refine callR_of_jv b7 rfl ?_
  simp -implicitDefEqProofs only [go_sem, Nat.reduceBEq, Nat.reduceAdd, Nat.reduceSub, Nat.reduceMul, Nat.reduceLT, Nat.reduceLeDiff, reduceCtorEq, mQuietRoom]
  repeat' first | (refine Want.intro (by first | exact c21_c s) ?_; try simp -implicitDefEqProofs only [go_sem, Nat.reduceBEq, Nat.reduceAdd, Nat.reduceSub, Nat.reduceMul, Nat.reduceLT, Nat.reduceLeDiff, reduceCtorEq]) | (refine guardP_intro (fun h => ?_) (fun h => ?_) <;> try simp -implicitDefEqProofs only [go_sem, Nat.reduceBEq, Nat.reduceAdd, Nat.reduceSub, Nat.reduceMul, Nat.reduceLT, Nat.reduceLeDiff, reduceCtorEq, h]) | (refine condJ_intro (fun h => ?_) (fun h => ?_) <;> try simp -implicitDefEqProofs only [go_sem, Nat.reduceBEq, Nat.reduceAdd, Nat.reduceSub, Nat.reduceMul, Nat.reduceLT, Nat.reduceLeDiff, reduceCtorEq, h])
theorem c31_c (a b c : Int) : CallR Try.prog 31 [vI a, vI b, vI c] (vB (mIn a b c)) [] := by
  refine callR_of_jv b31 rfl ?_
  simp -implicitDefEqProofs only [go_sem, Nat.reduceBEq, Nat.reduceAdd, Nat.reduceSub, Nat.reduceMul, Nat.reduceLT, Nat.reduceLeDiff, reduceCtorEq]
  refine guardP_intro (fun h => ?_) (fun h => ?_)
  · simp -implicitDefEqProofs only [go_sem, Nat.reduceBEq, Nat.reduceAdd, Nat.reduceSub, Nat.reduceMul, Nat.reduceLT, Nat.reduceLeDiff, reduceCtorEq, h]
    simp_all [mIn]
  · simp -implicitDefEqProofs only [go_sem, Nat.reduceBEq, Nat.reduceAdd, Nat.reduceSub, Nat.reduceMul, Nat.reduceLT, Nat.reduceLeDiff, reduceCtorEq, h]
    simp_all [mIn]
    omega
theorem c22_c (s : MSetup) : CallR Try.prog 22 [s.av] (vB (mSetupOk s)) [] := by
  refine callR_of_jv b22 rfl ?_
  simp -implicitDefEqProofs only [go_sem, Nat.reduceBEq, Nat.reduceAdd, Nat.reduceSub, Nat.reduceMul, Nat.reduceLT, Nat.reduceLeDiff, reduceCtorEq, mSetupOk]
  repeat' first | (refine Want.intro (by first | exact c31_c _ _ _) ?_; try simp -implicitDefEqProofs only [go_sem, Nat.reduceBEq, Nat.reduceAdd, Nat.reduceSub, Nat.reduceMul, Nat.reduceLT, Nat.reduceLeDiff, reduceCtorEq]) | (refine guardP_intro (fun h => ?_) (fun h => ?_) <;> try simp -implicitDefEqProofs only [go_sem, Nat.reduceBEq, Nat.reduceAdd, Nat.reduceSub, Nat.reduceMul, Nat.reduceLT, Nat.reduceLeDiff, reduceCtorEq, h]) | (refine condJ_intro (fun h => ?_) (fun h => ?_) <;> try simp -implicitDefEqProofs only [go_sem, Nat.reduceBEq, Nat.reduceAdd, Nat.reduceSub, Nat.reduceMul, Nat.reduceLT, Nat.reduceLeDiff, reduceCtorEq, h])
theorem c9_c (s : MSetup) : CallR Try.prog 9 [s.av] (vB (mQuietRoom s)) [] := by
  refine callR_of_jv b9 rfl ?_
  simp -implicitDefEqProofs only [go_sem, Nat.reduceBEq, Nat.reduceAdd, Nat.reduceSub, Nat.reduceMul, Nat.reduceLT, Nat.reduceLeDiff, reduceCtorEq, mQuietRoom]
  repeat' first | (refine Want.intro (by first | exact c22_c s) ?_; try simp -implicitDefEqProofs only [go_sem, Nat.reduceBEq, Nat.reduceAdd, Nat.reduceSub, Nat.reduceMul, Nat.reduceLT, Nat.reduceLeDiff, reduceCtorEq]) | (refine guardP_intro (fun h => ?_) (fun h => ?_) <;> try simp -implicitDefEqProofs only [go_sem, Nat.reduceBEq, Nat.reduceAdd, Nat.reduceSub, Nat.reduceMul, Nat.reduceLT, Nat.reduceLeDiff, reduceCtorEq, h]) | (refine condJ_intro (fun h => ?_) (fun h => ?_) <;> try simp -implicitDefEqProofs only [go_sem, Nat.reduceBEq, Nat.reduceAdd, Nat.reduceSub, Nat.reduceMul, Nat.reduceLT, Nat.reduceLeDiff, reduceCtorEq, h])
theorem c8_c (s : MSetup) : CallR Try.prog 8 [s.av] s.av [] := by
  refine callR_of_jv b8 rfl ?_
  simp -implicitDefEqProofs only [go_sem, Nat.reduceBEq, Nat.reduceAdd, Nat.reduceSub, Nat.reduceMul, Nat.reduceLT, Nat.reduceLeDiff, reduceCtorEq]
theorem c3_c (s : MSetup) : CallR Try.prog 3 [s.av] (vB true) [] := by
  refine callR_of_jv b3 rfl ?_
  simp -implicitDefEqProofs only [go_sem, Nat.reduceBEq, Nat.reduceAdd, Nat.reduceSub, Nat.reduceMul, Nat.reduceLT, Nat.reduceLeDiff, reduceCtorEq]
  repeat' first | (refine Want.intro (by first | exact c8_c s | exact c7_c s | exact c9_c s) ?_; try simp -implicitDefEqProofs only [go_sem, Nat.reduceBEq, Nat.reduceAdd, Nat.reduceSub, Nat.reduceMul, Nat.reduceLT, Nat.reduceLeDiff, reduceCtorEq]) | (refine guardP_intro (fun h => ?_) (fun h => ?_) <;> try simp -implicitDefEqProofs only [go_sem, Nat.reduceBEq, Nat.reduceAdd, Nat.reduceSub, Nat.reduceMul, Nat.reduceLT, Nat.reduceLeDiff, reduceCtorEq, h]) | (refine condJ_intro (fun h => ?_) (fun h => ?_) <;> try simp -implicitDefEqProofs only [go_sem, Nat.reduceBEq, Nat.reduceAdd, Nat.reduceSub, Nat.reduceMul, Nat.reduceLT, Nat.reduceLeDiff, reduceCtorEq, h])
end Go.Proofs.Ytbamamgeamnmnaa.E
