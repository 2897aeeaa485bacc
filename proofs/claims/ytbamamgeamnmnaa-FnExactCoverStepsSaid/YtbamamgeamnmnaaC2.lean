/-
  Contracts: steps.
-/
import Derived.Test.YtbamamgeamnmnaaC1
namespace Go.Proofs.Ytbamamgeamnmnaa.E
open Go Go.RowKit
set_option maxHeartbeats 4000000
set_option linter.unusedSimpArgs false
set_option linter.unusedVariables false
@[go_sem] def c23 : SC J := .sq [1, 2] (.reg [.p (.bx 2 41 (.tmp 0)), .p (.as 4 (.const (.int .i64 0)))])
 (.sq [1] (.reg [.p (.mv 5 (.tmp 1)), .p (.fa 6 41 (.tmp 2) 3), .p (.ld 7 9 (.tmp 6)), .p (.ln 8 9 (.tmp 7)), .p (.bn 9 .sub 3 (.tmp 5) (.tmp 8) 3), .p (.as 1 (.tmp 9))])
  (.sq [1] (.sq [1, 11] (.reg [.p (.mv 10 (.tmp 1)), .p (.bn 11 .lss 3 (.tmp 10) (.const (.int .i64 0)) 3)])
    (.cond (.tmp 11)
     (.sq [4] (.reg [.p (.as 4 (.const (.int .i64 (-1))))])
      (.ret))
     (.skip)))
   (.sq [4] (.reg [.p (.mv 12 (.tmp 1)), .p (.as 4 (.tmp 12))])
    (.ret))))
theorem b23 : BodyOK Try.prog 23 c23 13 [.tmp 4] := ⟨Try.f23, by kernel_rfl, by kernel_rfl, by kernel_rfl, by kernel_rfl, by kernel_rfl⟩

@[go_sem] def c10 : SC J := .sq [0, 1] (.reg [.p (.as 4 (.const (.int .i64 0)))])
 (.sq [0, 1] (.reg [.p (.mv 6 (.tmp 1)), .p (.mv 7 (.tmp 0)), .p (.ln 8 28 (.tmp 7)), .p (.bn 9 .sub 3 (.tmp 6) (.tmp 8) 3), .p (.as 1 (.tmp 9))])
  (.sq [0, 1] (.sq [0, 1, 11] (.reg [.p (.mv 10 (.tmp 1)), .p (.bn 11 .lss 3 (.tmp 10) (.const (.int .i64 0)) 3)])
    (.cond (.tmp 11)
     (.sq [4] (.reg [.p (.as 4 (.const (.int .i64 (-1))))])
      (.ret))
     (.skip)))
   (.sq [1] (.sq [0, 1, 5] (.reg [.p (.as 5 (.const (.int .i64 0)))])
     (.block 0 (.lp [0, 1, 5] (.sq [0, 1, 5] (.sq [0, 1, 5, 15] (.reg [.p (.mv 12 (.tmp 5)), .p (.mv 13 (.tmp 0)), .p (.ln 14 28 (.tmp 13)), .p (.bn 15 .lss 3 (.tmp 12) (.tmp 14) 3)])
         (.cond (.tmp 15)
          (.skip)
          (.exit 0)))
        (.sq [0, 1, 5] (.block 1 (.sq [0, 1, 5] (.reg [.p (.mv 18 (.tmp 0)), .p (.mv 19 (.tmp 5)), .p (.ia 20 28 (.tmp 18) (.tmp 19)), .p (.ld 21 41 (.tmp 20)), .p (.mv 22 (.tmp 1)), .p (.cl (some 23) 23 [.tmp 21, .tmp 22] [41, 3]), .p (.as 1 (.tmp 23))])
           (.sq [0, 1, 5, 25] (.reg [.p (.mv 24 (.tmp 1)), .p (.bn 25 .lss 3 (.tmp 24) (.const (.int .i64 0)) 3)])
            (.cond (.tmp 25)
             (.sq [4] (.reg [.p (.as 4 (.const (.int .i64 (-1))))])
              (.ret))
             (.skip)))))
         (.reg [.p (.mv 16 (.tmp 5)), .p (.bn 17 .add 3 (.tmp 16) (.const (.int .i64 1)) 3), .p (.as 5 (.tmp 17))]))))))
    (.sq [4] (.reg [.p (.mv 26 (.tmp 1)), .p (.as 4 (.tmp 26))])
     (.ret)))))
theorem b10 : BodyOK Try.prog 10 c10 27 [.tmp 4] := ⟨Try.f10, by kernel_rfl, by kernel_rfl, by kernel_rfl, by kernel_rfl, by kernel_rfl⟩

@[go_sem] def c24 : SC J := .sq [1, 2] (.reg [.p (.bx 1 41 (.tmp 0)), .p (.al 2 42)])
 (.sq [1, 2, 3] (.reg [.p (.al 3 42)])
  (.sq [1, 2, 3] (.reg [.p (.fa 4 41 (.tmp 1) 0), .p (.ld 5 3 (.tmp 4)), .p (.fa 6 42 (.tmp 3) 0), .p (.st 3 (.tmp 6) (.tmp 5))])
   (.sq [1, 2, 3] (.reg [.p (.fa 7 41 (.tmp 1) 1), .p (.ld 8 3 (.tmp 7)), .p (.fa 9 42 (.tmp 3) 1), .p (.st 3 (.tmp 9) (.tmp 8))])
    (.sq [1, 2, 3] (.reg [.p (.fa 10 41 (.tmp 1) 2), .p (.ld 11 3 (.tmp 10)), .p (.fa 12 42 (.tmp 3) 2), .p (.st 3 (.tmp 12) (.tmp 11))])
     (.sq [2, 3] (.reg [.p (.fa 13 41 (.tmp 1) 3), .p (.ld 14 9 (.tmp 13)), .p (.fa 15 42 (.tmp 3) 3), .p (.st 9 (.tmp 15) (.tmp 14))])
      (.sq [2] (.reg [.p (.ld 16 42 (.tmp 3)), .p (.st 42 (.tmp 2) (.tmp 16))])
       (.ret)))))))
theorem b24 : BodyOK Try.prog 24 c24 17 [.cell 2 42] := ⟨Try.f24, by kernel_rfl, by kernel_rfl, by kernel_rfl, by kernel_rfl, by kernel_rfl⟩

@[go_sem] def c12 : SC J := .sq [0] (.reg [.p (.as 2 (.const (.slice none 0 0)))])
 (.sq [0, 3] (.reg [.p (.mv 5 (.tmp 0)), .p (.ln 6 28 (.tmp 5)), .p (.ms 7 31 (.tmp 6) (.tmp 6)), .p (.as 3 (.tmp 7))])
  (.sq [3] (.sq [0, 3, 4] (.reg [.p (.as 4 (.const (.int .i64 0)))])
    (.block 0 (.lp [0, 3, 4] (.sq [0, 3, 4] (.sq [0, 3, 4, 11] (.reg [.p (.mv 8 (.tmp 4)), .p (.mv 9 (.tmp 0)), .p (.ln 10 28 (.tmp 9)), .p (.bn 11 .lss 3 (.tmp 8) (.tmp 10) 3)])
        (.cond (.tmp 11)
         (.skip)
         (.exit 0)))
       (.sq [0, 3, 4] (.block 1 (.reg [.p (.mv 14 (.tmp 3)), .p (.mv 15 (.tmp 4)), .p (.mv 16 (.tmp 0)), .p (.mv 17 (.tmp 4)), .p (.ia 18 28 (.tmp 16) (.tmp 17)), .p (.ld 19 41 (.tmp 18)), .p (.cl (some 20) 24 [.tmp 19] [41]), .p (.ia 21 31 (.tmp 14) (.tmp 15)), .p (.st 42 (.tmp 21) (.tmp 20))]))
        (.reg [.p (.mv 12 (.tmp 4)), .p (.bn 13 .add 3 (.tmp 12) (.const (.int .i64 1)) 3), .p (.as 4 (.tmp 13))]))))))
   (.sq [2] (.reg [.p (.mv 22 (.tmp 3)), .p (.as 2 (.tmp 22))])
    (.ret))))
theorem b12 : BodyOK Try.prog 12 c12 23 [.tmp 2] := ⟨Try.f12, by kernel_rfl, by kernel_rfl, by kernel_rfl, by kernel_rfl, by kernel_rfl⟩

structure MStep where
  kind : Int
  node : Int
  arg : Int
  text : ByteArray
def MStep.cs (s : MStep) : List AV := [vI s.kind, vI s.node, vI s.arg, .sc (.string s.text)]
def stepsV (l : List MStep) : AV := .ro 4 (l.map MStep.cs)
attribute [go_sem] MStep.cs stepsV
theorem wrap_small {z : Int} (h : -9223372036854775808 ≤ z ∧ z ≤ 9223372036854775807) : IntKind.i64.wrap z = z := by
  rw [IntKind.wrap_i64]; omega
theorem wrap_succ {i n : Nat} (h : i < n) (hn : n ≤ maxLen) : IntKind.i64.wrap ((i : Int) + 1) = ((i + 1 : Nat) : Int) := by
  unfold maxLen at hn
  rw [wrap_small (by omega)]
  omega
def mSz (s : MStep) (left : Int) : Int := if IntKind.i64.wrap (left - s.text.size) < 0 then -1 else IntKind.i64.wrap (left - s.text.size)
def mSzGo : List MStep → Int → Int
  | [], x => x
  | s :: r, x => if mSz s x < 0 then -1 else mSzGo r (mSz s x)
def mSzS (l : List MStep) (left : Int) : Int := if IntKind.i64.wrap (left - l.length) < 0 then -1 else mSzGo l (IntKind.i64.wrap (left - l.length))
theorem c23_c (s : MStep) (left : Int) : CallR Try.prog 23 [.agg s.cs, vI left] (vI (mSz s left)) [] := by
  refine callR_of_jv b23 rfl ?_
  simp -implicitDefEqProofs only [go_sem, Nat.reduceBEq, Nat.reduceAdd, Nat.reduceSub, Nat.reduceMul, Nat.reduceLT, Nat.reduceLeDiff, reduceCtorEq, mSz]
  refine condJ_intro (fun h => ?_) (fun h => ?_)
  · simp -implicitDefEqProofs only [go_sem, Nat.reduceBEq, Nat.reduceAdd, Nat.reduceSub, Nat.reduceMul, Nat.reduceLT, Nat.reduceLeDiff, reduceCtorEq, h]
    rw [if_pos (of_decide_eq_true h)]
  · simp -implicitDefEqProofs only [go_sem, Nat.reduceBEq, Nat.reduceAdd, Nat.reduceSub, Nat.reduceMul, Nat.reduceLT, Nat.reduceLeDiff, reduceCtorEq, h]
    rw [if_neg (of_decide_eq_false h)]
theorem c10_c (l : List MStep) (left : Int) (hl : l.length ≤ maxLen) : CallR Try.prog 10 [stepsV l, vI left] (vI (mSzS l left)) [] := by
  refine callR_of_jv b10 rfl ?_
  simp -implicitDefEqProofs only [go_sem, Nat.reduceBEq, Nat.reduceAdd, Nat.reduceSub, Nat.reduceMul, Nat.reduceLT, Nat.reduceLeDiff, reduceCtorEq]
  refine condJ_intro (fun h => ?_) (fun h => ?_)
  · simp -implicitDefEqProofs only [go_sem, Nat.reduceBEq, Nat.reduceAdd, Nat.reduceSub, Nat.reduceMul, Nat.reduceLT, Nat.reduceLeDiff, reduceCtorEq, h]
    have h : IntKind.i64.wrap (left - l.length) < 0 := of_decide_eq_true h
    rw [mSzS, if_pos h]
  · have h1 : ¬ IntKind.i64.wrap (left - l.length) < 0 := of_decide_eq_false h
    simp -implicitDefEqProofs only [go_sem, Nat.reduceBEq, Nat.reduceAdd, Nat.reduceSub, Nat.reduceMul, Nat.reduceLT, Nat.reduceLeDiff, reduceCtorEq, h]
    have h0 : mSzGo l (IntKind.i64.wrap (left - l.length)) = mSzS l left := by rw [mSzS, if_neg h1]
    refine jv_lp (fun m s => ∃ (i : Nat) (x : Int), i ≤ l.length ∧ m = l.length - i ∧ mSzGo (l.drop i) x = mSzS l left ∧ s = ⟨27, [(0, stepsV l), (1, vI x), (5, vI i)], [], 1⟩) l.length
      (by simp -implicitDefEqProofs only [go_sem, Nat.reduceBEq, Nat.reduceAdd, Nat.reduceSub, Nat.reduceMul, Nat.reduceLT, Nat.reduceLeDiff, reduceCtorEq]; exact ⟨0, _, Nat.zero_le _, rfl, h0, rfl⟩) ?_
    rintro m s ⟨i, x, hi, rfl, hx, rfl⟩
    rcases Nat.lt_or_ge i l.length with hlt | hge
    · have hlt' : (i : Int) < (l.length : Int) := by omega
      have hg : l[i]? = some l[i] := List.getElem?_eq_getElem hlt
      rw [List.drop_eq_getElem_cons hlt, mSzGo] at hx
      have hw := wrap_succ hlt hl
      simp -implicitDefEqProofs only [go_sem, Nat.reduceBEq, Nat.reduceAdd, Nat.reduceSub, Nat.reduceMul, Nat.reduceLT, Nat.reduceLeDiff, reduceCtorEq, hlt', hg]
      refine Want.intro (c23_c _ _) ?_
      simp -implicitDefEqProofs only [go_sem, Nat.reduceBEq, Nat.reduceAdd, Nat.reduceSub, Nat.reduceMul, Nat.reduceLT, Nat.reduceLeDiff, reduceCtorEq]
      refine condJ_intro (fun h => ?_) (fun h => ?_)
      · simp -implicitDefEqProofs only [go_sem, Nat.reduceBEq, Nat.reduceAdd, Nat.reduceSub, Nat.reduceMul, Nat.reduceLT, Nat.reduceLeDiff, reduceCtorEq, h]
        rw [if_pos (of_decide_eq_true h)] at hx
        rw [hx]
      · simp -implicitDefEqProofs only [go_sem, Nat.reduceBEq, Nat.reduceAdd, Nat.reduceSub, Nat.reduceMul, Nat.reduceLT, Nat.reduceLeDiff, reduceCtorEq, h, hw]
        rw [if_neg (of_decide_eq_false h)] at hx
        exact ⟨_, by omega, i + 1, _, hlt, rfl, hx, rfl⟩
    · have hi : i = l.length := by omega
      subst hi
      have hlt' : ¬ ((l.length : Int) < (l.length : Int)) := by omega
      rw [List.drop_length, mSzGo] at hx
      simp -implicitDefEqProofs only [go_sem, Nat.reduceBEq, Nat.reduceAdd, Nat.reduceSub, Nat.reduceMul, Nat.reduceLT, Nat.reduceLeDiff, reduceCtorEq, hlt', hx]
theorem c24_c (s : MStep) : CallR Try.prog 24 [.agg s.cs] (.agg s.cs) [] := by
  refine callR_of_jv b24 rfl ?_
  simp -implicitDefEqProofs only [go_sem, Nat.reduceBEq, Nat.reduceAdd, Nat.reduceSub, Nat.reduceMul, Nat.reduceLT, Nat.reduceLeDiff, reduceCtorEq]
/-- A new row, filled from below. -/
def fill {α : Type} (E : α → List AV) (z : List AV) (l : List α) (i : Nat) : List (List AV) := (l.take i).map E ++ List.replicate (l.length - i) z
theorem fill_zero {α : Type} {E : α → List AV} {z : List AV} {l : List α} : List.replicate l.length z = fill E z l 0 := by simp [fill]
theorem fill_all {α : Type} {E : α → List AV} {z : List AV} {l : List α} : fill E z l l.length = l.map E := by simp [fill]
theorem fill_get {α : Type} {E : α → List AV} {z : List AV} {l : List α} {i : Nat} (h : i < l.length) : (fill E z l i)[i]? = some z := by
  have hl : (List.map E (l.take i)).length = i := by simp; omega
  unfold fill
  rw [List.getElem?_append_right (by omega), List.getElem?_replicate, if_pos (by omega)]
theorem fill_set {α : Type} {E : α → List AV} {z : List AV} {l : List α} {i : Nat} {x : α} (h : l[i]? = some x) : (fill E z l i).set i (E x) = fill E z l (i + 1) := by
  obtain ⟨hi, rfl⟩ := List.getElem?_eq_some_iff.1 h
  have hl : (List.map E (l.take i)).length = i := by simp; omega
  unfold fill
  rw [List.set_append_right _ _ (by omega), List.take_succ_eq_append_getElem hi, hl, Nat.sub_self]
  have e : l.length - i = (l.length - (i + 1)) + 1 := by omega
  rw [e, List.replicate_succ, List.set_cons_zero, List.map_append, List.append_assoc]
  rfl
theorem fill_len {α : Type} {E : α → List AV} {z : List AV} {l : List α} {i : Nat} (h : i ≤ l.length) : (fill E z l i).length = l.length := by
  simp [fill, Nat.min_eq_left h]; omega
theorem c12_c (l : List MStep) (hl : l.length ≤ 1048576) : CallR Try.prog 12 [stepsV l] (.blk 0 0 [] 4 0 l.length) [([], ⟨4, l.map MStep.cs, 2, false⟩)] := by
  refine callR_of_jv b12 rfl ?_
  have h1 : (l.length : Int) = l.length ∧ 0 ≤ (l.length : Int) ∧ ((40 : Nat) : Int) * (l.length : Int) ≤ 281474976710656 ∧ (l.length : Int) ≤ 9223372036854775807 := by omega
  simp -implicitDefEqProofs only [go_sem, Nat.reduceBEq, Nat.reduceAdd, Nat.reduceSub, Nat.reduceMul, Nat.reduceLT, Nat.reduceLeDiff, reduceCtorEq, h1]
  have hz : ∃ z : List AV, z = [vI 0, vI 0, vI 0, .sc (.string ⟨#[]⟩)] := ⟨_, rfl⟩
  obtain ⟨z, hz⟩ := hz
  refine jv_lp (fun m s => ∃ (i : Nat), i ≤ l.length ∧ m = l.length - i ∧ s = ⟨23, [(0, stepsV l), (3, .blk 3 0 [] 4 0 l.length), (4, vI i)], [(3, (0, one ⟨4, fill MStep.cs z l i, 2, false⟩))], 1⟩) l.length
    (by simp -implicitDefEqProofs only [go_sem, Nat.reduceBEq, Nat.reduceAdd, Nat.reduceSub, Nat.reduceMul, Nat.reduceLT, Nat.reduceLeDiff, reduceCtorEq]; exact ⟨0, Nat.zero_le _, rfl, by rw [← fill_zero, hz]; rfl⟩) ?_
  rintro m s ⟨i, hi, rfl, rfl⟩
  rcases Nat.lt_or_ge i l.length with hlt | hge
  · have hlt' : (i : Int) < (l.length : Int) := by omega
    have hg : l[i]? = some l[i] := List.getElem?_eq_getElem hlt
    have hw := wrap_succ hlt (Nat.le_trans hl (by decide))
    have hf : (fill MStep.cs z l i)[i]? = some z := fill_get hlt
    have hs : (fill MStep.cs z l i).set i [vI l[i].kind, vI l[i].node, vI l[i].arg, .sc (.string l[i].text)] = fill MStep.cs z l (i + 1) := fill_set hg
    subst hz
    simp -implicitDefEqProofs only [go_sem, Nat.reduceBEq, Nat.reduceAdd, Nat.reduceSub, Nat.reduceMul, Nat.reduceLT, Nat.reduceLeDiff, reduceCtorEq, hlt', hg]
    refine Want.intro (c24_c _) ?_
    simp -implicitDefEqProofs only [go_sem, Nat.reduceBEq, Nat.reduceAdd, Nat.reduceSub, Nat.reduceMul, Nat.reduceLT, Nat.reduceLeDiff, reduceCtorEq, hlt', hg, hf, hs, hw]
    exact ⟨_, by omega, i + 1, hlt, rfl, rfl⟩
  · have hi : i = l.length := by omega
    subst hi
    have hlt' : ¬ ((l.length : Int) < (l.length : Int)) := by omega
    simp -implicitDefEqProofs only [go_sem, Nat.reduceBEq, Nat.reduceAdd, Nat.reduceSub, Nat.reduceMul, Nat.reduceLT, Nat.reduceLeDiff, reduceCtorEq, hlt', fill_all]
end Go.Proofs.Ytbamamgeamnmnaa.E
