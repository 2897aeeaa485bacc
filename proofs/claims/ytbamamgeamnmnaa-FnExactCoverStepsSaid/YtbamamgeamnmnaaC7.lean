/-
  Contracts: cover steps.
-/
import Derived.Test.YtbamamgeamnmnaaC6
namespace Go.Proofs.Ytbamamgeamnmnaa.E
open Go Go.RowKit
set_option maxHeartbeats 4000000
set_option linter.unusedSimpArgs false
set_option linter.unusedVariables false
set_option linter.unusedSectionVars false
@[go_sem] def c30 : SC J := .sq [1] (.reg [.p (.bx 1 25 (.tmp 0)), .p (.as 2 (.const (.int .i64 0)))])
 (.sq [1] (.sq [1, 5] (.reg [.p (.ld 3 25 (.tmp 1)), .p (.cl (some 4) 21 [.tmp 3] [25]), .p (.un 5 .not 4 (.tmp 4))])
   (.cond (.tmp 5)
    (.sq [2] (.reg [.p (.as 2 (.const (.int .i64 (-1))))])
     (.ret))
    (.skip)))
  (.sq [2] (.reg [.p (.fa 6 25 (.tmp 1) 0), .p (.ld 7 3 (.tmp 6)), .p (.fa 8 25 (.tmp 1) 2), .p (.ld 9 3 (.tmp 8)), .p (.bn 10 .add 3 (.tmp 7) (.tmp 9) 3), .p (.bn 11 .add 3 (.tmp 10) (.const (.int .i64 1)) 3), .p (.as 2 (.tmp 11))])
   (.ret)))
theorem b30 : BodyOK Try.prog 30 c30 12 [.tmp 2] := ⟨Try.f30, by kernel_rfl, by kernel_rfl, by kernel_rfl, by kernel_rfl, by kernel_rfl⟩

@[go_sem] def c32 : SC J := .sq [1] (.reg [.p (.bx 1 25 (.tmp 0)), .p (.as 2 (.const (.int .i64 0)))])
 (.sq [1] (.sq [1, 5] (.reg [.p (.ld 3 25 (.tmp 1)), .p (.cl (some 4) 22 [.tmp 3] [25]), .p (.un 5 .not 4 (.tmp 4))])
   (.cond (.tmp 5)
    (.sq [2] (.reg [.p (.as 2 (.const (.int .i64 (-1))))])
     (.ret))
    (.skip)))
  (.sq [2] (.reg [.p (.fa 6 25 (.tmp 1) 0), .p (.ld 7 3 (.tmp 6)), .p (.fa 8 25 (.tmp 1) 2), .p (.ld 9 3 (.tmp 8)), .p (.bn 10 .add 3 (.tmp 7) (.tmp 9) 3), .p (.bn 11 .add 3 (.tmp 10) (.const (.int .i64 1)) 3), .p (.as 2 (.tmp 11))])
   (.ret)))
theorem b32 : BodyOK Try.prog 32 c32 12 [.tmp 2] := ⟨Try.f32, by kernel_rfl, by kernel_rfl, by kernel_rfl, by kernel_rfl, by kernel_rfl⟩

@[go_sem] def c19 : SC J := .sq [1, 2] (.reg [.p (.bx 2 25 (.tmp 0)), .p (.as 4 (.const (.slice none 0 0)))])
 (.sq [1, 2, 5] (.reg [.p (.bs 8 31 0 []), .p (.as 5 (.tmp 8))])
  (.sq [1, 2, 5] (.sq [1, 2, 5, 16] (.reg [.p (.ld 9 25 (.tmp 2)), .p (.cl (some 10) 21 [.tmp 9] [25]), .p (.un 11 .not 4 (.tmp 10)), .p (.mv 12 (.tmp 11)), .g 12 false (.mv 13 (.tmp 1)), .g 12 false (.cl (some 14) 29 [.tmp 13, .const (.int .i64 0), .const (.int .i64 256)] [3, 3, 3]), .g 12 false (.un 15 .not 4 (.tmp 14)), .p (.pk 16 (.tmp 12) (.const (.bool true)) (.tmp 15))])
    (.cond (.tmp 16)
     (.sq [4] (.reg [.p (.mv 17 (.tmp 5)), .p (.as 4 (.tmp 17))])
      (.ret))
     (.skip)))
   (.sq [1, 5, 6] (.reg [.p (.ld 18 25 (.tmp 2)), .p (.cl (some 19) 30 [.tmp 18] [25]), .p (.as 6 (.tmp 19))])
    (.sq [1, 5, 6] (.reg [.p (.mv 20 (.tmp 5)), .p (.mv 21 (.tmp 6)), .p (.cm (some 22) 26 [true, false] [.tmp 20, .tmp 21] [31, 3]), .p (.as 5 (.tmp 22))])
     (.sq [5] (.sq [1, 5, 6, 7] (.reg [.p (.as 7 (.const (.int .i64 0)))])
       (.block 0 (.lp [1, 5, 6, 7] (.sq [1, 5, 6, 7] (.sq [1, 5, 6, 7, 25] (.reg [.p (.mv 23 (.tmp 7)), .p (.mv 24 (.tmp 1)), .p (.bn 25 .leq 3 (.tmp 23) (.tmp 24) 3)])
           (.cond (.tmp 25)
            (.skip)
            (.exit 0)))
          (.sq [1, 5, 6, 7] (.block 1 (.sq [1, 5, 6, 7] (.reg [.p (.mv 28 (.tmp 5)), .p (.mv 29 (.tmp 6)), .p (.bd 30 42 [(0, .const (.int .i64 2)), (1, .tmp 29)]), .p (.bs 31 31 1 [(0, .tmp 30)]), .p (.ap (some 32) 31 31 (.tmp 28) (.tmp 31)), .p (.as 5 (.tmp 32))])
             (.reg [.p (.mv 33 (.tmp 5)), .p (.bd 34 42 [(0, .const (.int .i64 12)), (2, .const (.int .i64 8))]), .p (.bs 35 31 1 [(0, .tmp 34)]), .p (.ap (some 36) 31 31 (.tmp 33) (.tmp 35)), .p (.as 5 (.tmp 36))])))
           (.reg [.p (.mv 26 (.tmp 7)), .p (.bn 27 .add 3 (.tmp 26) (.const (.int .i64 1)) 3), .p (.as 7 (.tmp 27))]))))))
      (.sq [4] (.reg [.p (.mv 37 (.tmp 5)), .p (.as 4 (.tmp 37))])
       (.ret)))))))
theorem b19 : BodyOK Try.prog 19 c19 38 [.tmp 4] := ⟨Try.f19, by kernel_rfl, by kernel_rfl, by kernel_rfl, by kernel_rfl, by kernel_rfl⟩

@[go_sem] def c20 : SC J := .sq [1, 2] (.reg [.p (.bx 2 25 (.tmp 0)), .p (.as 4 (.const (.slice none 0 0)))])
 (.sq [1, 2] (.sq [1, 2, 14] (.reg [.p (.ld 7 25 (.tmp 2)), .p (.cl (some 8) 22 [.tmp 7] [25]), .p (.un 9 .not 4 (.tmp 8)), .p (.mv 10 (.tmp 9)), .g 10 false (.mv 11 (.tmp 1)), .g 10 false (.cl (some 12) 31 [.tmp 11, .const (.int .i64 0), .const (.int .i64 256)] [3, 3, 3]), .g 10 false (.un 13 .not 4 (.tmp 12)), .p (.pk 14 (.tmp 10) (.const (.bool true)) (.tmp 13))])
   (.cond (.tmp 14)
    (.sq [4] (.reg [.p (.as 4 (.const (.slice none 0 0)))])
     (.ret))
    (.skip)))
  (.sq [1, 5] (.reg [.p (.ld 15 25 (.tmp 2)), .p (.cl (some 16) 32 [.tmp 15] [25]), .p (.as 5 (.tmp 16))])
   (.sq [1, 5, 6] (.reg [.p (.mv 17 (.tmp 5)), .p (.bd 18 42 [(0, .const (.int .i64 8)), (1, .tmp 17)]), .p (.mv 19 (.tmp 5)), .p (.bd 20 42 [(0, .const (.int .i64 9)), (1, .tmp 19)]), .p (.bs 21 31 2 [(0, .tmp 18), (1, .tmp 20)]), .p (.as 6 (.tmp 21))])
    (.sq [6] (.block 0 (.lp [1, 5, 6] (.sq [1, 5, 6] (.sq [1, 5, 6, 23] (.reg [.p (.mv 22 (.tmp 1)), .p (.bn 23 .geq 3 (.tmp 22) (.const (.int .i64 0)) 3)])
         (.cond (.tmp 23)
          (.skip)
          (.exit 0)))
        (.sq [1, 5, 6] (.block 1 (.reg [.p (.mv 26 (.tmp 6)), .p (.mv 27 (.tmp 5)), .p (.bd 28 42 [(0, .const (.int .i64 2)), (1, .tmp 27)]), .p (.bd 29 42 [(0, .const (.int .i64 12)), (2, .const (.int .i64 8))]), .p (.bs 30 31 2 [(0, .tmp 28), (1, .tmp 29)]), .p (.ap (some 31) 31 31 (.tmp 26) (.tmp 30)), .p (.as 6 (.tmp 31))]))
         (.reg [.p (.mv 24 (.tmp 1)), .p (.bn 25 .sub 3 (.tmp 24) (.const (.int .i64 1)) 3), .p (.as 1 (.tmp 25))])))))
     (.sq [4] (.reg [.p (.mv 32 (.tmp 6)), .p (.cl (some 33) 27 [.tmp 32] [31]), .p (.as 4 (.tmp 33))])
      (.ret))))))
theorem b20 : BodyOK Try.prog 20 c20 34 [.tmp 4] := ⟨Try.f20, by kernel_rfl, by kernel_rfl, by kernel_rfl, by kernel_rfl, by kernel_rfl⟩

@[go_sem] def c6 : SC J := .sq [1, 2] (.reg [.p (.bx 2 23 (.tmp 0)), .p (.as 4 (.const (.bool false)))])
 (.sq [1, 2, 5] (.reg [.p (.ld 10 23 (.tmp 2)), .p (.cl (some 11) 8 [.tmp 10] [23]), .p (.mv 12 (.tmp 1)), .p (.cl (some 13) 19 [.tmp 11, .tmp 12] [25, 3]), .p (.as 5 (.tmp 13))])
  (.sq [1, 2, 5, 6] (.reg [.p (.ld 14 23 (.tmp 2)), .p (.cl (some 15) 8 [.tmp 14] [23]), .p (.mv 16 (.tmp 1)), .p (.cl (some 17) 20 [.tmp 15, .tmp 16] [25, 3]), .p (.as 6 (.tmp 17))])
   (.sq [1, 2, 5, 6] (.sq [1, 2, 5, 6, 21] (.reg [.p (.mv 18 (.tmp 6)), .p (.mv 19 (.tmp 5)), .p (.cl (some 20) 14 [.tmp 18, .tmp 19] [31, 31]), .p (.un 21 .not 4 (.tmp 20))])
     (.cond (.tmp 21)
      (.sq [4] (.reg [.p (.as 4 (.const (.bool false)))])
       (.ret))
      (.skip)))
    (.sq [1, 2, 5, 6, 7] (.reg [.p (.as 7 (.const (.int .i64 1)))])
     (.sq [1, 2, 5, 6, 7] (.reg [.p (.mv 22 (.tmp 6)), .p (.mv 23 (.tmp 7)), .p (.cm (some 24) 17 [true, false] [.tmp 22, .tmp 23] [31, 3]), .p (.as 7 (.tmp 24))])
      (.sq [1, 2, 5, 6, 7, 8] (.reg [.p (.as 8 (.const (.int .i64 1)))])
       (.sq [1, 2, 5, 6, 7, 8] (.reg [.p (.mv 25 (.tmp 6)), .p (.mv 26 (.tmp 8)), .p (.cl (some 27) 18 [.tmp 25, .tmp 26] [31, 3]), .p (.as 8 (.tmp 27))])
        (.sq [1, 2, 5, 6, 7, 8] (.sq [1, 2, 5, 6, 7, 8, 29] (.reg [.p (.mv 28 (.tmp 8)), .p (.bn 29 .lss 3 (.tmp 28) (.const (.int .i64 0)) 3)])
          (.cond (.tmp 29)
           (.sq [4] (.reg [.p (.as 4 (.const (.bool false)))])
            (.ret))
           (.skip)))
         (.sq [1, 2, 5, 6, 7] (.sq [1, 2, 5, 6, 7, 32] (.reg [.p (.mv 30 (.tmp 8)), .p (.mv 31 (.tmp 7)), .p (.bn 32 .neq 3 (.tmp 30) (.tmp 31) 3)])
           (.cond (.tmp 32)
            (.sq [4] (.reg [.p (.as 4 (.const (.bool false)))])
             (.ret))
            (.skip)))
          (.sq [5, 6, 7, 9] (.reg [.p (.ld 33 23 (.tmp 2)), .p (.cl (some 34) 8 [.tmp 33] [23]), .p (.mv 35 (.tmp 1)), .p (.cl (some 36) 20 [.tmp 34, .tmp 35] [25, 3]), .p (.as 9 (.tmp 36))])
           (.sq [6, 7] (.sq [6, 7, 40] (.reg [.p (.mv 37 (.tmp 9)), .p (.mv 38 (.tmp 5)), .p (.cl (some 39) 14 [.tmp 37, .tmp 38] [31, 31]), .p (.un 40 .not 4 (.tmp 39))])
             (.cond (.tmp 40)
              (.sq [4] (.reg [.p (.as 4 (.const (.bool false)))])
               (.ret))
              (.skip)))
            (.sq [6, 7, 8] (.reg [.p (.as 8 (.const (.int .i64 1)))])
             (.sq [7, 8] (.reg [.p (.mv 41 (.tmp 6)), .p (.mv 42 (.tmp 8)), .p (.cl (some 43) 18 [.tmp 41, .tmp 42] [31, 3]), .p (.as 8 (.tmp 43))])
              (.sq [7, 8] (.sq [7, 8, 45] (.reg [.p (.mv 44 (.tmp 8)), .p (.bn 45 .lss 3 (.tmp 44) (.const (.int .i64 0)) 3)])
                (.cond (.tmp 45)
                 (.sq [4] (.reg [.p (.as 4 (.const (.bool false)))])
                  (.ret))
                 (.skip)))
               (.sq [] (.sq [48] (.reg [.p (.mv 46 (.tmp 8)), .p (.mv 47 (.tmp 7)), .p (.bn 48 .neq 3 (.tmp 46) (.tmp 47) 3)])
                 (.cond (.tmp 48)
                  (.sq [4] (.reg [.p (.as 4 (.const (.bool false)))])
                   (.ret))
                  (.skip)))
                (.sq [4] (.reg [.p (.as 4 (.const (.bool true)))])
                 (.ret)))))))))))))))))
theorem b6 : BodyOK Try.prog 6 c6 49 [.tmp 4] := ⟨Try.f6, by kernel_rfl, by kernel_rfl, by kernel_rfl, by kernel_rfl, by kernel_rfl⟩

def mLast (s : MSetup) : Int := if mSetupOk s then s.many + s.clients + 1 else -1
theorem c30_c (s : MSetup) : CallR Try.prog 30 [s.av] (vI (mLast s)) [] := by
  refine callR_of_jv b30 rfl ?_
  simp -implicitDefEqProofs only [go_sem, Nat.reduceBEq, Nat.reduceAdd, Nat.reduceSub, Nat.reduceMul, Nat.reduceLT, Nat.reduceLeDiff, Int.reduceEq, Int.reduceLT, Int.reduceLE, reduceCtorEq]
  refine Want.intro (c21_c s) ?_
  simp -implicitDefEqProofs only [go_sem, Nat.reduceBEq, Nat.reduceAdd, Nat.reduceSub, Nat.reduceMul, Nat.reduceLT, Nat.reduceLeDiff, Int.reduceEq, Int.reduceLT, Int.reduceLE, reduceCtorEq]
  refine condJ_intro (fun h => ?_) (fun h => ?_)
  · simp -implicitDefEqProofs only [go_sem, Nat.reduceBEq, Nat.reduceAdd, Nat.reduceSub, Nat.reduceMul, Nat.reduceLT, Nat.reduceLeDiff, Int.reduceEq, Int.reduceLT, Int.reduceLE, reduceCtorEq, h]
    have h : mSetupOk s = false := by simpa using h
    simp [mLast, h]
  · have hok : mSetupOk s = true := by simpa using h
    have hb := setupOk_bd hok
    have hw1 : IntKind.i64.wrap (s.many + s.clients) = s.many + s.clients := wrap_small (by omega)
    have hw2 : IntKind.i64.wrap (s.many + s.clients + 1) = s.many + s.clients + 1 := wrap_small (by omega)
    simp -implicitDefEqProofs only [go_sem, Nat.reduceBEq, Nat.reduceAdd, Nat.reduceSub, Nat.reduceMul, Nat.reduceLT, Nat.reduceLeDiff, Int.reduceEq, Int.reduceLT, Int.reduceLE, reduceCtorEq, h, hw1, hw2]
    simp [mLast, hok]
theorem c32_c (s : MSetup) : CallR Try.prog 32 [s.av] (vI (mLast s)) [] := by
  refine callR_of_jv b32 rfl ?_
  simp -implicitDefEqProofs only [go_sem, Nat.reduceBEq, Nat.reduceAdd, Nat.reduceSub, Nat.reduceMul, Nat.reduceLT, Nat.reduceLeDiff, Int.reduceEq, Int.reduceLT, Int.reduceLE, reduceCtorEq]
  refine Want.intro (c22_c s) ?_
  simp -implicitDefEqProofs only [go_sem, Nat.reduceBEq, Nat.reduceAdd, Nat.reduceSub, Nat.reduceMul, Nat.reduceLT, Nat.reduceLeDiff, Int.reduceEq, Int.reduceLT, Int.reduceLE, reduceCtorEq]
  refine condJ_intro (fun h => ?_) (fun h => ?_)
  · simp -implicitDefEqProofs only [go_sem, Nat.reduceBEq, Nat.reduceAdd, Nat.reduceSub, Nat.reduceMul, Nat.reduceLT, Nat.reduceLeDiff, Int.reduceEq, Int.reduceLT, Int.reduceLE, reduceCtorEq, h]
    have h : mSetupOk s = false := by simpa using h
    simp [mLast, h]
  · have hok : mSetupOk s = true := by simpa using h
    have hb := setupOk_bd hok
    have hw1 : IntKind.i64.wrap (s.many + s.clients) = s.many + s.clients := wrap_small (by omega)
    have hw2 : IntKind.i64.wrap (s.many + s.clients + 1) = s.many + s.clients + 1 := wrap_small (by omega)
    simp -implicitDefEqProofs only [go_sem, Nat.reduceBEq, Nat.reduceAdd, Nat.reduceSub, Nat.reduceMul, Nat.reduceLT, Nat.reduceLeDiff, Int.reduceEq, Int.reduceLT, Int.reduceLE, reduceCtorEq, h, hw1, hw2]
    simp [mLast, hok]
def mCover1 (m : Int) (i : Nat) : List MStep := mAgain m ++ gF (fun _ => [mTick m, mRound 8]) i
theorem mCover1_len (m : Int) (i : Nat) : (mCover1 m i).length = 2 + 2 * i := by
  simp only [mCover1, List.length_append]
  rw [gF_len (fun _ => rfl)]
  rfl
def mCoverOk (s : MSetup) (n : Int) : Bool := mSetupOk s && mIn n 0 256
def mCover (s : MSetup) (n : Int) : List MStep := if mCoverOk s n then mCover1 (mLast s) (n + 1).toNat else []
theorem coverOk_bd {s : MSetup} {n : Int} (h : mCoverOk s n = true) : 0 ≤ n ∧ n ≤ 256 := by
  simp only [mCoverOk, mIn, Bool.and_eq_true, decide_eq_true_eq] at h
  exact h.2
theorem c19_c (s : MSetup) (n : Int) : CallR Try.prog 19 [s.av, vI n] (.blk 0 0 [] 4 0 (mCover s n).length) [([], ⟨4, (mCover s n).map MStep.cs, 2, false⟩)] := by
  refine callR_of_jv b19 rfl ?_
  simp -implicitDefEqProofs only [go_sem, Nat.reduceBEq, Nat.reduceAdd, Nat.reduceSub, Nat.reduceMul, Nat.reduceLT, Nat.reduceLeDiff, Int.reduceEq, Int.reduceLT, Int.reduceLE, reduceCtorEq]
  repeat' first | (refine Want.intro (by first | exact c21_c s | exact c29_c n 0 256 | exact c30_c s) ?_; try simp -implicitDefEqProofs only [go_sem, Nat.reduceBEq, Nat.reduceAdd, Nat.reduceSub, Nat.reduceMul, Nat.reduceLT, Nat.reduceLeDiff, Int.reduceEq, Int.reduceLT, Int.reduceLE, reduceCtorEq]) | (refine WantM.intro (by first | exact c21_c s | exact c29_c n 0 256 | exact c30_c s) ?_; try simp -implicitDefEqProofs only [go_sem, Nat.reduceBEq, Nat.reduceAdd, Nat.reduceSub, Nat.reduceMul, Nat.reduceLT, Nat.reduceLeDiff, Int.reduceEq, Int.reduceLT, Int.reduceLE, reduceCtorEq]) | (refine guardP_intro (fun h => ?_) (fun h => ?_) <;> try simp -implicitDefEqProofs only [go_sem, Nat.reduceBEq, Nat.reduceAdd, Nat.reduceSub, Nat.reduceMul, Nat.reduceLT, Nat.reduceLeDiff, Int.reduceEq, Int.reduceLT, Int.reduceLE, reduceCtorEq, h]) | (refine condJ_intro (fun h => ?_) (fun h => ?_) <;> try simp -implicitDefEqProofs only [go_sem, Nat.reduceBEq, Nat.reduceAdd, Nat.reduceSub, Nat.reduceMul, Nat.reduceLT, Nat.reduceLeDiff, Int.reduceEq, Int.reduceLT, Int.reduceLE, reduceCtorEq, h])
  · have h : mSetupOk s = false := by simpa using h
    simp [mCover, mCoverOk, h]
  · have h : mIn n 0 256 = false := by simpa using h
    simp [mCover, mCoverOk, h]
  · rename_i h1
    have hok : mCoverOk s n = true := by simp_all [mCoverOk]
    have hb := coverOk_bd hok
    clear h h1
    generalize hm : mLast s = m at *
    refine WantM.intro (c26_c [] m (by simp)) ?_
    simp -implicitDefEqProofs only [go_sem, Nat.reduceBEq, Nat.reduceAdd, Nat.reduceSub, Nat.reduceMul, Nat.reduceLT, Nat.reduceLeDiff, Int.reduceEq, Int.reduceLT, Int.reduceLE, reduceCtorEq]
    refine jv_lp (fun k z => ∃ i : Nat, i ≤ (n + 1).toNat ∧ k = (n + 1).toNat - i ∧ z = ⟨38, [(1, vI n), (5, .blk 5 0 [] 4 0 (mCover1 m i).length), (6, vI m), (7, vI (i : Nat))], [(5, 0, one ⟨4, (mCover1 m i).map MStep.cs, 2, false⟩)], 1⟩) (n + 1).toNat ?_ ?_
    · simp -implicitDefEqProofs only [go_sem, Nat.reduceBEq, Nat.reduceAdd, Nat.reduceSub, Nat.reduceMul, Nat.reduceLT, Nat.reduceLeDiff, Int.reduceEq, Int.reduceLT, Int.reduceLE, reduceCtorEq]
      exact ⟨0, Nat.zero_le _, rfl, rfl⟩
    · rintro k z ⟨i, hi, rfl, rfl⟩
      rcases Nat.lt_or_ge i (n + 1).toNat with hlt | hge
      · have hle : (i : Int) ≤ n := by omega
        have ha : ∀ x, _ := fun x => app_ok (E := MStep.cs) (l := mCover1 m i) (xs := [x]) (b := 40) (n := 1000) (by rw [mCover1_len]; simp; omega) (by omega) (by omega)
        have ha2 : ∀ x y, ((mCover1 m i).map MStep.cs ++ [x] ++ [y]).length ≤ maxLen ∧ ((mCover1 m i).map MStep.cs ++ [x] ++ [y]).length * 40 ≤ 140737488355328 := fun x y => by
          rw [List.append_assoc]
          exact app_ok (E := MStep.cs) (l := mCover1 m i) (b := 40) (n := 1000) (by rw [mCover1_len]; simp; omega) (by omega) (by omega)
        simp -implicitDefEqProofs only [go_sem, Nat.reduceBEq, Nat.reduceAdd, Nat.reduceSub, Nat.reduceMul, Nat.reduceLT, Nat.reduceLeDiff, Int.reduceEq, Int.reduceLT, Int.reduceLE, reduceCtorEq, hle, ha, ha2]
        exact ⟨_, by omega, i + 1, hlt, rfl, by rw [wrap_small (by omega)]; simp [mCover1, gF, mRound, mTick, MStep.cs]⟩
      · have hle : ¬ ((i : Int) ≤ n) := by omega
        have hi : i = (n + 1).toNat := by omega
        simp -implicitDefEqProofs only [go_sem, Nat.reduceBEq, Nat.reduceAdd, Nat.reduceSub, Nat.reduceMul, Nat.reduceLT, Nat.reduceLeDiff, Int.reduceEq, Int.reduceLT, Int.reduceLE, reduceCtorEq, hle]
        subst hi
        simp [mCover, hok, hm]
theorem c20_c (s : MSetup) (n : Int) : CallR Try.prog 20 [s.av, vI n] (.blk 0 0 [] 4 0 (mCover s n).length) [([], ⟨4, (mCover s n).map MStep.cs, 2, false⟩)] := by
  refine callR_of_jv b20 rfl ?_
  simp -implicitDefEqProofs only [go_sem, Nat.reduceBEq, Nat.reduceAdd, Nat.reduceSub, Nat.reduceMul, Nat.reduceLT, Nat.reduceLeDiff, Int.reduceEq, Int.reduceLT, Int.reduceLE, reduceCtorEq]
  repeat' first | (refine Want.intro (by first | exact c22_c s | exact c31_c n 0 256 | exact c32_c s) ?_; try simp -implicitDefEqProofs only [go_sem, Nat.reduceBEq, Nat.reduceAdd, Nat.reduceSub, Nat.reduceMul, Nat.reduceLT, Nat.reduceLeDiff, Int.reduceEq, Int.reduceLT, Int.reduceLE, reduceCtorEq]) | (refine WantM.intro (by first | exact c22_c s | exact c31_c n 0 256 | exact c32_c s) ?_; try simp -implicitDefEqProofs only [go_sem, Nat.reduceBEq, Nat.reduceAdd, Nat.reduceSub, Nat.reduceMul, Nat.reduceLT, Nat.reduceLeDiff, Int.reduceEq, Int.reduceLT, Int.reduceLE, reduceCtorEq]) | (refine guardP_intro (fun h => ?_) (fun h => ?_) <;> try simp -implicitDefEqProofs only [go_sem, Nat.reduceBEq, Nat.reduceAdd, Nat.reduceSub, Nat.reduceMul, Nat.reduceLT, Nat.reduceLeDiff, Int.reduceEq, Int.reduceLT, Int.reduceLE, reduceCtorEq, h]) | (refine condJ_intro (fun h => ?_) (fun h => ?_) <;> try simp -implicitDefEqProofs only [go_sem, Nat.reduceBEq, Nat.reduceAdd, Nat.reduceSub, Nat.reduceMul, Nat.reduceLT, Nat.reduceLeDiff, Int.reduceEq, Int.reduceLT, Int.reduceLE, reduceCtorEq, h])
  · have h : mSetupOk s = false := by simpa using h
    simp [mCover, mCoverOk, h]
  · have h : mIn n 0 256 = false := by simpa using h
    simp [mCover, mCoverOk, h]
  · rename_i h1
    have hok : mCoverOk s n = true := by simp_all [mCoverOk]
    have hb := coverOk_bd hok
    clear h h1
    generalize hm : mLast s = m at *
    refine jv_lp (fun k z => ∃ i : Nat, i ≤ (n + 1).toNat ∧ k = (n + 1).toNat - i ∧ z = ⟨34, [(1, vI (n - i)), (5, vI m), (6, .blk 6 0 [] 4 0 (mCover1 m i).length)], [(6, 0, one ⟨4, (mCover1 m i).map MStep.cs, 2, false⟩)], 1⟩) (n + 1).toNat ?_ ?_
    · simp -implicitDefEqProofs only [go_sem, Nat.reduceBEq, Nat.reduceAdd, Nat.reduceSub, Nat.reduceMul, Nat.reduceLT, Nat.reduceLeDiff, Int.reduceEq, Int.reduceLT, Int.reduceLE, reduceCtorEq]
      exact ⟨0, Nat.zero_le _, rfl, by simp [mCover1, mAgain, gF, MStep.cs]⟩
    · rintro k z ⟨i, hi, rfl, rfl⟩
      rcases Nat.lt_or_ge i (n + 1).toNat with hlt | hge
      · have hle : n - (i : Int) ≥ 0 := by omega
        have ha : ∀ x y, _ := fun x y => app_ok (E := MStep.cs) (l := mCover1 m i) (xs := [x, y]) (b := 40) (n := 1000) (by rw [mCover1_len]; simp; omega) (by omega) (by omega)
        simp -implicitDefEqProofs only [go_sem, Nat.reduceBEq, Nat.reduceAdd, Nat.reduceSub, Nat.reduceMul, Nat.reduceLT, Nat.reduceLeDiff, Int.reduceEq, Int.reduceLT, Int.reduceLE, reduceCtorEq, hle, ha]
        exact ⟨_, by omega, i + 1, hlt, rfl, by rw [wrap_small (by omega)]; simp [mCover1, gF, mRound, mTick, MStep.cs]; omega⟩
      · have hle : ¬ (n - (i : Int) ≥ 0) := by omega
        have hi : i = (n + 1).toNat := by omega
        simp -implicitDefEqProofs only [go_sem, Nat.reduceBEq, Nat.reduceAdd, Nat.reduceSub, Nat.reduceMul, Nat.reduceLT, Nat.reduceLeDiff, Int.reduceEq, Int.reduceLT, Int.reduceLE, reduceCtorEq, hle]
        subst hi
        refine Want.intro (c27_c (mCover1 m (n + 1).toNat) (by rw [mCover1_len]; omega)) ?_
        simp -implicitDefEqProofs only [go_sem, Nat.reduceBEq, Nat.reduceAdd, Nat.reduceSub, Nat.reduceMul, Nat.reduceLT, Nat.reduceLeDiff, Int.reduceEq, Int.reduceLT, Int.reduceLE, reduceCtorEq]
        simp [mCover, hok, hm]
theorem mCover_len (s : MSetup) (n : Int) : (mCover s n).length ≤ 1000 := by
  unfold mCover
  split
  · rename_i hok
    have hb := coverOk_bd hok
    rw [mCover1_len]
    omega
  · simp
theorem c6_c (s : MSetup) (n : Int) : CallR Try.prog 6 [s.av, vI n] (vB true) [] := by
  refine callR_of_jv b6 rfl ?_
  have hl := mCover_len s n
  simp -implicitDefEqProofs only [go_sem, Nat.reduceBEq, Nat.reduceAdd, Nat.reduceSub, Nat.reduceMul, Nat.reduceLT, Nat.reduceLeDiff, Int.reduceEq, Int.reduceLT, Int.reduceLE, reduceCtorEq]
  refine Want.intro (c8_c s) ?_
  simp -implicitDefEqProofs only [go_sem, Nat.reduceBEq, Nat.reduceAdd, Nat.reduceSub, Nat.reduceMul, Nat.reduceLT, Nat.reduceLeDiff, Int.reduceEq, Int.reduceLT, Int.reduceLE, reduceCtorEq]
  refine Want.intro (c19_c s n) ?_
  simp -implicitDefEqProofs only [go_sem, Nat.reduceBEq, Nat.reduceAdd, Nat.reduceSub, Nat.reduceMul, Nat.reduceLT, Nat.reduceLeDiff, Int.reduceEq, Int.reduceLT, Int.reduceLE, reduceCtorEq]
  refine Want.intro (c8_c s) ?_
  simp -implicitDefEqProofs only [go_sem, Nat.reduceBEq, Nat.reduceAdd, Nat.reduceSub, Nat.reduceMul, Nat.reduceLT, Nat.reduceLeDiff, Int.reduceEq, Int.reduceLT, Int.reduceLE, reduceCtorEq]
  refine Want.intro (c20_c s n) ?_
  have hI := c20_c s n
  generalize mCover s n = L at *
  have hE := mEqL_refl mEqStep_refl L
  have hH : gHeld stepIs (fun k => k + 1 + 1 + 1 + 1) (gMark mkStep L.length 1).1 1 = (gMark mkStep L.length 1).2 := gHeld_all stepIs_mk L.length 1
  have hN : ¬ ((gMark mkStep L.length 1).2 < 0) := by rw [mkStep_num]; omega
  have hG := gMark_len (mk := mkStep) (n := L.length) (k := 1)
  have hT : List.take L.length (gMark mkStep L.length 1).1 = (gMark mkStep L.length 1).1 := List.take_of_length_le (by rw [hG]; exact Nat.le_refl _)
  have hl1 : L.length ≤ maxLen := by unfold maxLen; omega
  have hl2 : (0 : Int) ≤ 1 ∧ 1 + 4 * (L.length : Int) ≤ 9223372036854775800 := by omega
  have hl3 : (gMark mkStep L.length 1).1.length ≤ maxLen := by rw [hG]; exact hl1
  have hl4 : (0 : Int) ≤ 1 ∧ 1 + 4 * ((gMark mkStep L.length 1).1.length : Int) ≤ 9223372036854775800 := by rw [hG]; exact hl2
  simp -implicitDefEqProofs only [go_sem, Nat.reduceBEq, Nat.reduceAdd, Nat.reduceSub, Nat.reduceMul, Nat.reduceLT, Nat.reduceLeDiff, Int.reduceEq, Int.reduceLT, Int.reduceLE, reduceCtorEq]
  repeat' first | (refine Want.intro (by first | exact c14_c L L hl1 | exact c17_c L 1 hl1 hl2 | exact c18_c (gMark mkStep L.length 1).1 1 hl3 hl4 | exact c8_c s | exact hI) ?_; try simp -implicitDefEqProofs only [go_sem, Nat.reduceBEq, Nat.reduceAdd, Nat.reduceSub, Nat.reduceMul, Nat.reduceLT, Nat.reduceLeDiff, Int.reduceEq, Int.reduceLT, Int.reduceLE, reduceCtorEq, hE, hH, hN, hG, hT, bne_self_eq_false]) | (refine WantM.intro (by first | exact c14_c L L hl1 | exact c17_c L 1 hl1 hl2 | exact c18_c (gMark mkStep L.length 1).1 1 hl3 hl4 | exact c8_c s | exact hI) ?_; try simp -implicitDefEqProofs only [go_sem, Nat.reduceBEq, Nat.reduceAdd, Nat.reduceSub, Nat.reduceMul, Nat.reduceLT, Nat.reduceLeDiff, Int.reduceEq, Int.reduceLT, Int.reduceLE, reduceCtorEq, hE, hH, hN, hG, hT, bne_self_eq_false]) | (refine guardP_intro (fun h => ?_) (fun h => ?_) <;> try simp -implicitDefEqProofs only [go_sem, Nat.reduceBEq, Nat.reduceAdd, Nat.reduceSub, Nat.reduceMul, Nat.reduceLT, Nat.reduceLeDiff, Int.reduceEq, Int.reduceLT, Int.reduceLE, reduceCtorEq, hE, hH, hN, hG, hT, bne_self_eq_false, h]) | (refine condJ_intro (fun h => ?_) (fun h => ?_) <;> try simp -implicitDefEqProofs only [go_sem, Nat.reduceBEq, Nat.reduceAdd, Nat.reduceSub, Nat.reduceMul, Nat.reduceLT, Nat.reduceLeDiff, Int.reduceEq, Int.reduceLT, Int.reduceLE, reduceCtorEq, hE, hH, hN, hG, hT, bne_self_eq_false, h])
end Go.Proofs.Ytbamamgeamnmnaa.E
