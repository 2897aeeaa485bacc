/-
  Contracts: quiet steps.
-/
import Derived.Test.YtbamamgeamnmnaaC5
namespace Go.Proofs.Ytbamamgeamnmnaa.E
open Go Go.RowKit
set_option maxHeartbeats 4000000
set_option linter.unusedSimpArgs false
set_option linter.unusedVariables false
set_option linter.unusedSectionVars false
@[go_sem] def c15 : SC J := .sq [1] (.reg [.p (.bx 1 25 (.tmp 0)), .p (.as 2 (.const (.slice none 0 0)))])
 (.sq [1, 3] (.reg [.p (.bs 6 31 0 []), .p (.as 3 (.tmp 6))])
  (.sq [1, 3] (.sq [1, 3, 9] (.reg [.p (.ld 7 25 (.tmp 1)), .p (.cl (some 8) 21 [.tmp 7] [25]), .p (.un 9 .not 4 (.tmp 8))])
    (.cond (.tmp 9)
     (.sq [2] (.reg [.p (.mv 10 (.tmp 3)), .p (.as 2 (.tmp 10))])
      (.ret))
     (.skip)))
   (.sq [1, 3] (.sq [1, 3, 4] (.reg [.p (.as 4 (.const (.int .i64 1)))])
     (.block 0 (.lp [1, 3, 4] (.sq [1, 3, 4] (.sq [1, 3, 4, 17] (.reg [.p (.mv 11 (.tmp 4)), .p (.fa 12 25 (.tmp 1) 0), .p (.ld 13 3 (.tmp 12)), .p (.fa 14 25 (.tmp 1) 2), .p (.ld 15 3 (.tmp 14)), .p (.bn 16 .add 3 (.tmp 13) (.tmp 15) 3), .p (.bn 17 .leq 3 (.tmp 11) (.tmp 16) 3)])
         (.cond (.tmp 17)
          (.skip)
          (.exit 0)))
        (.sq [1, 3, 4] (.block 1 (.reg [.p (.mv 20 (.tmp 3)), .p (.mv 21 (.tmp 4)), .p (.cm (some 22) 26 [true, false] [.tmp 20, .tmp 21] [31, 3]), .p (.as 3 (.tmp 22))]))
         (.reg [.p (.mv 18 (.tmp 4)), .p (.bn 19 .add 3 (.tmp 18) (.const (.int .i64 1)) 3), .p (.as 4 (.tmp 19))]))))))
    (.sq [1, 3] (.reg [.p (.mv 23 (.tmp 3)), .p (.bd 24 42 [(0, .const (.int .i64 12)), (2, .const (.int .i64 6))]), .p (.bs 25 31 1 [(0, .tmp 24)]), .p (.ap (some 26) 31 31 (.tmp 23) (.tmp 25)), .p (.as 3 (.tmp 26))])
     (.sq [3] (.sq [1, 3, 5] (.reg [.p (.fa 27 25 (.tmp 1) 0), .p (.ld 28 3 (.tmp 27)), .p (.bn 29 .add 3 (.tmp 28) (.const (.int .i64 1)) 3), .p (.as 5 (.tmp 29))])
       (.block 2 (.lp [1, 3, 5] (.sq [1, 3, 5] (.sq [1, 3, 5, 36] (.reg [.p (.mv 30 (.tmp 5)), .p (.fa 31 25 (.tmp 1) 0), .p (.ld 32 3 (.tmp 31)), .p (.fa 33 25 (.tmp 1) 2), .p (.ld 34 3 (.tmp 33)), .p (.bn 35 .add 3 (.tmp 32) (.tmp 34) 3), .p (.bn 36 .leq 3 (.tmp 30) (.tmp 35) 3)])
           (.cond (.tmp 36)
            (.skip)
            (.exit 2)))
          (.sq [1, 3, 5] (.block 3 (.sq [1, 3, 5] (.reg [.p (.mv 39 (.tmp 3)), .p (.mv 40 (.tmp 5)), .p (.bd 41 42 [(0, .const (.int .i64 2)), (1, .tmp 40)]), .p (.bs 42 31 1 [(0, .tmp 41)]), .p (.ap (some 43) 31 31 (.tmp 39) (.tmp 42)), .p (.as 3 (.tmp 43))])
             (.reg [.p (.mv 44 (.tmp 3)), .p (.bd 45 42 [(0, .const (.int .i64 12)), (2, .const (.int .i64 6))]), .p (.bs 46 31 1 [(0, .tmp 45)]), .p (.ap (some 47) 31 31 (.tmp 44) (.tmp 46)), .p (.as 3 (.tmp 47))])))
           (.reg [.p (.mv 37 (.tmp 5)), .p (.bn 38 .add 3 (.tmp 37) (.const (.int .i64 1)) 3), .p (.as 5 (.tmp 38))]))))))
      (.sq [2] (.reg [.p (.mv 48 (.tmp 3)), .p (.as 2 (.tmp 48))])
       (.ret)))))))
theorem b15 : BodyOK Try.prog 15 c15 49 [.tmp 2] := ⟨Try.f15, by kernel_rfl, by kernel_rfl, by kernel_rfl, by kernel_rfl, by kernel_rfl⟩

@[go_sem] def c16 : SC J := .sq [1] (.reg [.p (.bx 1 25 (.tmp 0)), .p (.as 2 (.const (.slice none 0 0)))])
 (.sq [1] (.sq [1, 9] (.reg [.p (.ld 7 25 (.tmp 1)), .p (.cl (some 8) 22 [.tmp 7] [25]), .p (.un 9 .not 4 (.tmp 8))])
   (.cond (.tmp 9)
    (.sq [2] (.reg [.p (.as 2 (.const (.slice none 0 0)))])
     (.ret))
    (.skip)))
  (.sq [1, 3] (.reg [.p (.as 3 (.const (.slice none 0 0)))])
   (.sq [1, 3, 4] (.reg [.p (.fa 10 25 (.tmp 1) 0), .p (.ld 11 3 (.tmp 10)), .p (.fa 12 25 (.tmp 1) 2), .p (.ld 13 3 (.tmp 12)), .p (.bn 14 .add 3 (.tmp 11) (.tmp 13) 3), .p (.as 4 (.tmp 14))])
    (.sq [1, 3, 4] (.sq [1, 3, 4, 5] (.reg [.p (.as 5 (.const (.int .i64 1)))])
      (.block 0 (.lp [1, 3, 4, 5] (.sq [1, 3, 4, 5] (.sq [1, 3, 4, 5, 17] (.reg [.p (.mv 15 (.tmp 5)), .p (.mv 16 (.tmp 4)), .p (.bn 17 .leq 3 (.tmp 15) (.tmp 16) 3)])
          (.cond (.tmp 17)
           (.skip)
           (.exit 0)))
         (.sq [1, 3, 4, 5] (.block 1 (.reg [.p (.mv 20 (.tmp 3)), .p (.mv 21 (.tmp 5)), .p (.bd 22 42 [(0, .const (.int .i64 8)), (1, .tmp 21)]), .p (.mv 23 (.tmp 5)), .p (.bd 24 42 [(0, .const (.int .i64 9)), (1, .tmp 23)]), .p (.bs 25 31 2 [(0, .tmp 22), (1, .tmp 24)]), .p (.ap (some 26) 31 31 (.tmp 20) (.tmp 25)), .p (.as 3 (.tmp 26))]))
          (.reg [.p (.mv 18 (.tmp 5)), .p (.bn 19 .add 3 (.tmp 18) (.const (.int .i64 1)) 3), .p (.as 5 (.tmp 19))]))))))
     (.sq [1, 3, 4] (.reg [.p (.mv 27 (.tmp 3)), .p (.bd 28 42 [(0, .const (.int .i64 12)), (2, .const (.int .i64 6))]), .p (.bs 29 31 1 [(0, .tmp 28)]), .p (.ap (some 30) 31 31 (.tmp 27) (.tmp 29)), .p (.as 3 (.tmp 30))])
      (.sq [3] (.sq [3, 4, 6] (.reg [.p (.fa 31 25 (.tmp 1) 0), .p (.ld 32 3 (.tmp 31)), .p (.bn 33 .add 3 (.tmp 32) (.const (.int .i64 1)) 3), .p (.as 6 (.tmp 33))])
        (.block 2 (.lp [3, 4, 6] (.sq [3, 4, 6] (.sq [3, 4, 6, 36] (.reg [.p (.mv 34 (.tmp 6)), .p (.mv 35 (.tmp 4)), .p (.bn 36 .leq 3 (.tmp 34) (.tmp 35) 3)])
            (.cond (.tmp 36)
             (.skip)
             (.exit 2)))
           (.sq [3, 4, 6] (.block 3 (.reg [.p (.mv 39 (.tmp 3)), .p (.mv 40 (.tmp 6)), .p (.bd 41 42 [(0, .const (.int .i64 2)), (1, .tmp 40)]), .p (.bd 42 42 [(0, .const (.int .i64 12)), (2, .const (.int .i64 6))]), .p (.bs 43 31 2 [(0, .tmp 41), (1, .tmp 42)]), .p (.ap (some 44) 31 31 (.tmp 39) (.tmp 43)), .p (.as 3 (.tmp 44))]))
            (.reg [.p (.mv 37 (.tmp 6)), .p (.bn 38 .add 3 (.tmp 37) (.const (.int .i64 1)) 3), .p (.as 6 (.tmp 38))]))))))
       (.sq [2] (.reg [.p (.mv 45 (.tmp 3)), .p (.cl (some 46) 27 [.tmp 45] [31]), .p (.as 2 (.tmp 46))])
        (.ret))))))))
theorem b16 : BodyOK Try.prog 16 c16 47 [.tmp 2] := ⟨Try.f16, by kernel_rfl, by kernel_rfl, by kernel_rfl, by kernel_rfl, by kernel_rfl⟩

@[go_sem] def c5 : SC J := .sq [1] (.reg [.p (.bx 1 23 (.tmp 0)), .p (.as 2 (.const (.bool false)))])
 (.sq [1, 3] (.reg [.p (.ld 8 23 (.tmp 1)), .p (.cl (some 9) 8 [.tmp 8] [23]), .p (.cl (some 10) 15 [.tmp 9] [25]), .p (.as 3 (.tmp 10))])
  (.sq [1, 3, 4] (.reg [.p (.ld 11 23 (.tmp 1)), .p (.cl (some 12) 8 [.tmp 11] [23]), .p (.cl (some 13) 16 [.tmp 12] [25]), .p (.as 4 (.tmp 13))])
   (.sq [1, 3, 4] (.sq [1, 3, 4, 17] (.reg [.p (.mv 14 (.tmp 4)), .p (.mv 15 (.tmp 3)), .p (.cl (some 16) 14 [.tmp 14, .tmp 15] [31, 31]), .p (.un 17 .not 4 (.tmp 16))])
     (.cond (.tmp 17)
      (.sq [2] (.reg [.p (.as 2 (.const (.bool false)))])
       (.ret))
      (.skip)))
    (.sq [1, 3, 4, 5] (.reg [.p (.as 5 (.const (.int .i64 1)))])
     (.sq [1, 3, 4, 5] (.reg [.p (.mv 18 (.tmp 4)), .p (.mv 19 (.tmp 5)), .p (.cm (some 20) 17 [true, false] [.tmp 18, .tmp 19] [31, 3]), .p (.as 5 (.tmp 20))])
      (.sq [1, 3, 4, 5, 6] (.reg [.p (.as 6 (.const (.int .i64 1)))])
       (.sq [1, 3, 4, 5, 6] (.reg [.p (.mv 21 (.tmp 4)), .p (.mv 22 (.tmp 6)), .p (.cl (some 23) 18 [.tmp 21, .tmp 22] [31, 3]), .p (.as 6 (.tmp 23))])
        (.sq [1, 3, 4, 5, 6] (.sq [1, 3, 4, 5, 6, 25] (.reg [.p (.mv 24 (.tmp 6)), .p (.bn 25 .lss 3 (.tmp 24) (.const (.int .i64 0)) 3)])
          (.cond (.tmp 25)
           (.sq [2] (.reg [.p (.as 2 (.const (.bool false)))])
            (.ret))
           (.skip)))
         (.sq [1, 3, 4, 5] (.sq [1, 3, 4, 5, 28] (.reg [.p (.mv 26 (.tmp 6)), .p (.mv 27 (.tmp 5)), .p (.bn 28 .neq 3 (.tmp 26) (.tmp 27) 3)])
           (.cond (.tmp 28)
            (.sq [2] (.reg [.p (.as 2 (.const (.bool false)))])
             (.ret))
            (.skip)))
          (.sq [3, 4, 5, 7] (.reg [.p (.ld 29 23 (.tmp 1)), .p (.cl (some 30) 8 [.tmp 29] [23]), .p (.cl (some 31) 16 [.tmp 30] [25]), .p (.as 7 (.tmp 31))])
           (.sq [4, 5] (.sq [4, 5, 35] (.reg [.p (.mv 32 (.tmp 7)), .p (.mv 33 (.tmp 3)), .p (.cl (some 34) 14 [.tmp 32, .tmp 33] [31, 31]), .p (.un 35 .not 4 (.tmp 34))])
             (.cond (.tmp 35)
              (.sq [2] (.reg [.p (.as 2 (.const (.bool false)))])
               (.ret))
              (.skip)))
            (.sq [4, 5, 6] (.reg [.p (.as 6 (.const (.int .i64 1)))])
             (.sq [5, 6] (.reg [.p (.mv 36 (.tmp 4)), .p (.mv 37 (.tmp 6)), .p (.cl (some 38) 18 [.tmp 36, .tmp 37] [31, 3]), .p (.as 6 (.tmp 38))])
              (.sq [5, 6] (.sq [5, 6, 40] (.reg [.p (.mv 39 (.tmp 6)), .p (.bn 40 .lss 3 (.tmp 39) (.const (.int .i64 0)) 3)])
                (.cond (.tmp 40)
                 (.sq [2] (.reg [.p (.as 2 (.const (.bool false)))])
                  (.ret))
                 (.skip)))
               (.sq [] (.sq [43] (.reg [.p (.mv 41 (.tmp 6)), .p (.mv 42 (.tmp 5)), .p (.bn 43 .neq 3 (.tmp 41) (.tmp 42) 3)])
                 (.cond (.tmp 43)
                  (.sq [2] (.reg [.p (.as 2 (.const (.bool false)))])
                   (.ret))
                  (.skip)))
                (.sq [2] (.reg [.p (.as 2 (.const (.bool true)))])
                 (.ret)))))))))))))))))
theorem b5 : BodyOK Try.prog 5 c5 44 [.tmp 2] := ⟨Try.f5, by kernel_rfl, by kernel_rfl, by kernel_rfl, by kernel_rfl, by kernel_rfl⟩

def gF (f : Nat → List MStep) : Nat → List MStep
  | 0 => []
  | n + 1 => gF f n ++ f n
theorem gF_len {f : Nat → List MStep} (h : ∀ i, (f i).length = 2) (n : Nat) : (gF f n).length = 2 * n := by
  induction n with
  | zero => rfl
  | succ n ih => simp [gF, ih, h]; omega
def mRound (a : Int) : MStep := ⟨12, 0, a, ⟨#[]⟩⟩
def mTick (n : Int) : MStep := ⟨2, n, 0, ⟨#[]⟩⟩
def mQuietA (s : MSetup) (i : Nat) : List MStep := gF (fun i => mAgain ((i + 1 : Nat) : Int)) i
def mQuietB (s : MSetup) (i : Nat) : List MStep := mQuietA s (s.many + s.clients).toNat ++ [mRound 6] ++ gF (fun i => [mTick (s.many + 1 + (i : Nat)), mRound 6]) i
def mQuiet (s : MSetup) : List MStep := if mSetupOk s then mQuietB s s.clients.toNat else []
theorem app_ok {α : Type} {E : α → List AV} {l : List α} {xs : List (List AV)} {b n : Nat} (hn : (l.length + xs.length) ≤ n) (h : n * b ≤ 140737488355328) (hb : 1 ≤ b) : (l.map E ++ xs).length ≤ maxLen ∧ (l.map E ++ xs).length * b ≤ 140737488355328 := by
  have e : (l.map E ++ xs).length = l.length + xs.length := by simp
  rw [e]
  have := Nat.mul_le_mul_right b hn
  exact ⟨ok_len (by omega) hb, by omega⟩
theorem setupOk_bd {s : MSetup} (h : mSetupOk s = true) : (1 ≤ s.many ∧ s.many ≤ 5) ∧ (1 ≤ s.clients ∧ s.clients ≤ 3) := by
  simp only [mSetupOk, mIn, Bool.and_eq_true, decide_eq_true_eq] at h
  omega
theorem c15_c (s : MSetup) : CallR Try.prog 15 [s.av] (.blk 0 0 [] 4 0 (mQuiet s).length) [([], ⟨4, (mQuiet s).map MStep.cs, 2, false⟩)] := by
  refine callR_of_jv b15 rfl ?_
  simp -implicitDefEqProofs only [go_sem, Nat.reduceBEq, Nat.reduceAdd, Nat.reduceSub, Nat.reduceMul, Nat.reduceLT, Nat.reduceLeDiff, Int.reduceEq, Int.reduceLT, Int.reduceLE, reduceCtorEq]
  refine Want.intro (c21_c s) ?_
  simp -implicitDefEqProofs only [go_sem, Nat.reduceBEq, Nat.reduceAdd, Nat.reduceSub, Nat.reduceMul, Nat.reduceLT, Nat.reduceLeDiff, Int.reduceEq, Int.reduceLT, Int.reduceLE, reduceCtorEq]
  refine condJ_intro (fun h => ?_) (fun h => ?_)
  · simp -implicitDefEqProofs only [go_sem, Nat.reduceBEq, Nat.reduceAdd, Nat.reduceSub, Nat.reduceMul, Nat.reduceLT, Nat.reduceLeDiff, Int.reduceEq, Int.reduceLT, Int.reduceLE, reduceCtorEq, h]
    have h : mSetupOk s = false := by simpa using h
    simp [mQuiet, h]
  · have hok : mSetupOk s = true := by simpa using h
    have hb := setupOk_bd hok
    simp -implicitDefEqProofs only [go_sem, Nat.reduceBEq, Nat.reduceAdd, Nat.reduceSub, Nat.reduceMul, Nat.reduceLT, Nat.reduceLeDiff, Int.reduceEq, Int.reduceLT, Int.reduceLE, reduceCtorEq, h]
    have hT : ((s.many + s.clients).toNat : Int) = s.many + s.clients := Int.toNat_of_nonneg (by omega)
    have hw1 : IntKind.i64.wrap (s.many + s.clients) = s.many + s.clients := wrap_small (by omega)
    have hA : ∀ i, (mQuietA s i).length = 2 * i := fun i => gF_len (fun _ => rfl) i
    have hB : ∀ i, (mQuietB s i).length = 2 * (s.many + s.clients).toNat + 1 + 2 * i := fun i => by
      simp only [mQuietB, List.length_append, hA, List.length_singleton]
      rw [gF_len (fun _ => rfl)]
    refine jv_lp (fun m z => ∃ i : Nat, i ≤ (s.many + s.clients).toNat ∧ m = (s.many + s.clients).toNat - i ∧ z = ⟨49, [(1, .ptr 1 0 [] 5 0 0), (3, .blk 3 0 [] 4 0 (mQuietA s i).length), (4, vI ((i + 1 : Nat) : Int))], [(1, 0, one ⟨5, [[vI s.many, vI s.need, vI s.clients, vI s.room, vI s.inbox]], 0, false⟩), (3, 0, one ⟨4, (mQuietA s i).map MStep.cs, 2, false⟩)], 1⟩) (s.many + s.clients).toNat ?_ ?_
    · simp -implicitDefEqProofs only [go_sem, Nat.reduceBEq, Nat.reduceAdd, Nat.reduceSub, Nat.reduceMul, Nat.reduceLT, Nat.reduceLeDiff, Int.reduceEq, Int.reduceLT, Int.reduceLE, reduceCtorEq]
      exact ⟨0, Nat.zero_le _, rfl, rfl⟩
    · rintro m z ⟨i, hi, rfl, rfl⟩
      rcases Nat.lt_or_ge i (s.many + s.clients).toNat with hlt | hge
      · have hle : ((i + 1 : Nat) : Int) ≤ s.many + s.clients := by omega
        simp -implicitDefEqProofs only [go_sem, Nat.reduceBEq, Nat.reduceAdd, Nat.reduceSub, Nat.reduceMul, Nat.reduceLT, Nat.reduceLeDiff, Int.reduceEq, Int.reduceLT, Int.reduceLE, reduceCtorEq, hw1, hle]
        refine WantM.intro (c26_c _ _ (by rw [hA]; omega)) ?_
        simp -implicitDefEqProofs only [go_sem, Nat.reduceBEq, Nat.reduceAdd, Nat.reduceSub, Nat.reduceMul, Nat.reduceLT, Nat.reduceLeDiff, Int.reduceEq, Int.reduceLT, Int.reduceLE, reduceCtorEq, hw1, hle]
        exact ⟨_, by omega, i + 1, hlt, rfl, by rw [wrap_small (by omega)]; rfl⟩
      · have hle : ¬(((i + 1 : Nat) : Int) ≤ s.many + s.clients) := by omega
        have hi : i = (s.many + s.clients).toNat := by omega
        have ha : ∀ x, _ := fun x => app_ok (E := MStep.cs) (l := mQuietA s i) (xs := [x]) (b := 40) (n := 2 * i + 1) (by rw [hA]; simp) (by omega) (by omega)
        have hw2 : IntKind.i64.wrap (s.many + 1) = s.many + 1 := wrap_small (by omega)
        simp -implicitDefEqProofs only [go_sem, Nat.reduceBEq, Nat.reduceAdd, Nat.reduceSub, Nat.reduceMul, Nat.reduceLT, Nat.reduceLeDiff, Int.reduceEq, Int.reduceLT, Int.reduceLE, reduceCtorEq, hw1, hle, ha, hw2]
        subst hi
        refine jv_lp (fun m z => ∃ i : Nat, i ≤ s.clients.toNat ∧ m = s.clients.toNat - i ∧ z = ⟨49, [(1, .ptr 1 0 [] 5 0 0), (3, .blk 3 0 [] 4 0 (mQuietB s i).length), (5, vI (s.many + 1 + (i : Nat)))], [(1, 0, one ⟨5, [[vI s.many, vI s.need, vI s.clients, vI s.room, vI s.inbox]], 0, false⟩), (3, 0, one ⟨4, (mQuietB s i).map MStep.cs, 2, false⟩)], 1⟩) s.clients.toNat ?_ ?_
        · simp -implicitDefEqProofs only [go_sem, Nat.reduceBEq, Nat.reduceAdd, Nat.reduceSub, Nat.reduceMul, Nat.reduceLT, Nat.reduceLeDiff, Int.reduceEq, Int.reduceLT, Int.reduceLE, reduceCtorEq]
          exact ⟨0, Nat.zero_le _, rfl, by simp [mQuietB, gF, mRound, MStep.cs]⟩
        · rintro m z ⟨i, hi, rfl, rfl⟩
          rcases Nat.lt_or_ge i s.clients.toNat with hlt | hge
          · have hle : s.many + 1 + (i : Int) ≤ s.many + s.clients := by omega
            have ha : ∀ x, _ := fun x => app_ok (E := MStep.cs) (l := mQuietB s i) (xs := [x]) (b := 40) (n := 100) (by rw [hB]; simp; omega) (by omega) (by omega)
            have ha2 : ∀ x y, ((mQuietB s i).map MStep.cs ++ [x] ++ [y]).length ≤ maxLen ∧ ((mQuietB s i).map MStep.cs ++ [x] ++ [y]).length * 40 ≤ 140737488355328 := fun x y => by
              rw [List.append_assoc]
              exact app_ok (E := MStep.cs) (l := mQuietB s i) (b := 40) (n := 100) (by rw [hB]; simp; omega) (by omega) (by omega)
            simp -implicitDefEqProofs only [go_sem, Nat.reduceBEq, Nat.reduceAdd, Nat.reduceSub, Nat.reduceMul, Nat.reduceLT, Nat.reduceLeDiff, Int.reduceEq, Int.reduceLT, Int.reduceLE, reduceCtorEq, hw1, hle, ha, ha2]
            exact ⟨_, by omega, i + 1, hlt, rfl, by rw [wrap_small (by omega)]; simp [mQuietB, gF, mRound, mTick, MStep.cs, Int.add_assoc]⟩
          · have hle : ¬ (s.many + 1 + (i : Int) ≤ s.many + s.clients) := by omega
            have hi : i = s.clients.toNat := by omega
            subst hi
            simp -implicitDefEqProofs only [go_sem, Nat.reduceBEq, Nat.reduceAdd, Nat.reduceSub, Nat.reduceMul, Nat.reduceLT, Nat.reduceLeDiff, Int.reduceEq, Int.reduceLT, Int.reduceLE, reduceCtorEq, hw1, hle]
            simp [mQuiet, hok]
theorem c16_c (s : MSetup) : CallR Try.prog 16 [s.av] (.blk 0 0 [] 4 0 (mQuiet s).length) [([], ⟨4, (mQuiet s).map MStep.cs, 2, false⟩)] := by
  refine callR_of_jv b16 rfl ?_
  simp -implicitDefEqProofs only [go_sem, Nat.reduceBEq, Nat.reduceAdd, Nat.reduceSub, Nat.reduceMul, Nat.reduceLT, Nat.reduceLeDiff, Int.reduceEq, Int.reduceLT, Int.reduceLE, reduceCtorEq]
  refine Want.intro (c22_c s) ?_
  simp -implicitDefEqProofs only [go_sem, Nat.reduceBEq, Nat.reduceAdd, Nat.reduceSub, Nat.reduceMul, Nat.reduceLT, Nat.reduceLeDiff, Int.reduceEq, Int.reduceLT, Int.reduceLE, reduceCtorEq]
  refine condJ_intro (fun h => ?_) (fun h => ?_)
  · simp -implicitDefEqProofs only [go_sem, Nat.reduceBEq, Nat.reduceAdd, Nat.reduceSub, Nat.reduceMul, Nat.reduceLT, Nat.reduceLeDiff, Int.reduceEq, Int.reduceLT, Int.reduceLE, reduceCtorEq, h]
    have h : mSetupOk s = false := by simpa using h
    simp [mQuiet, h]
  · have hok : mSetupOk s = true := by simpa using h
    have hb := setupOk_bd hok
    have hT : ((s.many + s.clients).toNat : Int) = s.many + s.clients := Int.toNat_of_nonneg (by omega)
    have hw1 : IntKind.i64.wrap (s.many + s.clients) = s.many + s.clients := wrap_small (by omega)
    have hA : ∀ i, (mQuietA s i).length = 2 * i := fun i => gF_len (fun _ => rfl) i
    have hB : ∀ i, (mQuietB s i).length = 2 * (s.many + s.clients).toNat + 1 + 2 * i := fun i => by
      simp only [mQuietB, List.length_append, hA, List.length_singleton]
      rw [gF_len (fun _ => rfl)]
    simp -implicitDefEqProofs only [go_sem, Nat.reduceBEq, Nat.reduceAdd, Nat.reduceSub, Nat.reduceMul, Nat.reduceLT, Nat.reduceLeDiff, Int.reduceEq, Int.reduceLT, Int.reduceLE, reduceCtorEq, h, hw1]
    refine jv_lpN [(3, 4)] (fun m z => ∃ i : Nat, i ≤ (s.many + s.clients).toNat ∧ m = (s.many + s.clients).toNat - i ∧ z = ⟨47, [(1, .ptr 1 0 [] 5 0 0), (3, .blk 3 0 [] 4 0 (mQuietA s i).length), (4, vI (s.many + s.clients)), (5, vI ((i + 1 : Nat) : Int))], [(1, 0, one ⟨5, [[vI s.many, vI s.need, vI s.clients, vI s.room, vI s.inbox]], 0, false⟩), (3, 0, one ⟨4, (mQuietA s i).map MStep.cs, 2, false⟩)], 1⟩) (s.many + s.clients).toNat ?_ ?_
    · simp -implicitDefEqProofs only [go_sem, Nat.reduceBEq, Nat.reduceAdd, Nat.reduceSub, Nat.reduceMul, Nat.reduceLT, Nat.reduceLeDiff, Int.reduceEq, Int.reduceLT, Int.reduceLE, reduceCtorEq]
      exact ⟨0, Nat.zero_le _, rfl, rfl⟩
    · rintro m z ⟨i, hi, rfl, rfl⟩
      rcases Nat.lt_or_ge i (s.many + s.clients).toNat with hlt | hge
      · have hle : ((i + 1 : Nat) : Int) ≤ s.many + s.clients := by omega
        have ha : ∀ x y, _ := fun x y => app_ok (E := MStep.cs) (l := mQuietA s i) (xs := [x, y]) (b := 40) (n := 100) (by rw [hA]; simp; omega) (by omega) (by omega)
        simp -implicitDefEqProofs only [go_sem, Nat.reduceBEq, Nat.reduceAdd, Nat.reduceSub, Nat.reduceMul, Nat.reduceLT, Nat.reduceLeDiff, Int.reduceEq, Int.reduceLT, Int.reduceLE, reduceCtorEq, hw1, hle, ha]
        exact ⟨_, by omega, i + 1, hlt, rfl, by rw [wrap_small (by omega)]; simp [mQuietA, gF, mAgain, MStep.cs, Int.add_assoc]⟩
      · have hle : ¬(((i + 1 : Nat) : Int) ≤ s.many + s.clients) := by omega
        have hi : i = (s.many + s.clients).toNat := by omega
        have ha : ∀ x, _ := fun x => app_ok (E := MStep.cs) (l := mQuietA s i) (xs := [x]) (b := 40) (n := 2 * i + 1) (by rw [hA]; simp) (by omega) (by omega)
        have hw2 : IntKind.i64.wrap (s.many + 1) = s.many + 1 := wrap_small (by omega)
        simp -implicitDefEqProofs only [go_sem, Nat.reduceBEq, Nat.reduceAdd, Nat.reduceSub, Nat.reduceMul, Nat.reduceLT, Nat.reduceLeDiff, Int.reduceEq, Int.reduceLT, Int.reduceLE, reduceCtorEq, hw1, hle, ha, hw2]
        subst hi
        refine jv_lp (fun m z => ∃ i : Nat, i ≤ s.clients.toNat ∧ m = s.clients.toNat - i ∧ z = ⟨47, [(3, .blk 3 0 [] 4 0 (mQuietB s i).length), (4, vI (s.many + s.clients)), (6, vI (s.many + 1 + (i : Nat)))], [(3, 0, one ⟨4, (mQuietB s i).map MStep.cs, 2, false⟩)], 1⟩) s.clients.toNat ?_ ?_
        · simp -implicitDefEqProofs only [go_sem, Nat.reduceBEq, Nat.reduceAdd, Nat.reduceSub, Nat.reduceMul, Nat.reduceLT, Nat.reduceLeDiff, Int.reduceEq, Int.reduceLT, Int.reduceLE, reduceCtorEq]
          exact ⟨0, Nat.zero_le _, rfl, by simp [mQuietB, gF, mRound, MStep.cs]⟩
        · rintro m z ⟨i, hi, rfl, rfl⟩
          rcases Nat.lt_or_ge i s.clients.toNat with hlt | hge
          · have hle : s.many + 1 + (i : Int) ≤ s.many + s.clients := by omega
            have ha : ∀ x y, _ := fun x y => app_ok (E := MStep.cs) (l := mQuietB s i) (xs := [x, y]) (b := 40) (n := 100) (by rw [hB]; simp; omega) (by omega) (by omega)
            simp -implicitDefEqProofs only [go_sem, Nat.reduceBEq, Nat.reduceAdd, Nat.reduceSub, Nat.reduceMul, Nat.reduceLT, Nat.reduceLeDiff, Int.reduceEq, Int.reduceLT, Int.reduceLE, reduceCtorEq, hw1, hle, ha]
            exact ⟨_, by omega, i + 1, hlt, rfl, by rw [wrap_small (by omega)]; simp [mQuietB, gF, mRound, mTick, MStep.cs, Int.add_assoc]⟩
          · have hle : ¬ (s.many + 1 + (i : Int) ≤ s.many + s.clients) := by omega
            have hi : i = s.clients.toNat := by omega
            subst hi
            simp -implicitDefEqProofs only [go_sem, Nat.reduceBEq, Nat.reduceAdd, Nat.reduceSub, Nat.reduceMul, Nat.reduceLT, Nat.reduceLeDiff, Int.reduceEq, Int.reduceLT, Int.reduceLE, reduceCtorEq, hw1, hle]
            refine Want.intro (c27_c (mQuietB s s.clients.toNat) (by rw [hB]; omega)) ?_
            simp -implicitDefEqProofs only [go_sem, Nat.reduceBEq, Nat.reduceAdd, Nat.reduceSub, Nat.reduceMul, Nat.reduceLT, Nat.reduceLeDiff, Int.reduceEq, Int.reduceLT, Int.reduceLE, reduceCtorEq]
            simp [mQuiet, hok]
theorem mQuiet_len (s : MSetup) : (mQuiet s).length ≤ 100 := by
  unfold mQuiet
  split
  · rename_i hok
    have hb := setupOk_bd hok
    simp only [mQuietB, mQuietA, List.length_append, List.length_singleton]
    rw [gF_len (fun _ => rfl), gF_len (fun _ => rfl)]
    omega
  · simp
theorem c5_c (s : MSetup) : CallR Try.prog 5 [s.av] (vB true) [] := by
  refine callR_of_jv b5 rfl ?_
  have hl := mQuiet_len s
  simp -implicitDefEqProofs only [go_sem, Nat.reduceBEq, Nat.reduceAdd, Nat.reduceSub, Nat.reduceMul, Nat.reduceLT, Nat.reduceLeDiff, Int.reduceEq, Int.reduceLT, Int.reduceLE, reduceCtorEq]
  refine Want.intro (c8_c s) ?_
  simp -implicitDefEqProofs only [go_sem, Nat.reduceBEq, Nat.reduceAdd, Nat.reduceSub, Nat.reduceMul, Nat.reduceLT, Nat.reduceLeDiff, Int.reduceEq, Int.reduceLT, Int.reduceLE, reduceCtorEq]
  refine Want.intro (c15_c s) ?_
  simp -implicitDefEqProofs only [go_sem, Nat.reduceBEq, Nat.reduceAdd, Nat.reduceSub, Nat.reduceMul, Nat.reduceLT, Nat.reduceLeDiff, Int.reduceEq, Int.reduceLT, Int.reduceLE, reduceCtorEq]
  refine Want.intro (c8_c s) ?_
  simp -implicitDefEqProofs only [go_sem, Nat.reduceBEq, Nat.reduceAdd, Nat.reduceSub, Nat.reduceMul, Nat.reduceLT, Nat.reduceLeDiff, Int.reduceEq, Int.reduceLT, Int.reduceLE, reduceCtorEq]
  refine Want.intro (c16_c s) ?_
  have hI := c16_c s
  generalize mQuiet s = L at *
  have hE := mEqL_refl mEqStep_refl L
  have hH : gHeld stepIs (fun k => k + 1 + 1 + 1 + 1) (gMark mkStep L.length 1).1 1 = (gMark mkStep L.length 1).2 := gHeld_all stepIs_mk L.length 1
  have hN : ¬ ((gMark mkStep L.length 1).2 < 0) := by rw [mkStep_num]; omega
  have hG := gMark_len (mk := mkStep) (n := L.length) (k := 1)
  have hT : List.take L.length (gMark mkStep L.length 1).1 = (gMark mkStep L.length 1).1 := List.take_of_length_le (by rw [hG]; exact Nat.le_refl _)
  have hl1 : L.length ≤ maxLen := by unfold maxLen; omega
  have hl2 : (0 : Int) ≤ 1 ∧ 1 + 4 * (L.length : Int) ≤ 9223372036854775800 := by omega
  have hl3 : (gMark mkStep L.length 1).1.length ≤ maxLen := by rw [hG]; exact hl1
  have hl4 : (0 : Int) ≤ 1 ∧ 1 + 4 * ((gMark mkStep L.length 1).1.length : Int) ≤ 9223372036854775800 := by rw [hG]; exact hl2
  simp -implicitDefEqProofs only [go_sem, Nat.reduceBEq, Nat.reduceAdd, Nat.reduceSub, Nat.reduceMul, Nat.reduceLT, Nat.reduceLeDiff, Int.reduceEq, Int.reduceLT, Int.reduceLE, reduceCtorEq]
  repeat' first | (refine Want.intro (by first | exact c14_c L L hl1 | exact c17_c L 1 hl1 hl2 | exact c18_c (gMark mkStep L.length 1).1 1 hl3 hl4 | exact c8_c s | exact hI) ?_; try simp -implicitDefEqProofs only [go_sem, Nat.reduceBEq, Nat.reduceAdd, Nat.reduceSub, Nat.reduceMul, Nat.reduceLT, Nat.reduceLeDiff, Int.reduceEq, Int.reduceLT, Int.reduceLE, reduceCtorEq, hE, hH, hN, hG, hT, bne_self_eq_false]) | (refine WantM.intro (by first | exact c14_c L L hl1 | exact c17_c L 1 hl1 hl2 | exact c18_c (gMark mkStep L.length 1).1 1 hl3 hl4 | exact c8_c s | exact hI) ?_; try simp -implicitDefEqProofs only [go_sem, Nat.reduceBEq, Nat.reduceAdd, Nat.reduceSub, Nat.reduceMul, Nat.reduceLT, Nat.reduceLeDiff, Int.reduceEq, Int.reduceLT, Int.reduceLE, reduceCtorEq, hE, hH, hN, hG, hT, bne_self_eq_false]) | (refine guardP_intro (fun h => ?_) (fun h => ?_) <;> try simp -implicitDefEqProofs only [go_sem, Nat.reduceBEq, Nat.reduceAdd, Nat.reduceSub, Nat.reduceMul, Nat.reduceLT, Nat.reduceLeDiff, Int.reduceEq, Int.reduceLT, Int.reduceLE, reduceCtorEq, hE, hH, hN, hG, hT, bne_self_eq_false, h]) | (refine condJ_intro (fun h => ?_) (fun h => ?_) <;> try simp -implicitDefEqProofs only [go_sem, Nat.reduceBEq, Nat.reduceAdd, Nat.reduceSub, Nat.reduceMul, Nat.reduceLT, Nat.reduceLeDiff, Int.reduceEq, Int.reduceLT, Int.reduceLE, reduceCtorEq, hE, hH, hN, hG, hT, bne_self_eq_false, h])
end Go.Proofs.Ytbamamgeamnmnaa.E
