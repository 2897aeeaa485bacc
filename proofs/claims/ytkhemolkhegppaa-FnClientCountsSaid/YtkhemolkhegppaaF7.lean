/-
  Contracts: what comes of a letter to a client, in the program, whole.
-/
import Derived.Test.YtkhemolkhegppaaF6
namespace Go.Proofs.Ytkhemolkhegppaa.E
open Go Go.RowKit
set_option maxHeartbeats 4000000
set_option maxRecDepth 10000
set_option linter.unusedSimpArgs false
set_option linter.unusedVariables false
set_option linter.unusedSectionVars false
@[go_sem] def c11 : SC J := .sq [1, 3, 5, 6] (.reg [.p (.bx 3 30 (.tmp 0)), .p (.bx 5 47 (.tmp 2)), .p (.al 6 38)])
 (.sq [1, 3, 5, 6] (.sq [1, 3, 5, 6, 26] (.reg [.p (.ld 11 30 (.tmp 3)), .p (.cl (some 12) 44 [.tmp 11] [30]), .p (.un 13 .not 4 (.tmp 12)), .p (.mv 14 (.tmp 13)), .g 14 false (.ld 15 47 (.tmp 5)), .g 14 false (.cl (some 16) 48 [.tmp 15] [47]), .g 14 false (.un 17 .not 4 (.tmp 16)), .p (.pk 18 (.tmp 14) (.const (.bool true)) (.tmp 17)), .p (.mv 19 (.tmp 18)), .g 19 false (.mv 20 (.tmp 1)), .g 19 false (.bn 21 .lss 3 (.tmp 20) (.const (.int .i64 1)) 3), .p (.pk 22 (.tmp 19) (.const (.bool true)) (.tmp 21)), .p (.mv 23 (.tmp 22)), .g 23 false (.mv 24 (.tmp 1)), .g 23 false (.bn 25 .gtr 3 (.tmp 24) (.const (.int .i64 20)) 3), .p (.pk 26 (.tmp 23) (.const (.bool true)) (.tmp 25))])
   (.cond (.tmp 26)
    (.sq [6] (.reg [.p (.bd 27 38 []), .p (.st 38 (.tmp 6) (.tmp 27))])
     (.ret))
    (.skip)))
  (.sq [1, 3, 5, 6, 7] (.reg [.p (.ld 28 30 (.tmp 3)), .p (.cm (some 29) 46 [false] [.tmp 28] [30]), .p (.bd 30 38 [(0, .tmp 29)]), .p (.al 7 38), .p (.st 38 (.tmp 7) (.tmp 30))])
   (.sq [1, 3, 5, 6, 7, 8, 9] (.reg [.p (.fa 32 47 (.tmp 5) 2), .p (.ld 33 9 (.tmp 32)), .p (.cm (some 34) 49 [false] [.tmp 33] [9]), .p (.mv 31 (.tmp 34)), .p (.ex 35 (.tmp 31) 0), .p (.ex 36 (.tmp 31) 1), .p (.al 8 45), .p (.al 9 55), .p (.st 45 (.tmp 8) (.tmp 35)), .p (.st 55 (.tmp 9) (.tmp 36))])
    (.sq [1, 3, 5, 6, 7, 8, 9, 10] (.reg [.p (.fa 37 45 (.tmp 8) 3), .p (.ld 38 3 (.tmp 37)), .p (.fa 39 45 (.tmp 8) 4), .p (.ld 40 25 (.tmp 39)), .p (.bd 41 27 [(0, .tmp 38), (1, .tmp 40)]), .p (.al 10 27), .p (.st 27 (.tmp 10) (.tmp 41))])
     (.sq [6, 7] (.block 0 (.sq [1, 3, 5, 6, 7, 8, 10, 42] (.reg [.p (.fa 43 55 (.tmp 9) 0), .p (.ld 44 3 (.tmp 43)), .p (.bn 45 .neq 3 (.tmp 44) (.const (.int .i64 0)) 3), .p (.mv 46 (.tmp 45)), .g 46 false (.fa 47 45 (.tmp 8) 1), .g 46 false (.ld 48 3 (.tmp 47)), .g 46 false (.fa 49 30 (.tmp 3) 2), .g 46 false (.ld 50 3 (.tmp 49)), .g 46 false (.bn 51 .neq 3 (.tmp 48) (.tmp 50) 3), .p (.pk 52 (.tmp 46) (.const (.bool true)) (.tmp 51)), .p (.as 42 (.tmp 52))])
        (.cond (.tmp 42)
         (.skip)
         (.sq [1, 3, 5, 6, 7, 8, 10, 53] (.reg [.p (.fa 54 30 (.tmp 3) 3), .p (.ld 55 3 (.tmp 54)), .p (.bn 56 .eql 3 (.tmp 55) (.const (.int .i64 1)) 3), .p (.mv 57 (.tmp 56)), .g 57 true (.fa 58 45 (.tmp 8) 0), .g 57 true (.ld 59 3 (.tmp 58)), .g 57 true (.bn 60 .eql 3 (.tmp 59) (.const (.int .i64 2)) 3), .p (.pk 61 (.tmp 57) (.tmp 60) (.const (.bool false))), .p (.mv 62 (.tmp 61)), .g 62 true (.fa 63 47 (.tmp 5) 0), .g 62 true (.ld 64 3 (.tmp 63)), .g 62 true (.bn 65 .eql 3 (.tmp 64) (.const (.int .i64 0)) 3), .p (.pk 66 (.tmp 62) (.tmp 65) (.const (.bool false))), .p (.as 53 (.tmp 66))])
          (.cond (.tmp 53)
           (.reg [.p (.ld 67 38 (.tmp 7)), .p (.mv 68 (.tmp 1)), .p (.ld 69 27 (.tmp 10)), .p (.cm (some 70) 50 [true, false, false] [.tmp 67, .tmp 68, .tmp 69] [38, 3, 27]), .p (.st 38 (.tmp 7) (.tmp 70))])
           (.sq [5, 6, 7, 71] (.reg [.p (.fa 72 30 (.tmp 3) 3), .p (.ld 73 3 (.tmp 72)), .p (.bn 74 .eql 3 (.tmp 73) (.const (.int .i64 2)) 3), .p (.mv 75 (.tmp 74)), .g 75 true (.fa 76 45 (.tmp 8) 0), .g 75 true (.ld 77 3 (.tmp 76)), .g 75 true (.bn 78 .eql 3 (.tmp 77) (.const (.int .i64 6)) 3), .p (.pk 79 (.tmp 75) (.tmp 78) (.const (.bool false))), .p (.mv 80 (.tmp 79)), .g 80 true (.fa 81 47 (.tmp 5) 0), .g 80 true (.ld 82 3 (.tmp 81)), .g 80 true (.bn 83 .geq 3 (.tmp 82) (.const (.int .i64 1)) 3), .p (.pk 84 (.tmp 80) (.tmp 83) (.const (.bool false))), .p (.mv 85 (.tmp 84)), .g 85 true (.fa 86 47 (.tmp 5) 0), .g 85 true (.ld 87 3 (.tmp 86)), .g 85 true (.fa 88 30 (.tmp 3) 1), .g 85 true (.ld 89 3 (.tmp 88)), .g 85 true (.bn 90 .leq 3 (.tmp 87) (.tmp 89) 3), .p (.pk 91 (.tmp 85) (.tmp 90) (.const (.bool false))), .p (.mv 92 (.tmp 91)), .g 92 true (.ld 93 27 (.tmp 10)), .g 92 true (.fa 94 30 (.tmp 3) 4), .g 92 true (.ld 95 27 (.tmp 94)), .g 92 true (.bn 96 .eql 27 (.tmp 93) (.tmp 95) 27), .p (.pk 97 (.tmp 92) (.tmp 96) (.const (.bool false))), .p (.as 71 (.tmp 97))])
            (.cond (.tmp 71)
             (.reg [.p (.ld 98 38 (.tmp 7)), .p (.fa 99 47 (.tmp 5) 0), .p (.ld 100 3 (.tmp 99)), .p (.cm (some 101) 51 [true, false] [.tmp 98, .tmp 100] [38, 3]), .p (.st 38 (.tmp 7) (.tmp 101))])
             (.skip))))))))
      (.sq [6, 7] (.reg [.p (.fa 102 38 (.tmp 7) 1), .p (.ld 103 34 (.tmp 102)), .p (.cl (some 104) 52 [.tmp 103] [34]), .p (.fa 105 38 (.tmp 7) 1), .p (.st 34 (.tmp 105) (.tmp 104))])
       (.sq [6] (.reg [.p (.ld 106 38 (.tmp 7)), .p (.st 38 (.tmp 6) (.tmp 106))])
        (.ret))))))))
theorem b11 : BodyOK Try.prog 11 c11 107 [.cell 6 38] := ⟨Try.f11, by kernel_rfl, by kernel_rfl, by kernel_rfl, by kernel_rfl, by kernel_rfl⟩

@[go_sem] def c10 : SC J := .sq [1, 2, 4] (.reg [.p (.bx 2 30 (.tmp 0)), .p (.al 4 38)])
 (.sq [1, 2, 4] (.sq [1, 2, 4, 13] (.reg [.p (.ld 6 30 (.tmp 2)), .p (.cl (some 7) 44 [.tmp 6] [30]), .p (.un 8 .not 4 (.tmp 7)), .p (.mv 9 (.tmp 8)), .g 9 false (.mv 10 (.tmp 1)), .g 9 false (.cl (some 11) 45 [.tmp 10, .const (.int .i64 1), .const (.int .i64 20)] [3, 3, 3]), .g 9 false (.un 12 .not 4 (.tmp 11)), .p (.pk 13 (.tmp 9) (.const (.bool true)) (.tmp 12))])
   (.cond (.tmp 13)
    (.sq [4] (.reg [.p (.bd 14 38 []), .p (.st 38 (.tmp 4) (.tmp 14))])
     (.ret))
    (.skip)))
  (.sq [1, 2, 4, 5] (.reg [.p (.ld 15 30 (.tmp 2)), .p (.cm (some 16) 46 [false] [.tmp 15] [30]), .p (.bd 17 38 [(0, .tmp 16)]), .p (.al 5 38), .p (.st 38 (.tmp 5) (.tmp 17))])
   (.sq [1, 4, 5] (.sq [1, 4, 5, 20] (.reg [.p (.fa 18 30 (.tmp 2) 2), .p (.ld 19 3 (.tmp 18)), .p (.bn 20 .eql 3 (.tmp 19) (.const (.int .i64 1000000)) 3)])
     (.cond (.tmp 20)
      (.sq [4] (.reg [.p (.ld 21 38 (.tmp 5)), .p (.st 38 (.tmp 4) (.tmp 21))])
       (.ret))
      (.skip)))
    (.sq [1, 4, 5] (.reg [.p (.fa 22 38 (.tmp 5) 0), .p (.fa 23 30 (.tmp 22) 2), .p (.ld 24 3 (.tmp 23)), .p (.bn 25 .add 3 (.tmp 24) (.const (.int .i64 1)) 3), .p (.fa 26 38 (.tmp 5) 0), .p (.fa 27 30 (.tmp 26) 2), .p (.st 3 (.tmp 27) (.tmp 25))])
     (.sq [1, 4, 5] (.reg [.p (.fa 28 38 (.tmp 5) 0), .p (.fa 29 30 (.tmp 28) 3), .p (.st 3 (.tmp 29) (.const (.int .i64 1)))])
      (.sq [1, 4, 5] (.reg [.p (.bd 30 27 []), .p (.fa 31 38 (.tmp 5) 0), .p (.fa 32 30 (.tmp 31) 4), .p (.st 27 (.tmp 32) (.tmp 30))])
       (.sq [1, 4, 5] (.reg [.p (.fa 33 38 (.tmp 5) 0), .p (.fa 34 30 (.tmp 33) 5), .p (.st 28 (.tmp 34) (.const (.slice none 0 0)))])
        (.sq [4, 5] (.reg [.p (.mv 35 (.tmp 1)), .p (.fa 36 38 (.tmp 5) 0), .p (.fa 37 30 (.tmp 36) 2), .p (.ld 38 3 (.tmp 37)), .p (.bd 39 45 [(0, .const (.int .i64 1)), (1, .tmp 38)]), .p (.cl (some 40) 47 [.tmp 35, .const (.int .i64 0), .tmp 39] [3, 3, 45]), .p (.bs 41 34 1 [(0, .tmp 40)]), .p (.fa 42 38 (.tmp 5) 1), .p (.st 34 (.tmp 42) (.tmp 41))])
         (.sq [4] (.reg [.p (.ld 43 38 (.tmp 5)), .p (.st 38 (.tmp 4) (.tmp 43))])
          (.ret))))))))))
theorem b10 : BodyOK Try.prog 10 c10 44 [.cell 4 38] := ⟨Try.f10, by kernel_rfl, by kernel_rfl, by kernel_rfl, by kernel_rfl, by kernel_rfl⟩

theorem copLN : CallR Try.prog 52 [.nilS] (.blk 0 0 [] 3 0 0) [([], ⟨3, [], 2, false⟩)] :=
  (c52_c [] (by simp)).arg fun rd vs h => by
    obtain ⟨v, us, rfl, hr, hp⟩ := h.uncons
    have : us = [] := List.eq_nil_of_length_eq_zero hp.1.symm
    subst this
    exact PW.cons (hr.wk (.inr ⟨rfl, 3, rfl⟩)) PW.nil
theorem mHead_small (c : MCl) (me : Int) (p : MPt) (hm : c.many ≤ 100) : (mHead c me p).letters.length * 32 ≤ 140737488355328 := by
  unfold mHead
  split
  · simp [MTold.base]
  · split
    · simp
    · simp; omega
theorem mAck_small (c : MCl) (w : Int) : (mAck c w).letters.length * 32 ≤ 140737488355328 := by
  unfold mAck
  split <;> simp
theorem c11_c (c : MCl) (me : Int) (l : MLet) (hl : c.acks.length ≤ maxLen) : CallM Try.prog 11 [] [c.ro, vI me, .agg l.cs] (mHear c me l).avQ (mHear c me l).outQ := by
  refine callM_of_jv b11 rfl ?_
  unfold mHear
  cases hok : hearOk c me l with
  | false =>
    rw [if_neg (by simp)]
    simp -implicitDefEqProofs only [go_sem]
    repeat' first | (refine Want.intro (by first | exact c44_c c hl | exact c48_c l) ?_; try simp -implicitDefEqProofs only [go_sem, condJ_true, condJ_false]) | (refine WantM.intro (by first | exact c44_c c hl | exact c48_c l) ?_; try simp -implicitDefEqProofs only [go_sem, condJ_true, condJ_false]) | (refine guardP_intro (fun h => ?_) (fun h => ?_) <;> try simp -implicitDefEqProofs only [go_sem, condJ_true, condJ_false, h]) | (refine condJ_intro (fun h => ?_) (fun h => ?_) <;> try simp -implicitDefEqProofs only [go_sem, condJ_true, condJ_false, h])
    all_goals first
      | exact ⟨rfl, rfl⟩
      | (exfalso; simp_all [hearOk, mIn]; done)
      | (exfalso; simp_all [hearOk, mIn]; omega)
      | trace_state
  | true =>
    rw [if_pos rfl]
    simp only [hearOk, Bool.and_eq_true] at hok
    obtain ⟨o1, o2, o3⟩ := hok
    obtain ⟨hmn, hac⟩ := clOk_many o1
    have o2' := mIn_iff.1 o2
    have m1 : ¬ (me < 1) := by omega
    have m2 : ¬ (me > 20) := by omega
    have hsz : l.text.size ≤ 600 := by
      simp only [mLetOk, Bool.and_eq_true, decide_eq_true_eq] at o3
      omega
    have hI := c49_c l.text (by omega)
    generalize mWireRead l.text = W at *
    obtain ⟨m, code, a⟩ := W
    have hH := mHead_small c me ⟨m.size, m.root⟩ hmn
    have hA := mAck_small c l.from_
    simp -implicitDefEqProofs only [go_sem]
    refine Want.intro (c44_c c hl) ?_
    simp -implicitDefEqProofs only [go_sem, o1, guardP_ff, condJ_false]
    refine Want.intro (c48_c l) ?_
    simp -implicitDefEqProofs only [go_sem, o3, m1, m2, guardP_ff, condJ_false]
    refine WantM.intro (c46_c c hac) ?_
    simp -implicitDefEqProofs only [go_sem]
    refine WantM.intro hI ?_
    cases k0 : (code == 0) <;> cases ks : (m.session == c.session)
    all_goals have k1 : (code != 0) = !(code == 0) := rfl
    all_goals have k2 : (m.session != c.session) = !(m.session == c.session) := rfl
    all_goals simp -implicitDefEqProofs only [go_sem, k1, k2, k0, ks]
    all_goals repeat' first | (refine Want.intro (by first | exact c50_c c me ⟨m.size, m.root⟩ hmn | exact c51_c c l.from_ hac | exact copLN | exact c52_c _ hH | exact c52_c _ hA) ?_; try simp -implicitDefEqProofs only [go_sem, k1, k2, k0, ks, condJ_true, condJ_false, guardP_tt, guardP_ff, guardP_tf, guardP_ft]) | (refine WantM.intro (by first | exact c50_c c me ⟨m.size, m.root⟩ hmn | exact c51_c c l.from_ hac | exact copLN | exact c52_c _ hH | exact c52_c _ hA) ?_; try simp -implicitDefEqProofs only [go_sem, k1, k2, k0, ks, condJ_true, condJ_false, guardP_tt, guardP_ff, guardP_tf, guardP_ft]) | (refine guardP_intro (fun h => ?_) (fun h => ?_) <;> try simp -implicitDefEqProofs only [go_sem, k1, k2, k0, ks, condJ_true, condJ_false, guardP_tt, guardP_ff, guardP_tf, guardP_ft, h]) | (refine condJ_intro (fun h => ?_) (fun h => ?_) <;> try simp -implicitDefEqProofs only [go_sem, k1, k2, k0, ks, condJ_true, condJ_false, guardP_tt, guardP_ff, guardP_tf, guardP_ft, h])
    all_goals clear hI
    all_goals clear hH hA m1 m2 o2' hsz hmn hac k1 k2
    all_goals first
      | (rw [if_neg, if_neg]; exact ⟨rfl, rfl⟩; all_goals first | (simp_all [hearHd]; done) | (simp_all [hearAk, eqP, mIn]; done) | (simp_all [hearAk, eqP, mIn]; intros; omega))
      | (rw [if_pos]; exact ⟨rfl, rfl⟩; all_goals first | (simp_all [hearHd]; done) | (simp_all [hearAk, eqP, mIn]; done) | (simp_all [hearAk, eqP, mIn]; intros; omega))
      | (rw [if_neg, if_pos]; exact ⟨rfl, rfl⟩; all_goals first | (simp_all [hearHd]; done) | (simp_all [hearAk, eqP, mIn]; done) | (simp_all [hearAk, eqP, mIn]; intros; omega))
      | (exfalso; simp_all; done)
      | (exfalso; simp_all; omega)
      | trace_state
def mAsk (s : Int) : MMsg := ⟨1, s, 0, 0, ⟨0, 0, 0, 0⟩, 0, [], []⟩
def mTick (c : MCl) (me : Int) : MTold :=
  if mClOk c && mIn me 1 20 then (if c.session = 1000000 then .base c else ⟨{ c with session := c.session + 1, phase := 1, goal := .zero, acks := [] }, [⟨me, 0, mWireBytes (mAsk (c.session + 1))⟩], [], []⟩) else .zero
theorem c10_c (c : MCl) (me : Int) (hl : c.acks.length ≤ maxLen) : CallM Try.prog 10 [] [c.ro, vI me] (mTick c me).avQ (mTick c me).outQ := by
  refine callM_of_jv b10 rfl ?_
  unfold mTick
  cases hok : mClOk c && mIn me 1 20 with
  | false =>
    rw [if_neg (by simp)]
    simp -implicitDefEqProofs only [go_sem]
    repeat' first | (refine Want.intro (by first | exact c44_c c hl | exact c45_c _ _ _) ?_; try simp -implicitDefEqProofs only [go_sem, condJ_true, condJ_false]) | (refine WantM.intro (by first | exact c44_c c hl | exact c45_c _ _ _) ?_; try simp -implicitDefEqProofs only [go_sem, condJ_true, condJ_false]) | (refine guardP_intro (fun h => ?_) (fun h => ?_) <;> try simp -implicitDefEqProofs only [go_sem, condJ_true, condJ_false, h]) | (refine condJ_intro (fun h => ?_) (fun h => ?_) <;> try simp -implicitDefEqProofs only [go_sem, condJ_true, condJ_false, h])
    all_goals first
      | exact ⟨rfl, rfl⟩
      | (exfalso; simp_all; done)
      | trace_state
  | true =>
    rw [if_pos rfl]
    simp only [Bool.and_eq_true] at hok
    obtain ⟨o1, o2⟩ := hok
    obtain ⟨hmn, hac⟩ := clOk_many o1
    have hs : 0 ≤ c.session ∧ c.session ≤ 1000000 := by
      simp only [mClOk, Bool.and_eq_true] at o1
      exact mIn_iff.1 o1.2.2.2.1
    have w1 : IntKind.i64.wrap (c.session + 1) = c.session + 1 := wrS (by omega)
    simp -implicitDefEqProofs only [go_sem]
    refine Want.intro (c44_c c hl) ?_
    simp -implicitDefEqProofs only [go_sem, o1, guardP_ff, condJ_false]
    refine Want.intro (c45_c _ _ _) ?_
    simp -implicitDefEqProofs only [go_sem, o2, guardP_ff, condJ_false]
    refine WantM.intro (c46_c c hac) ?_
    by_cases hse : c.session = 1000000
    · have k : (c.session == 1000000) = true := by simpa using hse
      rw [if_pos hse]
      simp -implicitDefEqProofs only [go_sem, k, condJ_true]
      first | exact ⟨rfl, rfl⟩ | trace_state
    · have k : (c.session == 1000000) = false := by simpa using hse
      rw [if_neg hse]
      simp -implicitDefEqProofs only [go_sem, k, w1, condJ_false]
      refine Want.intro (c47_c me 0 (mAsk (c.session + 1)) rfl rfl) ?_
      simp -implicitDefEqProofs only [go_sem]
      first | rfl | exact ⟨rfl, rfl⟩ | trace_state
end Go.Proofs.Ytkhemolkhegppaa.E
