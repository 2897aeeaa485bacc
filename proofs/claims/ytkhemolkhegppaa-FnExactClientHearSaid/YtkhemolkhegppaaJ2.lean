/-
  The law of ClientHear.
-/
import Derived.Test.YtkhemolkhegppaaLC
namespace Go.Proofs.Ytkhemolkhegppaa.E
open Go Go.RowKit
set_option maxHeartbeats 4000000
set_option maxRecDepth 10000
set_option linter.unusedSimpArgs false
set_option linter.unusedVariables false
set_option linter.unusedSectionVars false
def dcJ2 : Dec := ⟨[(11, .cn [false, false, false]), (15, .cn [false, false, false]), (32, .cm [false]), (35, .cm [true, false]), (36, .cm [true, false])], [9, 10, 11], [22, 28, 34, 35, 36, 42, 43, 48, 179, 193], true⟩

/-- The rows of what is told, in a slot. -/
def tRowsM (s : Nat) (T M : MTold) : Sig := [(s, 0, one ⟨18, [T.cs (.blk (10000 + s) 0 [] 1 0 T.cl.acks.length) (.blk (20000 + s) 0 [] 3 0 T.letters.length) (.blk (30000 + s) 0 [] 13 0 T.alarms.length) (.blk (40000 + s) 0 [] 5 0 T.acc.length)], 0, false⟩), (10000 + s, 0, one M.cl.ar), (20000 + s, 0, one M.lr), (30000 + s, 0, one M.xr), (40000 + s, 0, one M.pr)]
def tRows (s : Nat) (T : MTold) : Sig := tRowsM s T T
attribute [go_sem] tRows tRowsM
theorem mHear_sm {c : MCl} {me : Int} {l : MLet} : (mHear c me l).sm := by
  unfold mHear
  cases h : hearOk c me l with
  | false => exact ⟨Nat.zero_le _, Nat.zero_le _, Nat.zero_le _, Nat.zero_le _⟩
  | true =>
    rw [if_pos rfl]
    simp only [hearOk, Bool.and_eq_true] at h
    obtain ⟨h1, h2⟩ := clOk_many h.1
    have hb : (MTold.base c).sm := ⟨by show c.acks.length ≤ _; omega, Nat.zero_le _, Nat.zero_le _, Nat.zero_le _⟩
    split
    · unfold mHead
      split
      · exact hb
      · split
        · exact ⟨by show c.acks.length ≤ _; omega, Nat.zero_le _, by show 1 ≤ _; omega, Nat.zero_le _⟩
        · exact ⟨by show c.acks.length ≤ _; omega, by simp; omega, Nat.zero_le _, Nat.zero_le _⟩
    · split
      · have ha := ackGo_len l.from_ c.acks false
        unfold mAck
        split
        · exact ⟨by show (mAcks c.acks l.from_).length ≤ _; unfold mAcks; omega, Nat.zero_le _, Nat.zero_le _, Nat.zero_le _⟩
        · exact ⟨Nat.zero_le _, Nat.zero_le _, Nat.zero_le _, by show 1 ≤ _; omega⟩
      · exact hb
theorem c7_c (c : MCl) (me : Int) (l : MLet) (hc : c.acks.length ≤ maxLen) (hl : l.text.size ≤ maxLen) : CallR Try.prog 7 [c.ro, vI me, .agg l.cs] (vB true) [] := by
  refine use_of dcJ2 false Try.f7 ?_
  conv => enter [1]; reduce
  refine jvR Try.f7 87 [.tmp 6] (by kernel_rfl) (by decide +kernel) rfl ?_
  simp -implicitDefEqProofs only [go_sem]
  refine Want.intro (c31_c c 1048576 hc (by omega)) ?_
  simp -implicitDefEqProofs only [go_sem]
  refine condJ_intro (fun h => ?_) (fun h => ?_)
  · simp -implicitDefEqProofs only [go_sem, h]
  · obtain ⟨k1, k2⟩ := szN_bd (of_decide_eq_false h)
    simp -implicitDefEqProofs only [go_sem, h]
    refine Want.intro (c19_c l _ hl (by omega)) ?_
    simp -implicitDefEqProofs only [go_sem]
    refine condJ_intro (fun h => ?_) (fun h => ?_)
    · simp -implicitDefEqProofs only [go_sem, h]
    · simp -implicitDefEqProofs only [go_sem, h]
      have hT := c32_c c (by omega)
      have hL := c22_c l
      have hS := c15_c c me l hc
      have hI := c11_c c me l hc
      have hsm := mHear_sm (me := me) (l := l) (c := c)
      generalize mHear c me l = T at *
      have hE := c33_c T hsm
      have hM := c36_c T 1 hsm (by omega)
      have hH := c37_c T 1 hsm (by omega)
      have hb := (kb hsm (k := 1) (by omega)).p
      have hbN : ¬ ((kP T 1).2 < 0) := by omega
      have hkN : ¬ ((gMark mkInt c.acks.length 1).2 < 0) := by rw [mkInt_num]; omega
      have hEC := c34_c c hc
      have e1 : (mkTold T 1).cl.acks.length = T.cl.acks.length := kA_len T 1
      have e2 : (mkTold T 1).letters.length = T.letters.length := kL_len T 1
      have e3 : (mkTold T 1).alarms.length = T.alarms.length := kX_len T 1
      have e4 : (mkTold T 1).acc.length = T.acc.length := kP_len T 1
      have f1 : List.take T.cl.acks.length (mkTold T 1).cl.acks = (mkTold T 1).cl.acks := List.take_of_length_le (by omega)
      have f2 : List.take T.letters.length (mkTold T 1).letters = (mkTold T 1).letters := List.take_of_length_le (by omega)
      have f3 : List.take T.alarms.length (mkTold T 1).alarms = (mkTold T 1).alarms := List.take_of_length_le (by omega)
      have f4 : List.take T.acc.length (mkTold T 1).acc = (mkTold T 1).acc := List.take_of_length_le (by omega)
      refine ct_intro [1, 3, 5, 8] [] (fun s => s = ⟨87, [(1, vI me), (3, .ptr 3 0 [] 15 0 0), (5, .ptr 5 0 [] 3 0 0), (8, .ptr 8 0 [] 18 0 0)], (3, 0, one ⟨15, [c.cs (.ro 1 (c.acks.map intC))], 0, false⟩) :: (5, 0, one ⟨3, [l.cs], 0, false⟩) :: tRows 8 T, 1⟩) ?_ ?_
      · simp -implicitDefEqProofs only [go_sem]
        repeat' first | (refine Want.intro (by first | exact hT | exact hL | exact hS) ?_; try simp -implicitDefEqProofs only [go_sem]) | (refine WantM.intro (by first | exact hT | exact hL | exact hS) ?_; try simp -implicitDefEqProofs only [go_sem]) | (with_reducible refine And.intro ?_ ?_) | (refine guardP_intro (fun h => ?_) (fun h => ?_) <;> try simp -implicitDefEqProofs only [go_sem, h]) | (refine condJ_intro (fun h => ?_) (fun h => ?_) <;> try simp -implicitDefEqProofs only [go_sem, h])
        all_goals rfl
      · rintro s rfl
        simp -implicitDefEqProofs only [go_sem]
        refine WantM.intro hT ?_
        simp -implicitDefEqProofs only [go_sem]
        refine ct_intro [1, 3, 5, 8, 9, 10] [] (fun s => s = ⟨87, [(1, vI me), (3, .ptr 3 0 [] 15 0 0), (5, .ptr 5 0 [] 3 0 0), (8, .ptr 8 0 [] 18 0 0), (9, .ptr 9 0 [] 15 0 0), (10, .ptr 10 0 [] 18 0 0)], (3, 0, one ⟨15, [c.cs (.ro 1 (c.acks.map intC))], 0, false⟩) :: (5, 0, one ⟨3, [l.cs], 0, false⟩) :: (tRows 8 T ++ ((9, 0, one ⟨15, [c.cs (.blk 10009 0 [] 1 0 c.acks.length)], 0, false⟩) :: (10009, 0, one c.ar) :: tRows 10 T)), 1⟩) ?_ ?_
        · simp -implicitDefEqProofs only [go_sem]
          repeat' first | (refine Want.intro (by first | exact hT | exact hL | exact hI) ?_; try simp -implicitDefEqProofs only [go_sem]) | (refine WantM.intro (by first | exact hT | exact hL | exact hI) ?_; try simp -implicitDefEqProofs only [go_sem]) | (with_reducible refine And.intro ?_ ?_) | (refine guardP_intro (fun h => ?_) (fun h => ?_) <;> try simp -implicitDefEqProofs only [go_sem, h]) | (refine condJ_intro (fun h => ?_) (fun h => ?_) <;> try simp -implicitDefEqProofs only [go_sem, h])
          all_goals rfl
        · rintro s rfl
          simp -implicitDefEqProofs only [go_sem]
          refine Want.intro hE ?_
          simp -implicitDefEqProofs only [go_sem]
          refine WantM.intro hT ?_
          simp -implicitDefEqProofs only [go_sem]
          refine Want.intro hEC ?_
          simp -implicitDefEqProofs only [go_sem]
          refine WantM.intro (c35_c c 1 (by omega) (by omega)) ?_
          simp -implicitDefEqProofs only [go_sem, hkN, guardP_ff]
          refine Want.intro hE ?_
          simp -implicitDefEqProofs only [go_sem]
          refine WantM.intro hM ?_
          simp -implicitDefEqProofs only [go_sem, e1, e2, e3, e4, f1, f2, f3, f4]
          refine Want.intro hH ?_
          simp -implicitDefEqProofs only [go_sem, hbN, bne_self_eq_false]
          refine ct_intro [8, 10, 12, 14] [] (fun s => s = ⟨87, [(8, .ptr 8 0 [] 18 0 0), (10, .ptr 10 0 [] 18 0 0), (12, vI (kP T 1).2), (14, .ptr 14 0 [] 18 0 0)], tRows 8 T ++ (tRowsM 10 T (mkTold T 1) ++ tRows 14 T), 1⟩) ?_ ?_
          · simp -implicitDefEqProofs only [go_sem]
            repeat' first | (refine Want.intro (by first | exact hT | exact hL | exact hI) ?_; try simp -implicitDefEqProofs only [go_sem]) | (refine WantM.intro (by first | exact hT | exact hL | exact hI) ?_; try simp -implicitDefEqProofs only [go_sem]) | (with_reducible refine And.intro ?_ ?_) | (refine guardP_intro (fun h => ?_) (fun h => ?_) <;> try simp -implicitDefEqProofs only [go_sem, h]) | (refine condJ_intro (fun h => ?_) (fun h => ?_) <;> try simp -implicitDefEqProofs only [go_sem, h])
            all_goals rfl
          · rintro s rfl
            simp -implicitDefEqProofs only [go_sem]
            refine Want.intro hE ?_
            simp -implicitDefEqProofs only [go_sem, e1, e2, e3, e4, f1, f2, f3, f4]
            refine Want.intro hH ?_
            simp -implicitDefEqProofs only [go_sem, hbN, bne_self_eq_false]
end Go.Proofs.Ytkhemolkhegppaa.E
