/-
  The law of MonitorHear.
-/
import Derived.Test.YtjlhdfciklnndaaGreatJ9
namespace Go.Proofs.YtjlhdfciklnndaaGreat.E
open Go Go.RowKit
set_option maxHeartbeats 4000000
set_option maxRecDepth 10000
set_option linter.unusedSimpArgs false
set_option linter.unusedVariables false
set_option linter.unusedSectionVars false
def dcJ10 : Dec := ⟨[(12, .cn [false, false, false]), (13, .cm [false]), (15, .cn [false, false, false]), (18, .cm [true, false]), (19, .cm [true, false])], [9, 10, 11], [27, 30, 44, 45, 46, 58, 68, 78, 79, 86, 101, 112, 113, 132, 174, 196, 247, 249, 351, 356], true⟩

/-- The rows of what is seen, in a slot. -/
def wRowsM (s : Nat) (T M : MWat) : Sig := [(s, 0, one ⟨25, [T.cs (.blk (10000 + s) 0 [] 1 0 T.mon.cl.acks.length) (.blk (20000 + s) 0 [] 1 0 T.mon.leaves.length) (.blk (30000 + s) 0 [] 3 0 T.letters.length) (.blk (40000 + s) 0 [] 13 0 T.alarms.length) (.blk (50000 + s) 0 [] 5 0 T.acc.length) (.blk (60000 + s) 0 [] 5 0 T.cov.length)], 0, false⟩), (10000 + s, 0, one M.mon.cl.ar), (20000 + s, 0, one M.mon.lr), (30000 + s, 0, one ⟨3, M.letters.map MLet.cs, 2, false⟩), (40000 + s, 0, one ⟨13, M.alarms.map MAl.cs, 2, false⟩), (50000 + s, 0, one ⟨5, M.acc.map MPt.cs, 2, false⟩), (60000 + s, 0, one ⟨5, M.cov.map MPt.cs, 2, false⟩)]
def wRows (s : Nat) (T : MWat) : Sig := wRowsM s T T
attribute [go_sem] wRows wRowsM
theorem c3_c (m : MMon) (me : Int) (l : MLet) (hc : m.cl.acks.length ≤ maxLen) (hs : m.leaves.length ≤ maxLen) (hb : ∀ b ∈ m.leaves, b.size ≤ maxLen) (hl : l.text.size ≤ maxLen) : CallR Tryz.prog 3 [m.ro, vI me, .agg l.cs] (vB true) [] := by
  refine use_of dcJ10 false Tryz.f3 ?_
  conv => enter [1]; reduce
  refine jvR Tryz.f3 87 [.tmp 6] (by kernel_rfl) (by decide +kernel) rfl ?_
  simp -implicitDefEqProofs only [go_sem]
  refine Want.intro (c10_c m 1048576 hc hs hb (by omega)) ?_
  simp -implicitDefEqProofs only [go_sem]
  refine condJ_intro (fun h => ?_) (fun h => ?_)
  · simp -implicitDefEqProofs only [go_sem, h]
  · have k0 : (m.cl.acks.length : Int) ≤ 1048576 ∧ (m.leaves.length : Int) ≤ 1048576 ∧ (0 ≤ szM m 1048576 ∧ szM m 1048576 ≤ 1048576) := by
      have h' := of_decide_eq_false h
      have h1 : ¬ szN 1048576 m.cl.acks.length < 0 := fun e => by unfold szM at h'; rw [if_pos e] at h'; omega
      obtain ⟨b1, b2⟩ := szN_bd h1
      have h2 := h'
      unfold szM at h2
      rw [if_neg h1] at h2
      have h3 := szS_bd (l := m.leaves) (left := szN 1048576 m.cl.acks.length) (by omega)
      have h4 : szM m 1048576 = szS m.leaves (szN 1048576 m.cl.acks.length) := by unfold szM; rw [if_neg h1]
      have h5 : ¬ szN 1048576 m.cl.acks.length - m.leaves.length < 0 := fun e => by unfold szS at h2; rw [if_pos e] at h2; omega
      omega
    simp -implicitDefEqProofs only [go_sem, h]
    refine Want.intro (c11_c l _ hl (by omega)) ?_
    simp -implicitDefEqProofs only [go_sem]
    refine condJ_intro (fun h => ?_) (fun h => ?_)
    · simp -implicitDefEqProofs only [go_sem, h]
    · simp -implicitDefEqProofs only [go_sem, h]
      have hT := c13_c m (by omega) (by omega)
      have hL := c14_c l
      have hS := c12_c m me l hc hs
      have hI := c15_c m me l hc hs
      have hsm := mMHear_sm (me := me) (l := l) (m := m)
      generalize mMHear m me l = T at *
      have hE := c16_c T hsm
      have hM := c19_c T 1 hsm (by omega)
      have hH := c20_c T 1 hsm (by omega)
      have hbN : ¬ ((wQ T 1).2 < 0) := by have := (wb hsm (k := 1) (by omega)).q; omega
      have hkN : ¬ ((kS m 1).2 < 0) := by rw [kS_num, kI_num]; omega
      have hEC := c17_c m hc hs
      have e1 : (mkWat T 1).mon.cl.acks.length = T.mon.cl.acks.length := kI_len T.mon 1
      have e2 : (mkWat T 1).mon.leaves.length = T.mon.leaves.length := kS_len T.mon 1
      have e3 : (mkWat T 1).letters.length = T.letters.length := gMark_len
      have e4 : (mkWat T 1).alarms.length = T.alarms.length := gMark_len
      have e5 : (mkWat T 1).acc.length = T.acc.length := gMark_len
      have e6 : (mkWat T 1).cov.length = T.cov.length := gMark_len
      have f1 : List.take T.mon.cl.acks.length (mkWat T 1).mon.cl.acks = (mkWat T 1).mon.cl.acks := List.take_of_length_le (by omega)
      have f2 : List.take T.mon.leaves.length (mkWat T 1).mon.leaves = (mkWat T 1).mon.leaves := List.take_of_length_le (by omega)
      have f3 : List.take T.letters.length (mkWat T 1).letters = (mkWat T 1).letters := List.take_of_length_le (by omega)
      have f4 : List.take T.alarms.length (mkWat T 1).alarms = (mkWat T 1).alarms := List.take_of_length_le (by omega)
      have f5 : List.take T.acc.length (mkWat T 1).acc = (mkWat T 1).acc := List.take_of_length_le (by omega)
      have f6 : List.take T.cov.length (mkWat T 1).cov = (mkWat T 1).cov := List.take_of_length_le (by omega)
      refine ct_intro [1, 3, 5, 8] [] (fun s => s = ⟨87, [(1, vI me), (3, .ptr 3 0 [] 21 0 0), (5, .ptr 5 0 [] 3 0 0), (8, .ptr 8 0 [] 25 0 0)], (3, 0, one ⟨21, [m.cs (.ro 1 (m.cl.acks.map intC)) (.ro 1 (m.leaves.map leafCs))], 0, false⟩) :: (5, 0, one ⟨3, [l.cs], 0, false⟩) :: wRows 8 T, 1⟩) ?_ ?_
      · simp -implicitDefEqProofs only [go_sem]
        repeat' first | (refine Want.intro (by first | exact hT | exact hL | exact hS) ?_; try simp -implicitDefEqProofs only [go_sem]) | (refine WantM.intro (by first | exact hT | exact hL | exact hS) ?_; try simp -implicitDefEqProofs only [go_sem]) | (with_reducible refine And.intro ?_ ?_) | (refine guardP_intro (fun h => ?_) (fun h => ?_) <;> try simp -implicitDefEqProofs only [go_sem, h]) | (refine condJ_intro (fun h => ?_) (fun h => ?_) <;> try simp -implicitDefEqProofs only [go_sem, h])
        all_goals rfl
      · rintro s rfl
        simp -implicitDefEqProofs only [go_sem]
        refine WantM.intro hT ?_
        simp -implicitDefEqProofs only [go_sem]
        refine ct_intro [1, 3, 5, 8, 9, 10] [] (fun s => s = ⟨87, [(1, vI me), (3, .ptr 3 0 [] 21 0 0), (5, .ptr 5 0 [] 3 0 0), (8, .ptr 8 0 [] 25 0 0), (9, .ptr 9 0 [] 21 0 0), (10, .ptr 10 0 [] 25 0 0)], (3, 0, one ⟨21, [m.cs (.ro 1 (m.cl.acks.map intC)) (.ro 1 (m.leaves.map leafCs))], 0, false⟩) :: (5, 0, one ⟨3, [l.cs], 0, false⟩) :: (wRows 8 T ++ ((9, 0, one ⟨21, [m.cs (.blk 10009 0 [] 1 0 m.cl.acks.length) (.blk 20009 0 [] 1 0 m.leaves.length)], 0, false⟩) :: (10009, 0, one m.cl.ar) :: (20009, 0, one m.lr) :: wRows 10 T)), 1⟩) ?_ ?_
        · simp -implicitDefEqProofs only [go_sem]
          repeat' first | (refine Want.intro (by first | exact hT | exact hL | exact hI) ?_; try simp -implicitDefEqProofs only [go_sem]) | (refine WantM.intro (by first | exact hT | exact hL | exact hI) ?_; try simp -implicitDefEqProofs only [go_sem]) | (with_reducible refine And.intro ?_ ?_) | (refine guardP_intro (fun h => ?_) (fun h => ?_) <;> try simp -implicitDefEqProofs only [go_sem, h]) | (refine condJ_intro (fun h => ?_) (fun h => ?_) <;> try simp -implicitDefEqProofs only [go_sem, h])
          all_goals rfl
        · rintro s rfl
          simp -implicitDefEqProofs only [go_sem]
          refine Want.intro hE ?_
          simp -implicitDefEqProofs only [go_sem]
          refine WantM.intro hT ?_
          simp -implicitDefEqProofs only [go_sem]
          refine Want.intro hEC ?_
          simp -implicitDefEqProofs only [go_sem]
          refine WantM.intro (c18_c m 1 (by omega) (by omega) (by omega)) ?_
          simp -implicitDefEqProofs only [go_sem, hkN, guardP_ff]
          refine Want.intro hE ?_
          simp -implicitDefEqProofs only [go_sem]
          refine WantM.intro hM ?_
          simp -implicitDefEqProofs only [go_sem, e1, e2, e3, e4, e5, e6, f1, f2, f3, f4, f5, f6]
          refine Want.intro hH ?_
          simp -implicitDefEqProofs only [go_sem, hbN, bne_self_eq_false]
          refine ct_intro [8, 10, 12, 14] [] (fun s => s = ⟨87, [(8, .ptr 8 0 [] 25 0 0), (10, .ptr 10 0 [] 25 0 0), (12, vI (wQ T 1).2), (14, .ptr 14 0 [] 25 0 0)], wRows 8 T ++ (wRowsM 10 T (mkWat T 1) ++ wRows 14 T), 1⟩) ?_ ?_
          · simp -implicitDefEqProofs only [go_sem]
            repeat' first | (refine Want.intro (by first | exact hT | exact hL | exact hI) ?_; try simp -implicitDefEqProofs only [go_sem]) | (refine WantM.intro (by first | exact hT | exact hL | exact hI) ?_; try simp -implicitDefEqProofs only [go_sem]) | (with_reducible refine And.intro ?_ ?_) | (refine guardP_intro (fun h => ?_) (fun h => ?_) <;> try simp -implicitDefEqProofs only [go_sem, h]) | (refine condJ_intro (fun h => ?_) (fun h => ?_) <;> try simp -implicitDefEqProofs only [go_sem, h])
            all_goals rfl
          · rintro s rfl
            simp -implicitDefEqProofs only [go_sem]
            refine Want.intro hE ?_
            simp -implicitDefEqProofs only [go_sem, e1, e2, e3, e4, e5, e6, f1, f2, f3, f4, f5, f6]
            refine Want.intro hH ?_
            simp -implicitDefEqProofs only [go_sem, hbN, bne_self_eq_false]
end Go.Proofs.YtjlhdfciklnndaaGreat.E
