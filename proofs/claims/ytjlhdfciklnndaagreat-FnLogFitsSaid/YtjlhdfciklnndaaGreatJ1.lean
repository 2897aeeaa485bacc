/-
  Contracts: monitors that are ok; their copies.
-/
import Derived.Test.YtjlhdfciklnndaaGreatH3
import Derived.Test.YtjlhdfciklnndaaGreatF7
namespace Go.Proofs.YtjlhdfciklnndaaGreat.E
open Go Go.RowKit
set_option maxHeartbeats 4000000
set_option maxRecDepth 10000
set_option linter.unusedSimpArgs false
set_option linter.unusedVariables false
set_option linter.unusedSectionVars false
def dcJ1 : Dec := ⟨[(183, .cm [false]), (189, .cm [false])], [9, 10, 11], [27, 30, 44, 45, 46, 58, 68, 78, 79, 86, 101, 112, 113, 132, 174, 196, 247, 249, 351, 356], false⟩

structure MMon where
  cl : MCl
  leaves : List ByteArray
  done : MPt
def MMon.cs (m : MMon) (a l : AV) : List AV := m.cl.cs a ++ (l :: m.done.cs)
def MMon.ro (m : MMon) : AV := .agg (m.cs (.ro 1 (m.cl.acks.map intC)) (.ro 1 (m.leaves.map leafCs)))
attribute [go_sem] MMon.cs MMon.ro
def eqDg (a b : MDig) : Bool := ((a.a : Int) == b.a) && (((a.b : Int) == b.b) && (((a.c : Int) == b.c) && ((a.d : Int) == b.d)))
def mMonOk (m : MMon) : Bool :=
  mClOk m.cl && (mLeavesOk m.leaves && (decide ((m.leaves.length : Int) ≤ m.cl.pin.size) && (if eqPt m.done .zero then decide ((m.leaves.length : Int) < m.cl.pin.size) || m.cl.pin.size == 0
    else mIn m.done.size 1 m.leaves.length && (eqDg (mRoot (m.leaves.take m.done.size.toNat)).dig m.done.root && (decide ((m.leaves.length : Int) < m.cl.pin.size) || eqPt m.done m.cl.pin)))))
theorem mLeavesOk_take {l : List ByteArray} (h : mLeavesOk l = true) (n : Nat) : mLeavesOk (l.take n) = true := by
  obtain ⟨h1, h2⟩ := mLeavesOk_of h
  simp only [mLeavesOk, Bool.and_eq_true, decide_eq_true_eq, leavesOk, List.all_eq_true, List.length_take]
  exact ⟨by omega, fun b hb => h2 b (List.mem_of_mem_take hb)⟩
theorem eqDg_comm (a b : MDig) : eqDg a b = eqDg b a := by
  unfold eqDg
  rw [BEq.comm (a := (a.a : Int)), BEq.comm (a := (a.b : Int)), BEq.comm (a := (a.c : Int)), BEq.comm (a := (a.d : Int))]
theorem c74_c (m : MMon) (h1 : m.cl.acks.length ≤ maxLen) (h2 : m.leaves.length ≤ maxLen) : CallR Tryz.prog 74 [m.ro] (vB (mMonOk m)) [] := by
  refine use_of dcJ1 false Tryz.f74 ?_
  conv => enter [1]; reduce
  refine jvR Tryz.f74 70 [.tmp 2] (by kernel_rfl) (by decide +kernel) rfl ?_
  unfold mMonOk
  simp -implicitDefEqProofs only [go_sem]
  refine Want.intro (c185_c m.cl h1) ?_
  cases a1 : mClOk m.cl with
  | false => simp -implicitDefEqProofs only [go_sem, Bool.not_false, guardP_tf, guardP_ff, guardP_ft, guardP_tt, condJ_true, condJ_false]
  | true =>
    simp -implicitDefEqProofs only [go_sem, Bool.not_true, guardP_tf, guardP_ff, guardP_ft, guardP_tt, condJ_true, condJ_false]
    refine Want.intro (c186_c m.leaves h2) ?_
    cases a2 : mLeavesOk m.leaves with
    | false => simp -implicitDefEqProofs only [go_sem, Bool.not_false, guardP_tf, guardP_ff, guardP_ft, guardP_tt, condJ_true, condJ_false]
    | true =>
      by_cases a3 : (m.leaves.length : Int) ≤ m.cl.pin.size
      · have a3' : ¬ ((m.leaves.length : Int) > m.cl.pin.size) := by omega
        cases a4 : eqPt m.done .zero with
        | true =>
          have a4' : (m.done.size == 0 && (((m.done.root.a : Int) == 0) && (((m.done.root.b : Int) == 0) && (((m.done.root.c : Int) == 0) && ((m.done.root.d : Int) == 0))))) = true := a4
          simp -implicitDefEqProofs only [go_sem, Bool.not_true, guardP_tf, guardP_ff, guardP_ft, guardP_tt, condJ_true, condJ_false, a3, a3', a4']
          cases a6 : decide ((m.leaves.length : Int) < m.cl.pin.size) <;> simp -implicitDefEqProofs only [go_sem, a6, Bool.not_true, guardP_tf, guardP_ff, guardP_ft, guardP_tt, condJ_true, condJ_false, Bool.true_or, Bool.false_or]
        | false =>
          have a4' : (m.done.size == 0 && (((m.done.root.a : Int) == 0) && (((m.done.root.b : Int) == 0) && (((m.done.root.c : Int) == 0) && ((m.done.root.d : Int) == 0))))) = false := a4
          simp -implicitDefEqProofs only [go_sem, Bool.not_true, guardP_tf, guardP_ff, guardP_ft, guardP_tt, condJ_true, condJ_false, a3, a3', a4']
          refine Want.intro (c108_c _ _ _) ?_
          cases a5 : mIn m.done.size 1 m.leaves.length with
          | false => simp -implicitDefEqProofs only [go_sem, Bool.not_true, Bool.not_false, guardP_tf, guardP_ff, guardP_ft, guardP_tt, condJ_true, condJ_false]
          | true =>
            have k5 := mIn_iff.1 a5
            have k6 : (0 : Int) ≤ m.done.size ∧ m.done.size ≤ (m.leaves.length : Int) := by omega
            simp -implicitDefEqProofs only [go_sem, Bool.not_true, Bool.not_false, guardP_tf, guardP_ff, guardP_ft, guardP_tt, condJ_true, condJ_false, k6, Nat.sub_zero, List.drop_zero, Int.toNat_zero]
            refine Want.intro (c187_c (m.leaves.take m.done.size.toNat) (mLeavesOk_take a2 _)) ?_
            generalize mRoot (m.leaves.take m.done.size.toNat) = R
            cases a7 : eqDg R.dig m.done.root <;> cases a6 : decide ((m.leaves.length : Int) < m.cl.pin.size) <;> cases a9 : eqPt m.done m.cl.pin
            all_goals
              have a8 := a7
              rw [eqDg_comm] at a8
              unfold eqDg BD.dig at a7 a8
              unfold eqPt at a9
              simp -implicitDefEqProofs only [go_sem, a7, a8, a6, a9, Bool.not_true, Bool.not_false, guardP_tf, guardP_ff, guardP_ft, guardP_tt, condJ_true, condJ_false, Bool.true_or, Bool.false_or, Bool.true_and, Bool.and_true, Bool.and_self]
      · have a3' : ((m.leaves.length : Int) > m.cl.pin.size) := by omega
        simp -implicitDefEqProofs only [go_sem, Bool.not_true, guardP_tf, guardP_ff, guardP_ft, guardP_tt, condJ_true, condJ_false, a3, a3']
theorem c67_c (m : MMon) (h1 : m.cl.acks.length ≤ maxLen) (h2 : m.leaves.length ≤ maxLen) : CallR Tryz.prog 67 [m.ro] (vB (mMonOk m)) [] := by
  refine use_of dcJ1 false Tryz.f67 ?_
  conv => enter [1]; reduce
  refine jvR Tryz.f67 79 [.tmp 2] (by kernel_rfl) (by decide +kernel) rfl ?_
  unfold mMonOk
  simp -implicitDefEqProofs only [go_sem]
  refine Want.intro (c178_c m.cl h1) ?_
  cases a1 : mClOk m.cl with
  | false => simp -implicitDefEqProofs only [go_sem, Bool.not_false, guardP_tf, guardP_ff, guardP_ft, guardP_tt, condJ_true, condJ_false]
  | true =>
    simp -implicitDefEqProofs only [go_sem, Bool.not_true, guardP_tf, guardP_ff, guardP_ft, guardP_tt, condJ_true, condJ_false]
    refine Want.intro (c41_c m.leaves h2) ?_
    cases a2 : mLeavesOk m.leaves with
    | false => simp -implicitDefEqProofs only [go_sem, Bool.not_false, guardP_tf, guardP_ff, guardP_ft, guardP_tt, condJ_true, condJ_false]
    | true =>
      by_cases a3 : (m.leaves.length : Int) ≤ m.cl.pin.size
      · have a3' : ¬ ((m.leaves.length : Int) > m.cl.pin.size) := by omega
        cases a4 : eqPt m.done .zero with
        | true =>
          have a4' : (m.done.size == 0 && (((m.done.root.a : Int) == 0) && (((m.done.root.b : Int) == 0) && (((m.done.root.c : Int) == 0) && ((m.done.root.d : Int) == 0))))) = true := a4
          simp -implicitDefEqProofs only [go_sem, Bool.not_true, guardP_tf, guardP_ff, guardP_ft, guardP_tt, condJ_true, condJ_false, a3, a3', a4']
          cases a6 : decide ((m.leaves.length : Int) < m.cl.pin.size) <;> simp -implicitDefEqProofs only [go_sem, a6, Bool.not_true, guardP_tf, guardP_ff, guardP_ft, guardP_tt, condJ_true, condJ_false, Bool.true_or, Bool.false_or]
        | false =>
          have a4' : (m.done.size == 0 && (((m.done.root.a : Int) == 0) && (((m.done.root.b : Int) == 0) && (((m.done.root.c : Int) == 0) && ((m.done.root.d : Int) == 0))))) = false := a4
          simp -implicitDefEqProofs only [go_sem, Bool.not_true, guardP_tf, guardP_ff, guardP_ft, guardP_tt, condJ_true, condJ_false, a3, a3', a4']
          refine Want.intro (c143_c _ _ _) ?_
          cases a5 : mIn m.done.size 1 m.leaves.length with
          | false => simp -implicitDefEqProofs only [go_sem, Bool.not_true, Bool.not_false, guardP_tf, guardP_ff, guardP_ft, guardP_tt, condJ_true, condJ_false]
          | true =>
            have k5 := mIn_iff.1 a5
            have k6 : (0 : Int) ≤ m.done.size ∧ m.done.size ≤ (m.leaves.length : Int) := by omega
            simp -implicitDefEqProofs only [go_sem, Bool.not_true, Bool.not_false, guardP_tf, guardP_ff, guardP_ft, guardP_tt, condJ_true, condJ_false, k6, Nat.sub_zero, List.drop_zero, Int.toNat_zero]
            refine Want.intro (c126_c (m.leaves.take m.done.size.toNat) (mLeavesOk_take a2 _)) ?_
            generalize mRoot (m.leaves.take m.done.size.toNat) = R
            cases a7 : eqDg R.dig m.done.root <;> cases a6 : decide ((m.leaves.length : Int) < m.cl.pin.size) <;> cases a9 : eqPt m.done m.cl.pin
            all_goals
              have a8 := a7
              rw [eqDg_comm] at a8
              unfold eqDg BD.dig at a7 a8
              unfold eqPt at a9
              simp -implicitDefEqProofs only [go_sem, a7, a8, a6, a9, Bool.not_true, Bool.not_false, guardP_tf, guardP_ff, guardP_ft, guardP_tt, condJ_true, condJ_false, Bool.true_or, Bool.false_or, Bool.true_and, Bool.and_true, Bool.and_self]
      · have a3' : ((m.leaves.length : Int) > m.cl.pin.size) := by omega
        simp -implicitDefEqProofs only [go_sem, Bool.not_true, guardP_tf, guardP_ff, guardP_ft, guardP_tt, condJ_true, condJ_false, a3, a3']
end Go.Proofs.YtjlhdfciklnndaaGreat.E
