/-
  Contracts: a monitor hears a range.
-/
import Derived.Test.YtjlhdfciklnndaaGreatJ3
namespace Go.Proofs.YtjlhdfciklnndaaGreat.E
open Go Go.RowKit
set_option maxHeartbeats 4000000
set_option maxRecDepth 10000
set_option linter.unusedSimpArgs false
set_option linter.unusedVariables false
set_option linter.unusedSectionVars false
def dcJ4 : Dec := ⟨[(188, .cn [false])], [9, 10, 11], [27, 30, 44, 45, 46, 58, 68, 78, 79, 86, 101, 112, 113, 132, 174, 196, 247, 249, 351, 356], false⟩

theorem rAll_min (m : MMon) (x : List ByteArray) (h : 0 ≤ m.cl.pin.size - m.leaves.length) : m.leaves ++ x.take (min (m.cl.pin.size - m.leaves.length) x.length).toNat = rAll m x := by
  unfold rAll
  rcases Int.le_total (m.cl.pin.size - m.leaves.length) x.length with h1 | h1
  · rw [Int.min_eq_left h1]
  · rw [Int.min_eq_right h1, List.take_of_length_le (by simp), List.take_of_length_le (by omega)]
theorem c75_c (m : MMon) (x : MMsg) (h : MRok m) (hx : leavesOk x.leaves = true) (hxl : x.leaves.length ≤ 1000) : CallM Tryz.prog 75 [] [m.ro, x.ro] (mRange m x).av (mRange m x).out := by
  refine use_of dcJ4 false Tryz.f75 ?_
  conv => enter [1]; reduce
  refine jvM Tryz.f75 90 [.cell 4 48] (by kernel_rfl) (by decide +kernel) rfl ?_
  have hp := h.p
  have hd := h.d
  obtain ⟨hl1, hl2⟩ := mLeavesOk_of h.l
  have hA := rAll_ok h hx
  have hAl := rAll_len m x.leaves
  have hmc := c188_c m h.a (by omega)
  have hcp := c113_c m.leaves (by omega)
  have hca := c113_c (rAll m x.leaves) (by omega)
  have hro := c187_c (rAll m x.leaves) hA
  have w1 : IntKind.i64.wrap (m.cl.pin.size - (m.leaves.length : Int)) = m.cl.pin.size - (m.leaves.length : Int) := wrS (by omega)
  unfold mRange
  simp -implicitDefEqProofs only [go_sem]
  refine WantM.intro hmc ?_
  by_cases a : x.from_ = m.leaves.length
  · have a' : (x.from_ != (m.leaves.length : Int)) = false := by rw [bne_eq_false_iff_eq]; exact a
    by_cases b : m.cl.pin.size ≤ m.leaves.length
    · have b' : m.cl.pin.size - (m.leaves.length : Int) ≤ 0 := by omega
      rw [if_pos (.inr (.inl b))]
      simp -implicitDefEqProofs only [go_sem, w1, a', b', guardP_tf, guardP_ff, guardP_ft, guardP_tt, condJ_true, condJ_false]
    · have b' : ¬ (m.cl.pin.size - (m.leaves.length : Int) ≤ 0) := by omega
      cases c : x.leaves with
      | nil =>
        rw [if_pos (.inr (.inr rfl))]
        simp -implicitDefEqProofs only [go_sem, w1, a', b', c, z0, beq_self_eq_true, guardP_tf, guardP_ff, guardP_ft, guardP_tt, condJ_true, condJ_false]
      | cons y ys =>
        have c0 : x.leaves ≠ [] := by rw [c]; simp
        have c' : ((x.leaves.length : Int) == 0) = false := by rw [c]; simp; omega
        rw [← c]
        clear c
        rw [if_neg (by simp only [not_or]; exact ⟨fun e => e a, b, c0⟩)]
        have hmn := rAll_min m x.leaves (by omega)
        have k1 : (0 : Int) ≤ min (m.cl.pin.size - (m.leaves.length : Int)) (x.leaves.length : Int) ∧ min (m.cl.pin.size - (m.leaves.length : Int)) (x.leaves.length : Int) ≤ (x.leaves.length : Int) := by omega
        simp -implicitDefEqProofs only [go_sem, w1, a', b', c', k1, Nat.sub_zero, List.drop_zero, Int.toNat_zero, guardP_tf, guardP_ff, guardP_ft, guardP_tt, condJ_true, condJ_false]
        refine Want.intro hcp ?_
        have ha : (rAll m x.leaves).length ≤ maxLen ∧ (rAll m x.leaves).length * 16 ≤ 140737488355328 := by unfold maxLen; omega
        simp -implicitDefEqProofs only [go_sem, w1, k1, ha, ← List.map_append, hmn]
        clear hmn k1 c' c0
        have hAm := (mLeavesOk_of hA).1
        generalize rAll m x.leaves = A at *
        refine Want.intro hca ?_
        have hAp : (A.length : Int) ≤ m.cl.pin.size := by omega
        have hAg : m.leaves.length ≤ A.length := by omega
        by_cases d : (A.length : Int) < m.cl.pin.size
        · rw [if_pos d]
          simp -implicitDefEqProofs only [go_sem, d]
        · rw [if_neg d]
          have e0 : ((A.length : Int) == m.cl.pin.size) = true := by rw [beq_iff_eq]; omega
          simp -implicitDefEqProofs only [go_sem, d]
          refine Want.intro hro ?_
          generalize mRoot A = R at *
          cases e : eqDg R.dig m.cl.pin.root with
          | true =>
            rw [if_pos rfl]
            have e' := e
            unfold eqDg BD.dig at e'
            simp -implicitDefEqProofs only [go_sem, e0, e', Bool.true_and, Bool.and_self, condJ_true, condJ_false]
          | false =>
            rw [if_neg (by simp)]
            have e' := e
            unfold eqDg BD.dig at e'
            have k6 : (0 : Int) ≤ m.done.size ∧ m.done.size ≤ (A.length : Int) := by omega
            have hct := c113_c (A.take m.done.size.toNat) (by rw [List.length_take]; omega)
            have hif : ∀ (y : Option (Sig × AV)), ifLe m.done.size.toNat A.length y = y := fun y => ifLe_pos (by omega)
            simp -implicitDefEqProofs only [go_sem, e0, e', k6, hif, Bool.true_and, Bool.and_self, condJ_true, condJ_false, Nat.sub_zero, List.drop_zero, Int.toNat_zero]
            refine Want.intro hct ?_
            simp -implicitDefEqProofs only [go_sem]
            rfl
  · have a' : (x.from_ != (m.leaves.length : Int)) = true := by rw [bne_iff_ne]; exact a
    rw [if_pos (.inl a)]
    simp -implicitDefEqProofs only [go_sem, w1, a', guardP_tf, guardP_ff, guardP_ft, guardP_tt, condJ_true, condJ_false]
end Go.Proofs.YtjlhdfciklnndaaGreat.E
