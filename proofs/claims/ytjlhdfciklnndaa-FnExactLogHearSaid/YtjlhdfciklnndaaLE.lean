/-
  Contracts: how big a monitor is, in laws.
-/
import Derived.Test.YtjlhdfciklnndaaLD
namespace Go.Proofs.Ytjlhdfciklnndaa.E
open Go Go.RowKit
set_option maxHeartbeats 4000000
set_option maxRecDepth 10000
set_option linter.unusedSimpArgs false
set_option linter.unusedVariables false
set_option linter.unusedSectionVars false
def dcLE : Dec := ⟨[], [9, 10, 11], [22, 43, 84, 88, 103], false⟩

def szG : List ByteArray → Int → Int
  | [], n => n
  | b :: r, n => if n - b.size < 0 then -1 else szG r (n - b.size)
def szS (l : List ByteArray) (left : Int) : Int := if left - l.length < 0 then -1 else szG l (left - l.length)
theorem szG_bd : ∀ (l : List ByteArray) (n : Int), 0 ≤ n → -1 ≤ szG l n ∧ szG l n ≤ n
  | [], n, h => by simp only [szG]; omega
  | b :: r, n, h => by
    simp only [szG]
    split
    · omega
    · have := szG_bd r (n - b.size) (by omega)
      omega
theorem c12_c (l : List ByteArray) (left : Int) (hl : l.length ≤ maxLen) (hb : ∀ b ∈ l, b.size ≤ maxLen) (h : 0 ≤ left ∧ left ≤ 1048576) : CallR Try.prog 12 [.ro 1 (l.map leafCs), vI left] (vI (szS l left)) [] := by
  refine use_of dcLE false Try.f12 ?_
  conv => enter [1]; reduce
  refine jvR Try.f12 28 [.tmp 4] (by kernel_rfl) (by decide +kernel) rfl ?_
  have w1 : IntKind.i64.wrap (left - (l.length : Int)) = left - (l.length : Int) := wrS (by unfold maxLen at hl; omega)
  unfold szS
  simp -implicitDefEqProofs only [go_sem, w1]
  refine condJ_intro (fun h => ?_) (fun h => ?_)
  · have h' := of_decide_eq_true h
    rw [if_pos h']
    simp -implicitDefEqProofs only [go_sem, h]
  · have h' := of_decide_eq_false h
    rw [if_neg h']
    simp -implicitDefEqProofs only [go_sem, h]
    refine jv_lp (fun m s => ∃ (i : Nat) (v : Int), i ≤ l.length ∧ m = l.length - i ∧ (0 ≤ v ∧ v ≤ 1048576) ∧ szG (l.drop i) v = szG l (left - l.length) ∧ s = ⟨28, [(0, .ro 1 (l.map leafCs)), (1, vI v), (5, vI i)], [], 1⟩) l.length ?_ ?_
    · simp -implicitDefEqProofs only [go_sem]
      exact ⟨0, left - l.length, Nat.zero_le _, rfl, by omega, rfl, rfl⟩
    · rintro m s ⟨i, v, hi, rfl, hv, he, rfl⟩
      rcases Nat.lt_or_ge i l.length with hlt | hge
      · have hlt' : (i : Int) < (l.length : Int) := by omega
        have hg : l[i]? = some l[i] := List.getElem?_eq_getElem hlt
        have hw := wrap_succ hlt hl
        have hbi := hb l[i] (List.getElem_mem hlt)
        unfold maxLen at hbi
        have w2 : IntKind.i64.wrap (v - (l[i].size : Int)) = v - (l[i].size : Int) := wrS (by omega)
        rw [List.drop_eq_getElem_cons hlt] at he
        simp only [szG] at he
        simp -implicitDefEqProofs only [go_sem, hlt', hg, hw, w2]
        refine condJ_intro (fun g => ?_) (fun g => ?_)
        · have g' := of_decide_eq_true g
          rw [if_pos g'] at he
          rw [← he]
          simp -implicitDefEqProofs only [go_sem, g]
        · have g' := of_decide_eq_false g
          rw [if_neg g'] at he
          simp -implicitDefEqProofs only [go_sem, g, hw]
          exact ⟨_, by omega, i + 1, v - l[i].size, hlt, rfl, by omega, he, rfl⟩
      · have hi : i = l.length := by omega
        subst hi
        have hlt' : ¬ ((l.length : Int) < (l.length : Int)) := by omega
        rw [List.drop_length] at he
        simp only [szG] at he
        rw [← he]
        simp -implicitDefEqProofs only [go_sem, hlt']
theorem szN_ub {left : Int} {n : Nat} (h : 0 ≤ left) : -1 ≤ szN left n ∧ szN left n ≤ left := by
  unfold szN
  split <;> omega
def szM (m : MMon) (left : Int) : Int := if szN left m.cl.acks.length < 0 then -1 else szS m.leaves (szN left m.cl.acks.length)
theorem szS_bd {l : List ByteArray} {left : Int} (h : 0 ≤ left) : -1 ≤ szS l left ∧ szS l left ≤ left := by
  unfold szS
  split
  · omega
  · have := szG_bd l (left - l.length) (by omega)
    omega
end Go.Proofs.Ytjlhdfciklnndaa.E
