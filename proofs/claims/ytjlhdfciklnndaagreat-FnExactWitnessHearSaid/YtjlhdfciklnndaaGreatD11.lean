/-
  Contracts: messages that are ok.
-/
import Derived.Test.YtjlhdfciklnndaaGreatD10
namespace Go.Proofs.YtjlhdfciklnndaaGreat.E
open Go Go.RowKit
set_option maxHeartbeats 4000000
set_option maxRecDepth 10000
set_option linter.unusedSimpArgs false
set_option linter.unusedVariables false
set_option linter.unusedSectionVars false
def dcD11 : Dec := ⟨[], [9, 10, 11], [27, 30, 44, 45, 46, 58, 68, 78, 79, 86, 101, 112, 113, 132, 174, 196, 247, 249, 351, 356], false⟩

def hS (k : Int) : Bool := decide (k = 1 ∨ k = 2 ∨ k = 3 ∨ k = 6)
def hF (k : Int) : Bool := decide (k = 4 ∨ k = 5 ∨ k = 7 ∨ k = 8)
def hZ (k : Int) : Bool := decide (k = 2 ∨ k = 3 ∨ k = 4 ∨ k = 5 ∨ k = 6)
def hR (k : Int) : Bool := decide (k = 2 ∨ k = 3 ∨ k = 6)
def hC (k : Int) : Bool := decide (k = 7)
def hP (k : Int) : Bool := decide (k = 5)
def hL (k : Int) : Bool := decide (k = 8)
theorem kinds (k : Int) : k = 1 ∨ k = 2 ∨ k = 3 ∨ k = 4 ∨ k = 5 ∨ k = 6 ∨ k = 7 ∨ k = 8 ∨ (¬ k = 1 ∧ ¬ k = 2 ∧ ¬ k = 3 ∧ ¬ k = 4 ∧ ¬ k = 5 ∧ ¬ k = 6 ∧ ¬ k = 7 ∧ ¬ k = 8) := by omega
theorem has_letters (k : Int) : (mHasB (l5P k) 115 = hS k ∧ mHasB (l5P k) 102 = hF k ∧ mHasB (l5P k) 122 = hZ k ∧ mHasB (l5P k) 114 = hR k ∧ mHasB (l5P k) 99 = hC k ∧ mHasB (l5P k) 112 = hP k ∧ mHasB (l5P k) 108 = hL k) ∧
    (mHasB (l5H k) 115 = hS k ∧ mHasB (l5H k) 102 = hF k ∧ mHasB (l5H k) 110 = hZ k ∧ mHasB (l5H k) 114 = hR k ∧ mHasB (l5H k) 99 = hC k ∧ mHasB (l5H k) 112 = hP k ∧ mHasB (l5H k) 108 = hL k) := by
  rcases kinds k with rfl | rfl | rfl | rfl | rfl | rfl | rfl | rfl | ⟨h1, h2, h3, h4, h5, h6, h7, h8⟩
  iterate 8 exact ⟨⟨rfl, rfl, rfl, rfl, rfl, rfl, rfl⟩, ⟨rfl, rfl, rfl, rfl, rfl, rfl, rfl⟩⟩
  have e1 : l5P k = ⟨#[]⟩ := by simp [l5P, h1, h2, h3, h4, h5, h6, h7, h8]
  have e2 : l5H k = ⟨#[]⟩ := by simp [l5H, h1, h2, h3, h4, h5, h6, h7, h8]
  rw [e1, e2]
  simp [hS, hF, hZ, hR, hC, hP, hL, h1, h2, h3, h4, h5, h6, h7, h8, mHasB, mHasL]
def dig0 : MDig := ⟨0, 0, 0, 0⟩
def mWireOk (m : MMsg) : Bool := mIn m.kind 1 8 && (mPart (hS m.kind) m.session 1 1000000 && (mPart (hF m.kind) m.from_ 0 256 && (mPart (hZ m.kind) m.size 0 256 && ((hR m.kind || eqDig m.root dig0) && (mPart (hC m.kind) m.count 1 8 && (mPart (hP m.kind) m.proof.length 0 16 && (mPart (hL m.kind) m.leaves.length 0 8 && leavesOk m.leaves)))))))
def MMsg.roC (m : MMsg) : List AV := [vI m.kind, vI m.session, vI m.from_, vI m.size, vU m.root.a, vU m.root.b, vU m.root.c, vU m.root.d, vI m.count, .ro 4 (m.proof.map MDig.cs), .ro 1 (m.leaves.map leafCs)]
attribute [go_sem] MMsg.roC
theorem c28_c (m : MMsg) (hl : m.leaves.length ≤ maxLen) : CallR Tryz.prog 28 [m.ro] (vB (mWireOk m)) [] := by
  refine use_of dcD11 false Tryz.f28 ?_
  conv => enter [1]; reduce
  refine jvR Tryz.f28 75 [.tmp 2] (by kernel_rfl) (by decide +kernel) rfl ?_
  simp -implicitDefEqProofs only [go_sem]
  refine jv_lp (fun k s => ∃ i : Nat, i ≤ m.leaves.length ∧ k = m.leaves.length - i ∧ leavesOk (m.leaves.drop i) = leavesOk m.leaves ∧ s = ⟨75, [(1, .ptr 1 0 [] 11 0 0), (3, vI m.kind), (9, .ro 1 (m.leaves.map leafCs)), (10, vI m.leaves.length), (11, vI i)], [(1, 0, one ⟨11, [m.roC], 0, false⟩)], 1⟩) m.leaves.length ?_ ?_
  · simp -implicitDefEqProofs only [go_sem]
    exact ⟨0, Nat.zero_le _, rfl, rfl, rfl⟩
  · rintro k s ⟨i, hi, rfl, hx, rfl⟩
    rcases Nat.lt_or_ge i m.leaves.length with hlt | hge
    · have hlt' : (i : Int) < (m.leaves.length : Int) := by omega
      have hg : m.leaves[i]? = some m.leaves[i] := List.getElem?_eq_getElem hlt
      have hw := wrap_succ hlt hl
      rw [leavesOk_drop hlt] at hx
      simp -implicitDefEqProofs only [go_sem, hlt', hg]
      refine condJ_intro (fun h => ?_) (fun h => ?_)
      · have h3 : ¬ m.leaves[i].size ≤ 40 := by have := of_decide_eq_true h; omega
        simp -implicitDefEqProofs only [go_sem, h]
        have hx' : leavesOk m.leaves = false := by rw [← hx]; simp [h3]
        simp [mWireOk, hx']
      · have h3 : m.leaves[i].size ≤ 40 := by have := of_decide_eq_false h; omega
        simp -implicitDefEqProofs only [go_sem, h, hw]
        refine ⟨_, by omega, i + 1, hlt, rfl, ?_, rfl⟩
        rw [← hx]
        simp [h3]
    · have hi : i = m.leaves.length := by omega
      subst hi
      have hlt' : ¬ ((m.leaves.length : Int) < (m.leaves.length : Int)) := by omega
      rw [List.drop_length] at hx
      have hx' : leavesOk m.leaves = true := hx.symm
      obtain ⟨e1, e2, e3, e4, e5, e6, e7⟩ := (has_letters m.kind).1
      simp -implicitDefEqProofs only [go_sem, hlt']
      repeat' first | (refine Want.intro (by first | exact c108_c _ _ _ | exact c115_c m.kind 115 | exact c115_c m.kind 102 | exact c115_c m.kind 122 | exact c115_c m.kind 114 | exact c115_c m.kind 99 | exact c115_c m.kind 112 | exact c115_c m.kind 108 | exact c114_c _ _ _ _) ?_; try simp -implicitDefEqProofs only [go_sem, e1, e2, e3, e4, e5, e6, e7]) | (refine WantM.intro (by first | exact c108_c _ _ _ | exact c115_c m.kind 115 | exact c115_c m.kind 102 | exact c115_c m.kind 122 | exact c115_c m.kind 114 | exact c115_c m.kind 99 | exact c115_c m.kind 112 | exact c115_c m.kind 108 | exact c114_c _ _ _ _) ?_; try simp -implicitDefEqProofs only [go_sem, e1, e2, e3, e4, e5, e6, e7]) | (refine guardP_intro (fun h => ?_) (fun h => ?_) <;> try simp -implicitDefEqProofs only [go_sem, e1, e2, e3, e4, e5, e6, e7, h]) | (refine condJ_intro (fun h => ?_) (fun h => ?_) <;> try simp -implicitDefEqProofs only [go_sem, e1, e2, e3, e4, e5, e6, e7, h])
      all_goals simp_all [mWireOk, dig0, eqDig]
      all_goals trace_state
theorem l5H_lits : l5H 1 = ⟨#[115]⟩ ∧ l5H 2 = ⟨#[115, 110, 114]⟩ ∧ l5H 3 = ⟨#[115, 110, 114]⟩ ∧ l5H 4 = ⟨#[102, 110]⟩ ∧ l5H 5 = ⟨#[102, 110, 112]⟩ ∧ l5H 6 = ⟨#[115, 110, 114]⟩ ∧ l5H 7 = ⟨#[102, 99]⟩ ∧ l5H 8 = ⟨#[102, 108]⟩ := ⟨rfl, rfl, rfl, rfl, rfl, rfl, rfl, rfl⟩
theorem hlits : (hS 1 = true ∧ hS 2 = true ∧ hS 3 = true ∧ hS 4 = false ∧ hS 5 = false ∧ hS 6 = true ∧ hS 7 = false ∧ hS 8 = false) ∧ (hF 1 = false ∧ hF 2 = false ∧ hF 3 = false ∧ hF 4 = true ∧ hF 5 = true ∧ hF 6 = false ∧ hF 7 = true ∧ hF 8 = true) ∧ (hZ 1 = false ∧ hZ 2 = true ∧ hZ 3 = true ∧ hZ 4 = true ∧ hZ 5 = true ∧ hZ 6 = true ∧ hZ 7 = false ∧ hZ 8 = false) ∧ (hR 1 = false ∧ hR 2 = true ∧ hR 3 = true ∧ hR 4 = false ∧ hR 5 = false ∧ hR 6 = true ∧ hR 7 = false ∧ hR 8 = false) ∧ (hC 1 = false ∧ hC 2 = false ∧ hC 3 = false ∧ hC 4 = false ∧ hC 5 = false ∧ hC 6 = false ∧ hC 7 = true ∧ hC 8 = false) ∧ (hP 1 = false ∧ hP 2 = false ∧ hP 3 = false ∧ hP 4 = false ∧ hP 5 = true ∧ hP 6 = false ∧ hP 7 = false ∧ hP 8 = false) ∧ (hL 1 = false ∧ hL 2 = false ∧ hL 3 = false ∧ hL 4 = false ∧ hL 5 = false ∧ hL 6 = false ∧ hL 7 = false ∧ hL 8 = true) := by decide
theorem mIn_lits : mIn 1 1 8 = true ∧ mIn 2 1 8 = true ∧ mIn 3 1 8 = true ∧ mIn 4 1 8 = true ∧ mIn 5 1 8 = true ∧ mIn 6 1 8 = true ∧ mIn 7 1 8 = true ∧ mIn 8 1 8 = true := by decide
theorem beq_cons_nil (a : UInt8) (l : List UInt8) : ((a :: l) == ([] : List UInt8)) = false := rfl
theorem beq_nil_nil : (([] : List UInt8) == []) = true := rfl
attribute [go_sem] beq_cons_nil beq_nil_nil l5H_lits tl_nil tl_1 tl_2 tl_3
theorem c127_c (m : MMsg) (hl : m.leaves.length ≤ maxLen) : CallR Tryz.prog 127 [m.ro] (vB (mWireOk m)) [] := by
  refine use_of dcD11 false Tryz.f127 ?_
  conv => enter [1]; reduce
  refine jvR Tryz.f127 127 [.tmp 2] (by kernel_rfl) (by decide +kernel) rfl ?_
  obtain ⟨k, se, fr, si, ro, co, pr, le⟩ := m
  simp -implicitDefEqProofs only [go_sem]
  refine Want.intro (c128_c k) ?_
  rcases kinds k with rfl | rfl | rfl | rfl | rfl | rfl | rfl | rfl | ⟨h1, h2, h3, h4, h5, h6, h7, h8⟩
  case inr.inr.inr.inr.inr.inr.inr.inr =>
    have e2 : l5H k = ⟨#[]⟩ := by simp [l5H, h1, h2, h3, h4, h5, h6, h7, h8]
    simp -implicitDefEqProofs only [go_sem, e2, condJ_true]
    have : mIn k 1 8 = false := by simp [mIn]; omega
    simp [mWireOk, this]
  all_goals simp -implicitDefEqProofs only [go_sem, condJ_true, condJ_false]
  all_goals repeat' first | (refine Want.intro (by first | exact c143_c _ _ _ | exact c130_c _ 115 (by decide) | exact c130_c _ 102 (by decide) | exact c130_c _ 110 (by decide) | exact c130_c _ 114 (by decide) | exact c130_c _ 99 (by decide) | exact c130_c _ 112 (by decide) | exact c130_c _ 108 (by decide) | exact c224_c le hl) ?_; try simp -implicitDefEqProofs only [go_sem, condJ_true, condJ_false]) | (refine WantM.intro (by first | exact c143_c _ _ _ | exact c130_c _ 115 (by decide) | exact c130_c _ 102 (by decide) | exact c130_c _ 110 (by decide) | exact c130_c _ 114 (by decide) | exact c130_c _ 99 (by decide) | exact c130_c _ 112 (by decide) | exact c130_c _ 108 (by decide) | exact c224_c le hl) ?_; try simp -implicitDefEqProofs only [go_sem, condJ_true, condJ_false]) | (refine guardP_intro (fun h => ?_) (fun h => ?_) <;> try simp -implicitDefEqProofs only [go_sem, condJ_true, condJ_false, h]) | (refine condJ_intro (fun h => ?_) (fun h => ?_) <;> try simp -implicitDefEqProofs only [go_sem, condJ_true, condJ_false, h])
  all_goals simp_all [mWireOk, dig0, eqDig, mPart, hlits, mIn_lits]
  all_goals first
    | (intros; subst_vars; simp_all; done)
    | (cases le <;> simp_all [leavesOk]; done)
    | (cases hlo : leavesOk le <;> simp_all [mIn] <;> intros <;> first | omega | (intro e; subst e; simp_all [leavesOk]; done) | (subst_vars; simp_all [leavesOk]; done))
end Go.Proofs.YtjlhdfciklnndaaGreat.E
