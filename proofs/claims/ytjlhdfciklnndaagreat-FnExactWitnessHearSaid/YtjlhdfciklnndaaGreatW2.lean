/-
  Contracts: raw writes; the raw writes that keep a point.
-/
import Derived.Test.YtjlhdfciklnndaaGreatW1
namespace Go.Proofs.YtjlhdfciklnndaaGreat.E
open Go Go.RowKit
set_option maxHeartbeats 4000000
set_option maxRecDepth 10000
set_option linter.unusedSimpArgs false
set_option linter.unusedVariables false
set_option linter.unusedSectionVars false
def dcW2 : Dec := ⟨[(162, .cm [true])], [9, 10, 11], [27, 30, 44, 45, 46, 58, 68, 78, 79, 86, 101, 112, 113, 132, 174, 196, 247, 249, 351, 356], false⟩

attribute [-go_sem] fieldT
@[go_sem] theorem fieldT_raw1 : fieldT Tryz.prog 241 1 = some 3 := by kernel_rfl
theorem c155_c (s : MSlot) (w : Int) (v : Nat) : CallR Tryz.prog 155 [.agg s.cs, vI w, vU v] (.agg (mPut s w v).cs) [] := by
  refine use_of dcW2 false Tryz.f155 ?_
  conv => enter [1]; reduce
  refine jvR Tryz.f155 40 [.cell 6 98] (by kernel_rfl) (by decide +kernel) rfl ?_
  unfold mPut
  by_cases e0 : w = 0
  · subst e0; simp -implicitDefEqProofs only [go_sem, condJ_true, condJ_false, beq_self_eq_true]
  · have f0 : (w == 0) = false := beq_eq_false_iff_ne.2 e0
    by_cases e1 : w = 1
    · subst e1; simp -implicitDefEqProofs only [go_sem, condJ_true, condJ_false, beq_self_eq_true]
    · have f1 : (w == 1) = false := beq_eq_false_iff_ne.2 e1
      by_cases e2 : w = 2
      · subst e2; simp -implicitDefEqProofs only [go_sem, condJ_true, condJ_false, beq_self_eq_true]
      · have f2 : (w == 2) = false := beq_eq_false_iff_ne.2 e2
        by_cases e3 : w = 3
        · subst e3; simp -implicitDefEqProofs only [go_sem, condJ_true, condJ_false, beq_self_eq_true]
        · have f3 : (w == 3) = false := beq_eq_false_iff_ne.2 e3
          by_cases e4 : w = 4
          · subst e4; simp -implicitDefEqProofs only [go_sem, condJ_true, condJ_false, beq_self_eq_true]
          · have f4 : (w == 4) = false := beq_eq_false_iff_ne.2 e4
            by_cases e5 : w = 5
            · subst e5; simp -implicitDefEqProofs only [go_sem, condJ_true, condJ_false, beq_self_eq_true]
            · have f5 : (w == 5) = false := beq_eq_false_iff_ne.2 e5
              by_cases e6 : w = 6
              · subst e6; simp -implicitDefEqProofs only [go_sem, condJ_true, condJ_false, beq_self_eq_true]
              · have f6 : (w == 6) = false := beq_eq_false_iff_ne.2 e6
                simp -implicitDefEqProofs only [go_sem, f0, f1, f2, f3, f4, f5, f6, e0, e1, e2, e3, e4, e5, e6, condJ_true, condJ_false]
theorem mWrite_step {d : MDisk} {l : List MRaw} {i : Nat} (h : i < l.length) : mWrite d (l.take (i + 1)) = mRaw1 (mWrite d (l.take i)) l[i] := by
  unfold mWrite
  rw [List.take_succ_eq_append_getElem h, List.foldl_append]
  rfl
def zdisk : MDisk := ⟨⟨0, 0, 0, dig0⟩, ⟨0, 0, 0, dig0⟩⟩
theorem c54_c (d : MDisk) (l : List MRaw) (hl : l.length ≤ maxLen) : CallR Tryz.prog 54 [.agg d.cs, .ro 3 (l.map MRaw.cs)] (.agg (mWrite d l).cs) [] := by
  refine use_of dcW2 false Tryz.f54 ?_
  conv => enter [1]; reduce
  refine jvR Tryz.f54 40 [.cell 4 100] (by kernel_rfl) (by decide +kernel) rfl ?_
  simp -implicitDefEqProofs only [go_sem]
  refine jv_lp (fun m z => ∃ i, i ≤ l.length ∧ m = l.length - i ∧ z = ⟨40, [(1, .ro 3 (l.map MRaw.cs)), (2, .ptr 2 0 [] 14 0 0), (4, .ptr 4 0 [] 14 0 0), (5, vI i)], [(2, 0, one ⟨14, [(mWrite d (l.take i)).cs], 0, false⟩), (4, 0, one ⟨14, [zdisk.cs], 0, false⟩)], 1⟩) l.length ?_ ?_
  · simp -implicitDefEqProofs only [go_sem]
    exact ⟨0, Nat.zero_le _, rfl, rfl⟩
  · rintro m z ⟨i, hi, rfl, rfl⟩
    rcases Nat.lt_or_ge i l.length with hlt | hge
    · have hlt' : (i : Int) < (l.length : Int) := by omega
      have hg : l[i]? = some l[i] := List.getElem?_eq_getElem hlt
      have hw := wrap_succ hlt hl
      have hst := mWrite_step (d := d) hlt
      generalize l[i] = r at *
      generalize mWrite d (l.take i) = D at *
      have hp1 := c155_c D.one r.word r.value
      have hp2 := c155_c D.two r.word r.value
      unfold mRaw1 at hst
      by_cases e1 : r.slot = 1
      · have f1 : (r.slot == 1) = true := by rw [e1]; rfl
        have f2 : (r.slot == 2) = false := by rw [e1]; rfl
        rw [if_pos e1] at hst
        simp -implicitDefEqProofs only [go_sem, hlt', hg, hw, f1, f2, condJ_true, condJ_false]
        refine Want.intro hp1 ?_
        simp -implicitDefEqProofs only [go_sem, hlt', hg, hw, f1, f2, condJ_true, condJ_false]
        exact ⟨_, by omega, i + 1, hlt, rfl, by rw [hst]⟩
      · have f1 : (r.slot == 1) = false := beq_eq_false_iff_ne.2 e1
        rw [if_neg e1] at hst
        by_cases e2 : r.slot = 2
        · have f2 : (r.slot == 2) = true := by rw [e2]; rfl
          rw [if_pos e2] at hst
          simp -implicitDefEqProofs only [go_sem, hlt', hg, hw, f1, f2, condJ_true, condJ_false]
          refine Want.intro hp2 ?_
          simp -implicitDefEqProofs only [go_sem, hlt', hg, hw, f1, f2, condJ_true, condJ_false]
          exact ⟨_, by omega, i + 1, hlt, rfl, by rw [hst]⟩
        · have f2 : (r.slot == 2) = false := beq_eq_false_iff_ne.2 e2
          rw [if_neg e2] at hst
          simp -implicitDefEqProofs only [go_sem, hlt', hg, hw, f1, f2, condJ_true, condJ_false]
          exact ⟨_, by omega, i + 1, hlt, rfl, by rw [hst]⟩
    · have hi : i = l.length := by omega
      subst hi
      have hlt' : ¬ ((l.length : Int) < (l.length : Int)) := by omega
      simp -implicitDefEqProofs only [go_sem, hlt', List.take_length]
theorem c160_c (d : MDisk) (l : List MRaw) (hl : l.length ≤ maxLen) : CallR Tryz.prog 160 [.agg d.cs, .ro 3 (l.map MRaw.cs)] (.agg (mWrite d l).cs) [] := by
  refine use_of dcW2 false Tryz.f160 ?_
  conv => enter [1]; reduce
  refine jvR Tryz.f160 43 [.cell 4 100] (by kernel_rfl) (by decide +kernel) rfl ?_
  have x0 : (0 : Int) < ((7 : Nat) : Int) := by decide
  have x1 : (1 : Int) < ((7 : Nat) : Int) := by decide
  have x2 : (2 : Int) < ((7 : Nat) : Int) := by decide
  have x3 : (3 : Int) < ((7 : Nat) : Int) := by decide
  have x4 : (4 : Int) < ((7 : Nat) : Int) := by decide
  have x5 : (5 : Int) < ((7 : Nat) : Int) := by decide
  have x6 : (6 : Int) < ((7 : Nat) : Int) := by decide
  simp -implicitDefEqProofs only [go_sem]
  refine jv_lp (fun m z => ∃ i, i ≤ l.length ∧ m = l.length - i ∧ z = ⟨43, [(2, .ptr 2 0 [] 14 0 0), (4, .ptr 4 0 [] 14 0 0), (7, .ro 3 (l.map MRaw.cs)), (8, vI l.length), (9, vI i)], [(2, 0, one ⟨14, [(mWrite d (l.take i)).cs], 0, false⟩), (4, 0, one ⟨14, [zdisk.cs], 0, false⟩)], 1⟩) l.length ?_ ?_
  · simp -implicitDefEqProofs only [go_sem]
    exact ⟨0, Nat.zero_le _, rfl, rfl⟩
  · rintro m z ⟨i, hi, rfl, rfl⟩
    rcases Nat.lt_or_ge i l.length with hlt | hge
    · have hlt' : (i : Int) < (l.length : Int) := by omega
      have hg : l[i]? = some l[i] := List.getElem?_eq_getElem hlt
      have hw := wrap_succ hlt hl
      have hst := mWrite_step (d := d) hlt
      generalize l[i] = r at *
      generalize mWrite d (l.take i) = D at *
      obtain ⟨sl, wd, v⟩ := r
      simp only [mRaw1] at hst
      have hin := c108_c wd 0 6
      simp -implicitDefEqProofs only [go_sem, hlt', hg, hw, condJ_true, condJ_false]
      refine Want.intro hin ?_
      cases hi6 : mIn wd 0 6 with
      | false =>
        have hk : ¬ (0 ≤ wd ∧ wd ≤ 6) := fun h => by rw [mIn_iff.2 h] at hi6; cases hi6
        have hp : ∀ s : MSlot, mPut s wd v = s := fun s => by unfold mPut; repeat' (rw [if_neg (by omega)])
        simp only [hp, ite_self] at hst
        simp -implicitDefEqProofs only [go_sem, hi6, hw, Bool.not_false, condJ_true, condJ_false]
        exact ⟨_, by omega, i + 1, hlt, rfl, by rw [hst]⟩
      | true =>
        simp -implicitDefEqProofs only [go_sem, hi6, hw, Bool.not_true, condJ_true, condJ_false]
        have k6 := mIn_iff.1 hi6
        have hwd : wd = 0 ∨ wd = 1 ∨ wd = 2 ∨ wd = 3 ∨ wd = 4 ∨ wd = 5 ∨ wd = 6 := by omega
        by_cases e1 : sl = 1
        · subst e1
          rw [if_pos rfl] at hst
          simp -implicitDefEqProofs only [go_sem, hw, beq_self_eq_true, condJ_true, condJ_false]
          refine WantM.intro (wds_1 D) ?_
          rcases hwd with rfl | rfl | rfl | rfl | rfl | rfl | rfl
          all_goals
            simp -implicitDefEqProofs only [go_sem, hw, x0, x1, x2, x3, x4, x5, x6]
            exact ⟨_, by omega, i + 1, hlt, rfl, by rw [hst]; rfl⟩
        · have f1 : (sl == 1) = false := beq_eq_false_iff_ne.2 e1
          rw [if_neg e1] at hst
          by_cases e2 : sl = 2
          · subst e2
            rw [if_pos rfl] at hst
            simp -implicitDefEqProofs only [go_sem, hw, f1, beq_self_eq_true, condJ_true, condJ_false]
            refine WantM.intro (wds_2 D) ?_
            rcases hwd with rfl | rfl | rfl | rfl | rfl | rfl | rfl
            all_goals
              simp -implicitDefEqProofs only [go_sem, hw, x0, x1, x2, x3, x4, x5, x6]
              exact ⟨_, by omega, i + 1, hlt, rfl, by rw [hst]; rfl⟩
          · have f2 : (sl == 2) = false := beq_eq_false_iff_ne.2 e2
            rw [if_neg e2] at hst
            simp -implicitDefEqProofs only [go_sem, hw, f1, f2, condJ_true, condJ_false]
            exact ⟨_, by omega, i + 1, hlt, rfl, by rw [hst]⟩
    · have hi : i = l.length := by omega
      subst hi
      have hlt' : ¬ ((l.length : Int) < (l.length : Int)) := by omega
      simp -implicitDefEqProofs only [go_sem, hlt', List.take_length]
end Go.Proofs.YtjlhdfciklnndaaGreat.E
