/-
  The law of LogHear.
-/
import Derived.Test.YtjlhdfciklnndaaG3
import Derived.Test.YtjlhdfciklnndaaLE
namespace Go.Proofs.Ytjlhdfciklnndaa.E
open Go Go.RowKit
set_option maxHeartbeats 4000000
set_option maxRecDepth 10000
set_option linter.unusedSimpArgs false
set_option linter.unusedVariables false
set_option linter.unusedSectionVars false
def dcLG : Dec := ⟨[(7, .cm [false])], [9, 10, 11], [22, 43, 84, 88, 103], true⟩

def szLg (l : List ByteArray) (left : Int) : Int := if szS l left < 0 then -1 else szS l left
theorem c4_c (l : List ByteArray) (left : Int) (hl : l.length ≤ maxLen) (hb : ∀ b ∈ l, b.size ≤ maxLen) (h : 0 ≤ left ∧ left ≤ 1048576) : CallR Try.prog 4 [.agg [.ro 1 (l.map leafCs)], vI left] (vI (szLg l left)) [] := by
  refine use_of dcLG false Try.f4 ?_
  conv => enter [1]; reduce
  refine jvR Try.f4 12 [.tmp 4] (by kernel_rfl) (by decide +kernel) rfl ?_
  unfold szLg
  simp -implicitDefEqProofs only [go_sem]
  refine Want.intro (c12_c l left hl hb h) ?_
  by_cases hn : szS l left < 0 <;> simp -implicitDefEqProofs only [go_sem, hn]
theorem c7_c (l : List ByteArray) (hl : l.length ≤ 1048576) : CallM Try.prog 7 [] [.agg [.ro 1 (l.map leafCs)]] (.agg [.blk 0 0 [] 1 0 l.length]) [(0, 0, one ⟨1, l.map leafCs, 2, false⟩)] := by
  refine use_of dcLG false Try.f7 ?_
  conv => enter [1]; reduce
  refine jvM Try.f7 9 [.cell 2 32] (by kernel_rfl) (by decide +kernel) rfl ?_
  simp -implicitDefEqProofs only [go_sem]
  refine Want.intro (c17_c l hl) ?_
  simp -implicitDefEqProofs only [go_sem]
theorem c11_c (l : List ByteArray) (hl : l.length ≤ maxLen) : CallR Try.prog 11 [.agg [.ro 1 (l.map leafCs)], .agg [.ro 1 (l.map leafCs)]] (vB true) [] := by
  refine use_of dcLG false Try.f11 ?_
  conv => enter [1]; reduce
  refine jvR Try.f11 11 [.tmp 4] (by kernel_rfl) (by decide +kernel) rfl ?_
  simp -implicitDefEqProofs only [go_sem]
  repeat' first | (refine Want.intro (by first | exact r22_c l hl) ?_; try simp -implicitDefEqProofs only [go_sem]) | (refine WantM.intro (by first | exact r22_c l hl) ?_; try simp -implicitDefEqProofs only [go_sem]) | (with_reducible refine And.intro ?_ ?_) | (refine guardP_intro (fun h => ?_) (fun h => ?_) <;> try simp -implicitDefEqProofs only [go_sem, h]) | (refine condJ_intro (fun h => ?_) (fun h => ?_) <;> try simp -implicitDefEqProofs only [go_sem, h])
theorem c3_c (l : List ByteArray) (x : MLet) (hl : l.length ≤ maxLen) (hb : ∀ b ∈ l, b.size ≤ maxLen) (hx : x.text.size ≤ maxLen) : CallR Try.prog 3 [.agg [.ro 1 (l.map leafCs)], .agg x.cs] (vB true) [] := by
  refine use_of dcLG false Try.f3 ?_
  conv => enter [1]; reduce
  refine jvR Try.f3 52 [.tmp 4] (by kernel_rfl) (by decide +kernel) rfl ?_
  simp -implicitDefEqProofs only [go_sem]
  refine Want.intro (c4_c l 1048576 hl hb (by omega)) ?_
  simp -implicitDefEqProofs only [go_sem]
  refine condJ_intro (fun h => ?_) (fun h => ?_)
  · simp -implicitDefEqProofs only [go_sem, h]
  · have h' := of_decide_eq_false h
    have h2 : ¬ szS l 1048576 < 0 := fun e => by unfold szLg at h'; rw [if_pos e] at h'; omega
    have h3 : szLg l 1048576 = szS l 1048576 := by unfold szLg; rw [if_neg h2]
    have h4 := szS_bd (l := l) (left := 1048576) (by omega)
    have h5 : ¬ (1048576 : Int) - l.length < 0 := fun e => by unfold szS at h2; rw [if_pos e] at h2; omega
    have k0 : (l.length : Int) ≤ 1048576 ∧ (0 ≤ szLg l 1048576 ∧ szLg l 1048576 ≤ 1048576) := by omega
    simp -implicitDefEqProofs only [go_sem, h]
    refine Want.intro (c5_c x _ hx (by omega)) ?_
    simp -implicitDefEqProofs only [go_sem]
    refine condJ_intro (fun h => ?_) (fun h => ?_)
    · simp -implicitDefEqProofs only [go_sem, h]
    · simp -implicitDefEqProofs only [go_sem, h]
      have hT := c7_c l (by omega)
      have hL := c8_c x
      have hS := c6_c l x hl
      have hI := c9_c l x hl
      generalize mLogHear l x = R at *
      obtain ⟨R, ok⟩ := R
      have hE := c10_c R
      have hEL := c11_c l hl
      refine ct_intro [2, 3, 6, 7] [] (fun s => s = ⟨52, [(2, .ptr 2 0 [] 1 0 0), (3, .ptr 3 0 [] 3 0 0), (6, .ptr 6 0 [] 3 0 0), (7, vB ok)], [(2, 0, one ⟨1, [[.ro 1 (l.map leafCs)]], 0, false⟩), (3, 0, one ⟨3, [x.cs], 0, false⟩), (6, 0, one ⟨3, [R.cs], 0, false⟩)], 1⟩) ?_ ?_
      · simp -implicitDefEqProofs only [go_sem]
        repeat' first | (refine Want.intro (by first | exact hT | exact hL | exact hS) ?_; try simp -implicitDefEqProofs only [go_sem]) | (refine WantM.intro (by first | exact hT | exact hL | exact hS) ?_; try simp -implicitDefEqProofs only [go_sem]) | (with_reducible refine And.intro ?_ ?_) | (refine guardP_intro (fun h => ?_) (fun h => ?_) <;> try simp -implicitDefEqProofs only [go_sem, h]) | (refine condJ_intro (fun h => ?_) (fun h => ?_) <;> try simp -implicitDefEqProofs only [go_sem, h])
        all_goals rfl
      · rintro s rfl
        simp -implicitDefEqProofs only [go_sem]
        refine WantM.intro hT ?_
        simp -implicitDefEqProofs only [go_sem]
        refine ct_intro [2, 6, 7, 8, 9, 10] [] (fun s => s = ⟨52, [(2, .ptr 2 0 [] 1 0 0), (6, .ptr 6 0 [] 3 0 0), (7, vB ok), (8, .ptr 8 0 [] 1 0 0), (9, .ptr 9 0 [] 3 0 0), (10, vB ok)], [(2, 0, one ⟨1, [[.ro 1 (l.map leafCs)]], 0, false⟩), (6, 0, one ⟨3, [R.cs], 0, false⟩), (8, 0, one ⟨1, [[.blk 10008 0 [] 1 0 l.length]], 0, false⟩), (10008, 0, one ⟨1, l.map leafCs, 2, false⟩), (9, 0, one ⟨3, [R.cs], 0, false⟩)], 1⟩) ?_ ?_
        · simp -implicitDefEqProofs only [go_sem]
          repeat' first | (refine Want.intro (by first | exact hT | exact hL | exact hI) ?_; try simp -implicitDefEqProofs only [go_sem]) | (refine WantM.intro (by first | exact hT | exact hL | exact hI) ?_; try simp -implicitDefEqProofs only [go_sem]) | (with_reducible refine And.intro ?_ ?_) | (refine guardP_intro (fun h => ?_) (fun h => ?_) <;> try simp -implicitDefEqProofs only [go_sem, h]) | (refine condJ_intro (fun h => ?_) (fun h => ?_) <;> try simp -implicitDefEqProofs only [go_sem, h])
          all_goals rfl
        · rintro s rfl
          simp -implicitDefEqProofs only [go_sem]
          refine Want.intro hE ?_
          cases ok
          all_goals
            simp -implicitDefEqProofs only [go_sem, Bool.not_true, guardP_tf, guardP_ff, guardP_ft, guardP_tt, condJ_true, condJ_false]
            refine WantM.intro hT ?_
            simp -implicitDefEqProofs only [go_sem]
            refine Want.intro hEL ?_
            simp -implicitDefEqProofs only [go_sem]
end Go.Proofs.Ytjlhdfciklnndaa.E
