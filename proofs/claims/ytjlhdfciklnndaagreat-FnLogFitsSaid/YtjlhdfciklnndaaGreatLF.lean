/-
  The law of LogFits.
-/
import Derived.Test.YtjlhdfciklnndaaGreatGA
import Derived.Test.YtjlhdfciklnndaaGreatGD
namespace Go.Proofs.YtjlhdfciklnndaaGreat.E
open Go Go.RowKit
set_option maxHeartbeats 4000000
set_option maxRecDepth 10000
set_option linter.unusedSimpArgs false
set_option linter.unusedVariables false
set_option linter.unusedSectionVars false
def dcLF : Dec := ⟨[(21, .cm [false]), (24, .cm [false]), (27, .cm [false])], [9, 10, 11], [27, 30, 44, 45, 46, 58, 68, 78, 79, 86, 101, 112, 113, 132, 174, 196, 247, 249, 351, 356], false⟩

theorem c4_c (code : List UInt8) (hl : code.length ≤ maxLen) : CallR Tryz.prog 4 [.ro 1 (code.map byteC)] (vB true) [] := by
  obtain ⟨res, σ, ⟨M, N, rfl, rfl⟩, hcall1⟩ := c21_c code hl
  obtain ⟨res, σ, ⟨l, x, ⟨rfl, rfl⟩, hll⟩, hcall2⟩ := c24_c code hl
  have hg := mGLen_le M N
  have hI := c25_c l x (by unfold maxLen; omega)
  have hS := c26_c l x (by unfold maxLen; omega)
  have hno := logHear_none (l := l) (x := x)
  have hyes := logHear_fits (l := l) (x := x)
  generalize mLogHear l x = R at *
  obtain ⟨R, ok⟩ := R
  simp only at hno hyes
  refine use_of dcLF false Tryz.f4 ?_
  conv => enter [1]; reduce
  refine jvR Tryz.f4 93 [.tmp 2] (by kernel_rfl) (by decide +kernel) rfl ?_
  simp -implicitDefEqProofs only [go_sem]
  refine condJ_intro (fun h => ?_) (fun h => ?_)
  · simp -implicitDefEqProofs only [go_sem, h]
  · simp -implicitDefEqProofs only [go_sem, h]
    refine WantM.intro hcall1 ?_
    simp -implicitDefEqProofs only [go_sem]
    refine Want.intro (c22_c M N) ?_
    simp -implicitDefEqProofs only [go_sem]
    refine Want.intro (c23_c M N) ?_
    have hg1 : ¬ mGLen M N > 16 := by omega
    generalize mGLen M N = g at *
    simp -implicitDefEqProofs only [go_sem, hg1, bne_self_eq_false, guardP_tf, guardP_ff, guardP_ft, guardP_tt, condJ_true, condJ_false]
    refine WantM.intro hcall2 ?_
    simp -implicitDefEqProofs only [go_sem]
    refine Want.intro hI ?_
    simp -implicitDefEqProofs only [go_sem]
    refine Want.intro hS ?_
    cases ok with
    | false =>
      rw [hno rfl]
      simp -implicitDefEqProofs only [go_sem, bne_self_eq_false, Bool.not_false, guardP_tf, guardP_ff, guardP_ft, guardP_tt, condJ_true, condJ_false]
      try rfl
    | true =>
      obtain ⟨h1, h2, h3, h4, h5⟩ := hyes rfl
      obtain ⟨rf, rt, rx⟩ := R
      simp only at h1 h2 h3 h4
      subst h3
      subst h4
      have hsz : rx.size ≤ 600 := by
        simp only [mLetOk, Bool.and_eq_true, decide_eq_true_eq] at h5
        omega
      have hLE := c29_c ⟨0, x.from_, rx⟩
      rw [h5] at hLE
      have hWR := c27_c rx (by omega)
      have hwl := mWire_len rx
      generalize mWireRead rx = W at *
      obtain ⟨a, code_, at_⟩ := W
      simp only at h1 h2 hwl
      have hWO := c28_c a (by unfold maxLen; omega)
      rw [h2] at hWO
      subst h1
      simp -implicitDefEqProofs only [go_sem, bne_self_eq_false, Bool.not_true, guardP_tf, guardP_ff, guardP_ft, guardP_tt, condJ_true, condJ_false]
      refine WantM.intro hWR ?_
      simp -implicitDefEqProofs only [go_sem]
      refine Want.intro hWO ?_
      simp -implicitDefEqProofs only [go_sem, beq_self_eq_true, guardP_tf, guardP_ff, guardP_ft, guardP_tt, condJ_true, condJ_false]
      refine Want.intro hLE ?_
      simp -implicitDefEqProofs only [go_sem]
end Go.Proofs.YtjlhdfciklnndaaGreat.E
