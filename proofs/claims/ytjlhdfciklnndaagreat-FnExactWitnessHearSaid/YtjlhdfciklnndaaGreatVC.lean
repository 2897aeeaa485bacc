/-
  Contracts: what comes of a letter to a witness.
-/
import Derived.Test.YtjlhdfciklnndaaGreatV9
namespace Go.Proofs.YtjlhdfciklnndaaGreat.E
open Go Go.RowKit
set_option maxHeartbeats 4000000
set_option maxRecDepth 10000
set_option linter.unusedSimpArgs false
set_option linter.unusedVariables false
set_option linter.unusedSectionVars false
def dcVC : Dec := ⟨[(144, .cm [false, false, false, false]), (145, .cm [false, false, false]), (146, .cm [false])], [9, 10, 11], [27, 30, 44, 45, 46, 58, 68, 78, 79, 86, 101, 112, 113, 132, 174, 196, 247, 249, 351, 356], false⟩

theorem c48_c (w : MWit) (me : Int) (l : MLet) (hd : w.disk.ok) (hl : w.wishes.length ≤ maxLen) (hwo : ∀ x ∈ w.wishes, x.pt.root.ok) : CallM Tryz.prog 48 [] [w.ro, vI me, .agg l.cs] (mWHear w me l).av (mWHear w me l).out := by
  refine use_of dcVC false Tryz.f48 ?_
  conv => enter [1]; reduce
  refine jvM Tryz.f48 68 [.cell 6 115] (by kernel_rfl) (by decide +kernel) rfl ?_
  unfold mWHear
  simp -implicitDefEqProofs only [go_sem]
  refine Want.intro (c51_c w hd hl) ?_
  cases a1 : mWitOk w with
  | false =>
    simp -implicitDefEqProofs only [go_sem, a1, Bool.not_false, Bool.false_and, Bool.false_eq_true, guardP_tf, guardP_ff, guardP_ft, guardP_tt, condJ_true, condJ_false]
    first | done | rfl | exact ⟨rfl, rfl⟩
  | true =>
    have hw8 := witOk_len a1
    simp -implicitDefEqProofs only [go_sem, a1, Bool.not_true, guardP_tf, guardP_ff, guardP_ft, guardP_tt, condJ_true, condJ_false]
    refine Want.intro (c52_c l) ?_
    cases a2 : mLetOk l with
    | false =>
      simp -implicitDefEqProofs only [go_sem, Bool.not_false, Bool.and_false, Bool.false_and, Bool.false_eq_true, guardP_tf, guardP_ff, guardP_ft, guardP_tt, condJ_true, condJ_false]
      first | done | rfl | exact ⟨rfl, rfl⟩
    | true =>
      have hsz : l.text.size ≤ 600 := by
        simp only [mLetOk, Bool.and_eq_true, decide_eq_true_eq] at a2
        omega
      simp -implicitDefEqProofs only [go_sem, Bool.not_true, guardP_tf, guardP_ff, guardP_ft, guardP_tt, condJ_true, condJ_false]
      refine Want.intro (c143_c me 1 20) ?_
      cases a3 : mIn me 1 20 with
      | false =>
        simp -implicitDefEqProofs only [go_sem, Bool.not_false, Bool.and_false, Bool.false_and, Bool.false_eq_true, guardP_tf, guardP_ff, guardP_ft, guardP_tt, condJ_true, condJ_false]
        first | done | rfl | exact ⟨rfl, rfl⟩
      | true =>
        have hcw := c146_c w (by omega)
        have hwr := c55_c l.text (by omega)
        have hwl := mWire_len l.text
        have hwi := wire_inv l.text
        have hro := mWire_ok (s := l.text)
        generalize hW : mWireRead l.text = W at *
        obtain ⟨x, code, at_⟩ := W
        simp only at hwl hwi hro
        have hvo := c144_c w me l.from_ x hw8 hd hro
        have hgr := fun (hc : code = 0) => c145_c w me x hw8 hd (hwi hc).2.2.1 hwl.1 hwo
        simp -implicitDefEqProofs only [go_sem, Bool.not_true, Bool.and_self, if_true, guardP_tf, guardP_ff, guardP_ft, guardP_tt, condJ_true, condJ_false]
        refine Want.intro hwr ?_
        cases b1 : (code == 0) <;> cases b2 : (x.kind == 3) <;> cases b4 : (x.kind == 5) <;> cases b3 : (l.from_ == 0) <;> by_cases b5 : l.from_ > 0
        all_goals first
          | (exfalso; simp only [beq_iff_eq] at b3; omega)
          | (exfalso; simp only [beq_iff_eq] at b2 b4; omega)
          | skip
        all_goals simp -implicitDefEqProofs only [go_sem, b1, b2, b3, b4, b5, bne, Bool.not_true, Bool.not_false, Bool.and_true, Bool.and_false, Bool.true_and, Bool.false_and, Bool.false_eq_true, if_false, if_true, guardP_tf, guardP_ff, guardP_ft, guardP_tt, condJ_true, condJ_false]
        all_goals first
          | (refine WantM.intro hvo ?_
             generalize mHVouch w (mHeld w.disk) me l.from_ x.session ⟨x.size, x.root⟩ = T at *
             obtain ⟨dd, ww, rr, kk, ll, aa⟩ := T
             cases kk with
             | none => simp -implicitDefEqProofs only [go_sem]
             | some k => simp -implicitDefEqProofs only [go_sem])
          | (have hc0 : code = 0 := by simpa using b1
             refine WantM.intro (hgr hc0) ?_
             generalize mHGrowth w (mHeld w.disk) me x = T at *
             obtain ⟨dd, ww, rr, kk, ll, aa⟩ := T
             cases kk with
             | none => simp -implicitDefEqProofs only [go_sem]
             | some k => simp -implicitDefEqProofs only [go_sem])
          | (refine WantM.intro hcw ?_
             simp -implicitDefEqProofs only [go_sem])
          | trace_state
end Go.Proofs.YtjlhdfciklnndaaGreat.E
