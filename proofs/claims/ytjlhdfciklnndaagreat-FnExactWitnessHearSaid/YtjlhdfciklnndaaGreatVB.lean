/-
  Contracts: what comes of a letter to a witness.
-/
import Derived.Test.YtjlhdfciklnndaaGreatV8
namespace Go.Proofs.YtjlhdfciklnndaaGreat.E
open Go Go.RowKit
set_option maxHeartbeats 4000000
set_option maxRecDepth 10000
set_option linter.unusedSimpArgs false
set_option linter.unusedVariables false
set_option linter.unusedSectionVars false
def dcVB : Dec := ⟨[(27, .cm [false]), (139, .cm [true, false, false, false, false]), (140, .cm [true, false, false, false])], [9, 10, 11], [27, 30, 44, 45, 46, 58, 68, 78, 79, 86, 101, 112, 113, 132, 174, 196, 247, 249, 351, 356], false⟩

theorem c47_c (w : MWit) (me : Int) (l : MLet) (hd : w.disk.ok) (hl : w.wishes.length ≤ maxLen) : CallM Tryz.prog 47 [(1000000, 0, one ⟨7, w.wishes.map MWish.cs, 2, false⟩)] [.agg (w.cs (.blk 1000000 0 [] 7 0 w.wishes.length)), vI me, .agg l.cs] (mWHear w me l).av ((1000000, 0, one ⟨7, w.wishes.map MWish.cs, 2, false⟩) :: (mWHear w me l).out) := by
  refine use_of dcVB false Tryz.f47 ?_
  conv => enter [1]; reduce
  refine jvM Tryz.f47 87 [.cell 6 115] (by kernel_rfl) (by decide +kernel) rfl ?_
  unfold mWHear
  simp -implicitDefEqProofs only [go_sem]
  refine Want.intro (c137_c w hd hl) ?_
  cases a1 : mWitOk w with
  | false =>
    simp -implicitDefEqProofs only [go_sem, a1, Bool.not_false, Bool.false_and, Bool.false_eq_true, guardP_tf, guardP_ff, guardP_ft, guardP_tt, condJ_true, condJ_false]
    first | done | rfl | exact ⟨rfl, rfl⟩
  | true =>
    have hw8 := witOk_len a1
    simp -implicitDefEqProofs only [go_sem, a1, Bool.not_true, guardP_tf, guardP_ff, guardP_ft, guardP_tt, condJ_true, condJ_false]
    refine Want.intro (c29_c l) ?_
    cases a2 : mLetOk l with
    | false =>
      simp -implicitDefEqProofs only [go_sem, Bool.not_false, Bool.and_false, Bool.false_and, Bool.false_eq_true, guardP_tf, guardP_ff, guardP_ft, guardP_tt, condJ_true, condJ_false]
      first | done | rfl | exact ⟨rfl, rfl⟩
    | true =>
      have hsz : l.text.size ≤ 600 := by
        simp only [mLetOk, Bool.and_eq_true, decide_eq_true_eq] at a2
        omega
      cases a3 : mIn me 1 20 with
      | false =>
        by_cases n1 : me < 1
        · simp -implicitDefEqProofs only [go_sem, n1, Bool.not_true, Bool.and_self, Bool.and_true, Bool.and_false, Bool.false_eq_true, guardP_tf, guardP_ff, guardP_ft, guardP_tt, condJ_true, condJ_false]
          first | done | rfl | exact ⟨rfl, rfl⟩
        · have n2 : me > 20 := by
            have : ¬ (1 ≤ me ∧ me ≤ 20) := fun h => by rw [mIn_iff.2 h] at a3; cases a3
            omega
          simp -implicitDefEqProofs only [go_sem, n1, n2, Bool.not_true, Bool.and_self, Bool.and_true, Bool.and_false, Bool.false_eq_true, guardP_tf, guardP_ff, guardP_ft, guardP_tt, condJ_true, condJ_false]
          first | done | rfl | exact ⟨rfl, rfl⟩
      | true =>
        have k3 := mIn_iff.1 a3
        have n1 : ¬ (me < 1) := by omega
        have n2 : ¬ (me > 20) := by omega
        have hcw := c138_c w.wishes (by omega)
        have hwr := c27_c l.text (by omega)
        have hwh := c49_c w.disk hd
        have hwl := mWire_len l.text
        have hwi := wire_inv l.text
        generalize hW : mWireRead l.text = W at *
        obtain ⟨x, code, at_⟩ := W
        simp only at hwl hwi
        have hvo := c139_c w (mHeld w.disk) me l.from_ x hw8
        have hvs := vouch_small w (mHeld w.disk) me l.from_ x.session ⟨x.size, x.root⟩
        have hgs := growth_small w (mHeld w.disk) me x hw8
        have hgr := fun (hc : code = 0) => c140_c w (mHeld w.disk) me x hw8 hd (hwi hc).2.2.1 hwl.1
        generalize mHeld w.disk = held at *
        simp -implicitDefEqProofs only [go_sem, n1, n2, Bool.not_true, Bool.and_self, if_true, guardP_tf, guardP_ff, guardP_ft, guardP_tt, condJ_true, condJ_false]
        with_reducible refine And.intro ?_ ?_
        all_goals
          refine Want.intro hcw ?_
          simp -implicitDefEqProofs only [go_sem]
          refine WantM.intro hwr ?_
          simp -implicitDefEqProofs only [go_sem]
          refine Want.intro hwh ?_
          cases b1 : (code == 0) <;> cases b2 : (x.kind == 3) <;> cases b4 : (x.kind == 5) <;> cases b3 : (l.from_ == 0) <;> by_cases b5 : l.from_ > 0
          all_goals first
            | (exfalso; simp only [beq_iff_eq] at b3; omega)
            | (exfalso; simp only [beq_iff_eq] at b2 b4; omega)
            | skip
          all_goals simp -implicitDefEqProofs only [go_sem, b1, b2, b3, b4, b5, bne, Bool.not_true, Bool.not_false, Bool.and_true, Bool.and_false, Bool.true_and, Bool.false_and, Bool.false_eq_true, if_false, if_true, guardP_tf, guardP_ff, guardP_ft, guardP_tt, condJ_true, condJ_false]
          all_goals first
            | (refine WantM.intro hvo ?_
               generalize mHVouch w held me l.from_ x.session ⟨x.size, x.root⟩ = T at *
               obtain ⟨dd, ww, rr, kk, ll, aa⟩ := T
               simp only at hvs
               cases kk with
               | none =>
                 simp -implicitDefEqProofs only [go_sem]
                 refine Want.intro (c141_c ll (by omega)) ?_
                 simp -implicitDefEqProofs only [go_sem]
                 refine Want.intro (c142_c aa (by omega)) ?_
                 simp -implicitDefEqProofs only [go_sem]
               | some k =>
                 simp -implicitDefEqProofs only [go_sem]
                 refine Want.intro (c141_c ll (by omega)) ?_
                 simp -implicitDefEqProofs only [go_sem]
                 refine Want.intro (c142_c aa (by omega)) ?_
                 simp -implicitDefEqProofs only [go_sem])
            | (have hc0 : code = 0 := by simpa using b1
               refine WantM.intro (hgr hc0) ?_
               generalize mHGrowth w held me x = T at *
               obtain ⟨dd, ww, rr, kk, ll, aa⟩ := T
               simp only at hgs
               cases kk with
               | none =>
                 simp -implicitDefEqProofs only [go_sem]
                 refine Want.intro (c141_c ll (by omega)) ?_
                 simp -implicitDefEqProofs only [go_sem]
                 refine Want.intro (c142_c aa (by omega)) ?_
                 simp -implicitDefEqProofs only [go_sem]
               | some k =>
                 simp -implicitDefEqProofs only [go_sem]
                 refine Want.intro (c141_c ll (by omega)) ?_
                 simp -implicitDefEqProofs only [go_sem]
                 refine Want.intro (c142_c aa (by omega)) ?_
                 simp -implicitDefEqProofs only [go_sem])
            | (refine Want.intro copLN ?_
               simp -implicitDefEqProofs only [go_sem]
               refine Want.intro copAN ?_
               simp -implicitDefEqProofs only [go_sem])
end Go.Proofs.YtjlhdfciklnndaaGreat.E
