/-
  The law of MonitorTop.
-/
import Derived.Test.YtkhemolkhegppaaGreatJ8
import Derived.Test.YtkhemolkhegppaaGreatMT
namespace Go.Proofs.YtkhemolkhegppaaGreat.E
open Go Go.RowKit
set_option maxHeartbeats 4000000
set_option maxRecDepth 10000
set_option linter.unusedSimpArgs false
set_option linter.unusedVariables false
set_option linter.unusedSectionVars false
def dcM3 : Dec := ⟨[(15, .cm [false]), (16, .cn [false, false, false]), (17, .cn [false, false, false])], [9, 10, 11], [22, 26, 38, 50, 57, 58, 59, 93, 207], false⟩

theorem c20_c (l : List ByteArray) (h : mLeavesOk l = true) : CallR Tryz.prog 20 [.ro 1 (l.map leafCs)] (.agg (mRoot l).cs) [] := by
  refine use_of dcM3 false Tryz.f20 ?_
  conv => enter [1]; reduce
  refine jvR Tryz.f20 9 [.cell 2 37] (by kernel_rfl) (by decide +kernel) rfl ?_
  have hl := (mLeavesOk_of h).1
  simp -implicitDefEqProofs only [go_sem]
  refine Want.intro (c69_c l (by unfold maxLen; omega)) ?_
  simp -implicitDefEqProofs only [go_sem, h, Bool.not_true, condJ_false]
  refine Want.intro (c71_c l h) ?_
  simp -implicitDefEqProofs only [go_sem]
theorem byNe_self' (b : ByteArray) : (b.toList != b.toList) = false := by simp
theorem mMHear_bad {m : MMon} {me : Int} {l : MLet} (h : (mMonOk m && (mIn me 1 20 && mLetOk l)) = false) : mMHear m me l = .zero := by
  unfold mMHear
  rw [h]
  rfl
theorem c4_c (code : List UInt8) (hl : code.length ≤ maxLen) : CallR Tryz.prog 4 [.ro 1 (code.map byteC)] (vB true) [] := by
  refine use_of dcM3 false Tryz.f4 ?_
  conv => enter [1]; reduce
  refine jvR Tryz.f4 184 [.tmp 2] (by kernel_rfl) (by decide +kernel) rfl ?_
  simp -implicitDefEqProofs only [go_sem]
  refine condJ_intro (fun h => ?_) (fun h => ?_)
  · simp -implicitDefEqProofs only [go_sem, h]
  · simp -implicitDefEqProofs only [go_sem, h]
    obtain ⟨res, σ, ⟨m, me, l, ⟨rfl, rfl⟩, hd, hme⟩, hcall⟩ := c15_c code hl
    refine WantM.intro hcall ?_
    have hac := hd.a
    have hml := hd.l
    have hcx : m.cl.acks.length ≤ maxLen := by unfold maxLen; omega
    have hlx : m.leaves.length ≤ maxLen := by unfold maxLen; omega
    have hI := c16_c m me l hcx hlx
    have hS := c17_c m me l hcx hlx
    have hC := c18_c m hcx hlx
    have hL := c19_c l
    have zN : ((0 : Nat) : Int) = 0 := rfl
    cases hok : (mMonOk m && (mIn me 1 20 && mLetOk l)) with
    | false =>
      rw [mMHear_bad hok] at hI hS
      have n1 : MWat.zero.letters.length = 0 := rfl
      have n2 : MWat.zero.mon.cl.many = 0 := rfl
      generalize MWat.zero = T at *
      simp -implicitDefEqProofs only [go_sem]
      refine WantM.intro hI ?_
      simp -implicitDefEqProofs only [go_sem]
      refine WantM.intro hS ?_
      simp -implicitDefEqProofs only [go_sem, bne_self_eq_false, guardP_tt, guardP_ff, guardP_tf, guardP_ft, condJ_true, condJ_false]
      refine Want.intro hC ?_
      cases a1 : mMonOk m <;> cases a2 : mLetOk l <;> rcases hme with rfl | rfl
      all_goals simp -implicitDefEqProofs only [go_sem, bne_self_eq_false, Bool.not_true, Bool.not_false, guardP_tt, guardP_ff, guardP_tf, guardP_ft, condJ_true, condJ_false, n1, n2, zN, beq_self_eq_true]
      all_goals first
        | done
        | (refine Want.intro hL ?_; rw [a2]; simp -implicitDefEqProofs only [go_sem, bne_self_eq_false, Bool.not_true, Bool.not_false, guardP_tt, guardP_ff, guardP_tf, guardP_ft, condJ_true, condJ_false, n1, n2, zN, beq_self_eq_true]; done)
        | (exfalso; rw [a1, a2] at hok; exact absurd hok (by decide))
        | trace_state
    | true =>
      have a1 : mMonOk m = true := by simp only [Bool.and_eq_true] at hok; exact hok.1
      have a2 : mLetOk l = true := by simp only [Bool.and_eq_true] at hok; exact hok.2.2
      have a3 : me = 9 := by
        rcases hme with rfl | rfl
        · rw [a1, a2] at hok; exact absurd hok (by decide)
        · rfl
      subst a3
      have hK := mkept_hear a1 a2
      generalize mMHear m 9 l = T at *
      have b1 := hK.ok.mk'
      have hTr := (monOk_r b1).1
      have hTl := (mLeavesOk_of hTr.l).1
      have hTC := c18_c T.mon (by have := hTr.a; unfold maxLen; omega) (by unfold maxLen; omega)
      have b2 : ¬ ((T.mon.leaves.length : Int) > T.mon.cl.pin.size) := by have := hK.ok.le; omega
      have b3 : ¬ (T.mon.done.size < m.done.size) := by have := hK.done; omega
      have b4 : ¬ (T.mon.cl.pin.size < m.cl.pin.size) := by have := hK.pin; omega
      simp -implicitDefEqProofs only [go_sem]
      refine WantM.intro hI ?_
      simp -implicitDefEqProofs only [go_sem]
      refine WantM.intro hS ?_
      simp -implicitDefEqProofs only [go_sem, bne_self_eq_false, guardP_tt, guardP_ff, guardP_tf, guardP_ft, condJ_true, condJ_false]
      refine Want.intro hC ?_
      simp -implicitDefEqProofs only [go_sem, a1, Bool.not_true, Bool.not_false, guardP_tt, guardP_ff, guardP_tf, guardP_ft, condJ_true, condJ_false]
      refine Want.intro hL ?_
      simp -implicitDefEqProofs only [go_sem, a2, bne_self_eq_false, Bool.not_true, Bool.not_false, guardP_tt, guardP_ff, guardP_tf, guardP_ft, condJ_true, condJ_false]
      refine Want.intro hTC ?_
      simp -implicitDefEqProofs only [go_sem, b1, b2, b3, b4, Bool.not_true, Bool.not_false, guardP_tt, guardP_ff, guardP_tf, guardP_ft, condJ_true, condJ_false]
      have hln := hK.len
      have hd0 : 0 ≤ m.done.size := (MOk.of a1).d.1
      have hsame : ∀ i : Nat, (i : Int) < m.done.size → T.mon.leaves[i]? = m.leaves[i]? := by
        intro i hi
        have h1 := congrArg (fun X => X[i]?) hK.same
        simp only [List.getElem?_take] at h1
        rw [if_pos (by omega), if_pos (by omega)] at h1
        exact h1
      have hTR := c20_c T.mon.leaves hTr.l
      refine jv_lp (fun x s => ∃ i : Nat, (i : Int) ≤ m.done.size ∧ x = m.done.size.toNat - i ∧ s = ⟨184, [(3, .ptr 3 0 [] 21 0 0), (6, .ptr 6 0 [] 25 0 0), (8, .ptr 8 0 [] 21 0 0), (9, vI i)], [(3, 0, one ⟨21, [m.cs (.blk 10003 0 [] 1 0 m.cl.acks.length) (.blk 20003 0 [] 1 0 m.leaves.length)], 0, false⟩), (10003, 0, one m.cl.ar), (20003, 0, one m.lr), (6, 0, one ⟨25, [T.cs (.blk 10006 0 [] 1 0 T.mon.cl.acks.length) (.blk 20006 0 [] 1 0 T.mon.leaves.length) (.blk 30006 0 [] 3 0 T.letters.length) (.blk 40006 0 [] 13 0 T.alarms.length) (.blk 50006 0 [] 5 0 T.acc.length) (.blk 60006 0 [] 5 0 T.cov.length)], 0, false⟩), (10006, 0, one T.mon.cl.ar), (20006, 0, one T.mon.lr), (30006, 0, one ⟨3, T.letters.map MLet.cs, 2, false⟩), (40006, 0, one ⟨13, T.alarms.map MAl.cs, 2, false⟩), (50006, 0, one ⟨5, T.acc.map MPt.cs, 2, false⟩), (60006, 0, one ⟨5, T.cov.map MPt.cs, 2, false⟩), (8, 0, one ⟨21, [T.mon.cs (.blk 10006 0 [] 1 0 T.mon.cl.acks.length) (.blk 20006 0 [] 1 0 T.mon.leaves.length)], 0, false⟩)], 1⟩) m.done.size.toNat ?_ ?_
      · simp -implicitDefEqProofs only [go_sem]
        exact ⟨0, hd0, rfl, rfl⟩
      · rintro x s ⟨i, hi, rfl, rfl⟩
        by_cases hlt : (i : Int) < m.done.size
        · have k1 : (i : Int) < (T.mon.leaves.length : Int) := by omega
          have k2 : (i : Int) < (m.leaves.length : Int) := by omega
          have k4 : i < m.leaves.length := by omega
          have hg2 : m.leaves[i]? = some m.leaves[i] := List.getElem?_eq_getElem k4
          have hg1 : T.mon.leaves[i]? = some m.leaves[i] := (hsame i hlt).trans hg2
          have hw : IntKind.i64.wrap ((i : Int) + 1) = ((i + 1 : Nat) : Int) := by rw [wrS (by omega)]; omega
          simp -implicitDefEqProofs only [go_sem, hlt, k1, k2, hg1, hg2, hw, bne_self_eq_false, byNe_self', guardP_tt, guardP_ff, guardP_tf, guardP_ft, condJ_true, condJ_false]
          exact ⟨_, by omega, i + 1, by omega, rfl, rfl⟩
        · rcases hK.cov with ⟨h1, h2⟩ | ⟨h1, h2, h3, h4⟩
          · have f2 : ((T.cov.length : Int) == 0) = true := by rw [h1]; rfl
            simp -implicitDefEqProofs only [go_sem, hlt, f2, h2, bne_self_eq_false, beq_self_eq_true, Bool.and_self, Bool.not_true, Bool.not_false, guardP_tt, guardP_ff, guardP_tf, guardP_ft, condJ_true, condJ_false]
          · have f1 : ((T.cov.length : Int) == 1) = true := by rw [h1]; rfl
            have f2 : ((T.cov.length : Int) == 0) = false := by rw [h1]; rfl
            have f3 : T.cov[0]? = some T.mon.cl.pin := by rw [h1]; rfl
            have f5 : (T.mon.cl.pin.size == (T.mon.leaves.length : Int)) = true := by rw [h3]; exact beq_self_eq_true _
            have f4 : (0 : Int) < (T.cov.length : Int) := by rw [h1]; simp
            simp -implicitDefEqProofs only [go_sem, hlt, f1, f2, f3, f4, h2, bne_self_eq_false, beq_self_eq_true, Bool.and_self, Bool.not_true, Bool.not_false, guardP_tt, guardP_ff, guardP_tf, guardP_ft, condJ_true, condJ_false, Int.toNat_zero, f5]
            rw [← BD.dig_cs, h4] at hTR
            refine Want.intro hTR ?_
            simp -implicitDefEqProofs only [go_sem, bne_self_eq_false, beq_self_eq_true, Bool.and_self, Bool.not_true, Bool.not_false, guardP_tt, guardP_ff, guardP_tf, guardP_ft, condJ_true, condJ_false]
end Go.Proofs.YtkhemolkhegppaaGreat.E
