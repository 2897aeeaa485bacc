/-
  The law of ClientKept.
-/
import Derived.Test.YtkhemolkhegppaaF13
import Derived.Test.YtkhemolkhegppaaK1
namespace Go.Proofs.Ytkhemolkhegppaa.E
open Go Go.RowKit
set_option maxHeartbeats 4000000
set_option maxRecDepth 10000
set_option linter.unusedSimpArgs false
set_option linter.unusedVariables false
set_option linter.unusedSectionVars false
def dcK2 : Dec := ⟨[(11, .cn [false, false, false]), (14, .cm [false]), (15, .cn [false, false, false])], [9, 10, 11], [22, 28, 34, 35, 36, 42, 43, 48, 179, 193], false⟩

theorem zeroN : ((0 : Nat) : Int) = 0 := rfl
theorem mHear_bad {c : MCl} {me : Int} {l : MLet} (h : hearOk c me l = false) : mHear c me l = .zero := by
  unfold mHear
  rw [h]
  rfl
theorem c4_c (code : List UInt8) (hl : code.length ≤ maxLen) : CallR Try.prog 4 [.ro 1 (code.map byteC)] (vB true) [] := by
  refine use_of dcK2 false Try.f4 ?_
  conv => enter [1]; reduce
  refine jvR Try.f4 239 [.tmp 2] (by kernel_rfl) (by decide +kernel) rfl ?_
  simp -implicitDefEqProofs only [go_sem]
  refine condJ_intro (fun h => ?_) (fun h => ?_)
  · simp -implicitDefEqProofs only [go_sem, h]
  · simp -implicitDefEqProofs only [go_sem, h]
    obtain ⟨res, σ, ⟨c, me, l, ⟨rfl, rfl⟩, hd, hme⟩, hcall⟩ := c14_c code hl
    refine WantM.intro hcall ?_
    have hac := hd.l
    have hcx : c.acks.length ≤ maxLen := by unfold maxLen; omega
    have hI := c11_c c me l hcx
    have hS := c15_c c me l hcx
    have hC := c9_c c hcx
    have hL := c16_c l
    cases hok : hearOk c me l with
    | false =>
      rw [mHear_bad hok] at hI hS
      have n1 : MTold.zero.letters.length = 0 := rfl
      have n2 : MTold.zero.cl.many = 0 := rfl
      generalize MTold.zero = T at *
      simp -implicitDefEqProofs only [go_sem]
      refine WantM.intro hI ?_
      simp -implicitDefEqProofs only [go_sem]
      refine WantM.intro hS ?_
      simp -implicitDefEqProofs only [go_sem, bne_self_eq_false, guardP_tt, guardP_ff, guardP_tf, guardP_ft, condJ_true, condJ_false]
      refine Want.intro hC ?_
      cases a1 : mClOk c <;> cases a2 : mLetOk l <;> rcases hme with rfl | rfl
      all_goals simp -implicitDefEqProofs only [go_sem, bne_self_eq_false, Bool.not_true, Bool.not_false, guardP_tt, guardP_ff, guardP_tf, guardP_ft, condJ_true, condJ_false, n1, n2, zeroN, beq_self_eq_true]
      all_goals first
        | done
        | (refine Want.intro hL ?_; rw [a2]; simp -implicitDefEqProofs only [go_sem, bne_self_eq_false, Bool.not_true, Bool.not_false, guardP_tt, guardP_ff, guardP_tf, guardP_ft, condJ_true, condJ_false, n1, n2, zeroN, beq_self_eq_true]; done)
        | (exfalso; rw [hearOk, a1, a2] at hok; exact absurd hok (by decide))
        | trace_state
    | true =>
      have hK := kept_hear hok
      have a1 : mClOk c = true := by simp only [hearOk, Bool.and_eq_true] at hok; exact hok.1
      have a2 : mLetOk l = true := by simp only [hearOk, Bool.and_eq_true] at hok; exact hok.2.2
      have a3 : me = 9 := by
        rcases hme with rfl | rfl
        · rw [hearOk, a1, a2] at hok; exact absurd hok (by decide)
        · rfl
      subst a3
      generalize mHear c 9 l = T at *
      have b1 := hK.ok
      have hTC := c9_c T.cl (by have := (clOk_many b1).2; unfold maxLen; omega)
      have b2 : ¬ (T.cl.pin.size < c.pin.size) := by have := hK.pin; omega
      have b4 : (T.cl.session != c.session) = false := by rw [hK.s]; exact bne_self_eq_false _
      have b3 : ¬ ((T.acc.length : Int) > 1) := by
        rcases hK.acc with h | h <;> rw [h.1] <;> simp
      simp -implicitDefEqProofs only [go_sem]
      refine WantM.intro hI ?_
      simp -implicitDefEqProofs only [go_sem]
      refine WantM.intro hS ?_
      simp -implicitDefEqProofs only [go_sem, bne_self_eq_false, guardP_tt, guardP_ff, guardP_tf, guardP_ft, condJ_true, condJ_false]
      refine Want.intro hC ?_
      simp -implicitDefEqProofs only [go_sem, a1, Bool.not_true, Bool.not_false, guardP_tt, guardP_ff, guardP_tf, guardP_ft, condJ_true, condJ_false]
      refine Want.intro hL ?_
      simp -implicitDefEqProofs only [go_sem, a2, bne_self_eq_false, Bool.not_true, Bool.not_false, guardP_tt, guardP_ff, guardP_tf, guardP_ft, condJ_true, condJ_false]
      refine Want.intro hTC ?_
      simp -implicitDefEqProofs only [go_sem, b1, b2, b3, b4, Bool.not_true, Bool.not_false, guardP_tt, guardP_ff, guardP_tf, guardP_ft, condJ_true, condJ_false]
      have hlt : ∀ i, i < T.letters.length → T.letters[i]? = some ⟨9, (i : Int) + 1, mWireBytes (mVouch c T.cl.goal)⟩ ∧ CallR Try.prog 17 [vS (mWireBytes (mVouch c T.cl.goal))] (.tup [(mVouch c T.cl.goal).av [0], .agg [vI 0, vI 0]]) ((mVouch c T.cl.goal).rf [0]) := by
        intro i hi
        rcases hK.let_ with h | ⟨h, hs, hz, hr⟩
        · rw [h] at hi; cases hi
        · have hv := vouch_read hs hz hr
          have hsz : (mWireBytes (mVouch c T.cl.goal)).size ≤ 1000000000000 := by
            unfold mWireBytes
            split
            · rw [bA_size]
              simp [wbL, mVouch, bK, bS, bZ, low_len, bl_len]
            · exact Nat.zero_le _
          have hR := c17_c _ hsz
          rw [hv] at hR
          refine ⟨?_, hR⟩
          rw [h] at hi
          simp only [List.length_map, List.length_range] at hi
          conv => lhs; rw [h]
          rw [List.getElem?_map, List.getElem?_range hi]
          rfl
      have hbig : T.letters.length ≤ 100 := by
        have := (clOk_many a1).1
        rcases hK.let_ with h | ⟨h, _⟩
        · rw [h]; exact Nat.zero_le _
        · rw [h]; simp; omega
      have hend : ((T.letters.length : Int) == 0) = true ∨ (((T.letters.length : Int) == 0) = false ∧ ((T.letters.length : Int) == c.many) = true) := by
        have hm := (clOk_p a1).m
        rcases hK.let_ with h | ⟨h, _⟩
        · rw [h]; exact .inl rfl
        · right
          have : (T.letters.length : Int) = c.many := by rw [h]; simp; omega
          rw [this, beq_self_eq_true, beq_eq_false_iff_ne]
          exact ⟨by omega, rfl⟩
      rcases hK.acc with ⟨h1, h2⟩ | ⟨h1, h2, h3, h4⟩
      case' inl =>
        have f1 : ((T.acc.length : Int) == 1) = false := by rw [h1]; rfl
        have f2 : ((T.acc.length : Int) == 0) = true := by rw [h1]; rfl
        simp -implicitDefEqProofs only [go_sem, f1, f2, h2, bne_self_eq_false, beq_self_eq_true, Bool.and_self, Bool.not_true, Bool.not_false, guardP_tt, guardP_ff, guardP_tf, guardP_ft, condJ_true, condJ_false]
      case' inr =>
        have f1 : ((T.acc.length : Int) == 1) = true := by rw [h1]; rfl
        have f2 : ((T.acc.length : Int) == 0) = false := by rw [h1]; rfl
        have f3 : T.acc[0]? = some c.goal := by rw [h1]; rfl
        have f4 : (0 : Int) < (T.acc.length : Int) := by rw [h1]; simp
        have f5 : ¬ (c.goal.size ≤ c.pin.size) := by omega
        have f6 : IntKind.i64.wrap ((c.acks.length : Int) + 1) = c.need := by rw [wrS (by omega)]; exact h4
        simp -implicitDefEqProofs only [go_sem, f1, f2, f3, f4, f5, f6, h2, bne_self_eq_false, beq_self_eq_true, Bool.and_self, Bool.not_true, Bool.not_false, guardP_tt, guardP_ff, guardP_tf, guardP_ft, condJ_true, condJ_false, Int.toNat_zero]
      all_goals
        refine jv_lp (fun x s => ∃ (i : Nat) (P : MPt), i ≤ T.letters.length ∧ x = T.letters.length - i ∧ s = ⟨239, [(3, .ptr 3 0 [] 15 0 0), (4, vI 9), (6, .ptr 6 0 [] 18 0 0), (8, vI i)], [(3, 0, one ⟨15, [c.cs (.blk 10003 0 [] 1 0 c.acks.length)], 0, false⟩), (10003, 0, one c.ar), (6, 0, one ⟨18, [MTold.cs ⟨{ T.cl with pin := P }, T.letters, T.alarms, T.acc⟩ (.blk 10006 0 [] 1 0 T.cl.acks.length) (.blk 20006 0 [] 3 0 T.letters.length) (.blk 30006 0 [] 13 0 T.alarms.length) (.blk 40006 0 [] 5 0 T.acc.length)], 0, false⟩), (10006, 0, one T.cl.ar), (20006, 0, one T.lr), (30006, 0, one T.xr), (40006, 0, one T.pr)], 1⟩) T.letters.length ?_ ?_
        · simp -implicitDefEqProofs only [go_sem]
          exact ⟨0, _, Nat.zero_le _, rfl, rfl⟩
        · rintro x s ⟨i, P, hi, rfl, rfl⟩
          rcases Nat.lt_or_ge i T.letters.length with hltt | hge
          · have hlt' : (i : Int) < (T.letters.length : Int) := by omega
            obtain ⟨hg, hR⟩ := hlt i hltt
            have w1 : IntKind.i64.wrap ((i : Int) + 1) = (i : Int) + 1 := wrS (by omega)
            simp -implicitDefEqProofs only [go_sem, hlt', hg]
            refine Want.intro hR ?_
            simp -implicitDefEqProofs only [go_sem, mVouch, hlt', hg, w1, bne_self_eq_false, Bool.not_true, Bool.not_false, guardP_tt, guardP_ff, guardP_tf, guardP_ft, condJ_true, condJ_false, beq_self_eq_true, Bool.and_self]
            exact ⟨_, by omega, i + 1, P, hltt, rfl, rfl⟩
          · have hi : i = T.letters.length := by omega
            subst hi
            have hlt' : ¬ ((T.letters.length : Int) < (T.letters.length : Int)) := by omega
            rcases hend with e1 | ⟨e1, e2⟩
            · simp -implicitDefEqProofs only [go_sem, hlt', e1, guardP_tt, guardP_ff, guardP_tf, guardP_ft]
            · simp -implicitDefEqProofs only [go_sem, hlt', e1, e2, guardP_tt, guardP_ff, guardP_tf, guardP_ft]
end Go.Proofs.Ytkhemolkhegppaa.E
