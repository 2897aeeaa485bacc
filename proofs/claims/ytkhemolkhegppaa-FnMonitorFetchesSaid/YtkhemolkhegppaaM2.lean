/-
  The law of MonitorFetches.
-/
import Derived.Test.YtkhemolkhegppaaDA
import Derived.Test.YtkhemolkhegppaaM1
import Derived.Test.YtkhemolkhegppaaMP
namespace Go.Proofs.Ytkhemolkhegppaa.E
open Go Go.RowKit
set_option maxHeartbeats 4000000
set_option maxRecDepth 10000
set_option linter.unusedSimpArgs false
set_option linter.unusedVariables false
set_option linter.unusedSectionVars false
def dcM2 : Dec := ⟨[(26, .cm [false]), (29, .cn [false, false]), (30, .cn [false, false, false])], [9, 10, 11], [22, 28, 34, 35, 36, 42, 43, 48, 179, 193], false⟩

def roR (a : Int) (x : List ByteArray) : AV := .agg [.sc (.int .i64 8), .sc (.int .i64 0), vI a, .sc (.int .i64 0), .sc (.int .u64 0), .sc (.int .u64 0), .sc (.int .u64 0), .sc (.int .u64 0), .sc (.int .i64 0), .nilS, .ro 1 (x.map leafCs)]
attribute [go_sem] roR
theorem wbR (a : Int) (x : List ByteArray) (hl : x.length ≤ maxLen) : CallR Try.prog 12 [roR a x] (vS (mWireBytes (mRng a x))) [] := by
  refine (c12_c (mRng a x) (Nat.zero_le _) hl dig0_ok (fun d hd => by cases hd)).arg (fun rd vs h => pw_wkA ?_ h)
  exact .cons (.inl rfl) (.cons (.inl rfl) (.cons (.inl rfl) (.cons (.inl rfl) (.cons (.inl rfl) (.cons (.inl rfl) (.cons (.inl rfl) (.cons (.inl rfl) (.cons (.inl rfl) (.cons (.inr ⟨rfl, _, rfl⟩) (.cons (.inl rfl) .nil))))))))))
theorem c6_c (code : List UInt8) (hl : code.length ≤ maxLen) : CallR Try.prog 6 [.ro 1 (code.map byteC)] (vB true) [] := by
  refine use_of dcM2 false Try.f6 ?_
  conv => enter [1]; reduce
  refine jvR Try.f6 164 [.tmp 2] (by kernel_rfl) (by decide +kernel) rfl ?_
  simp -implicitDefEqProofs only [go_sem]
  refine condJ_intro (fun h => ?_) (fun h => ?_)
  · simp -implicitDefEqProofs only [go_sem, h]
  · simp -implicitDefEqProofs only [go_sem, h]
    obtain ⟨res, σ, ⟨l, ⟨rfl, rfl⟩, hll⟩, hcall⟩ := c26_c code hl
    refine WantM.intro hcall ?_
    simp -implicitDefEqProofs only [go_sem]
    refine Want.intro (c27_c l (by unfold maxLen; omega)) ?_
    cases a1 : mLeavesOk l with
    | false => simp -implicitDefEqProofs only [go_sem, Bool.not_false, guardP_tt, guardP_ff, guardP_tf, guardP_ft, condJ_true, condJ_false]
    | true =>
      by_cases g1 : (l.length : Int) < 1
      · simp -implicitDefEqProofs only [go_sem, g1, Bool.not_true, guardP_tt, guardP_ff, guardP_tf, guardP_ft, condJ_true, condJ_false]
      by_cases g2 : (l.length : Int) > 60
      · simp -implicitDefEqProofs only [go_sem, g1, g2, Bool.not_true, guardP_tt, guardP_ff, guardP_tf, guardP_ft, condJ_true, condJ_false]
      simp -implicitDefEqProofs only [go_sem, g1, g2, Bool.not_true, guardP_tt, guardP_ff, guardP_tf, guardP_ft, condJ_true, condJ_false]
      obtain ⟨v4, hv4, hc4⟩ := at_c code 4 hl (by omega)
      obtain ⟨v5, hv5, hc5⟩ := at_c code 5 hl (by omega)
      refine Want.intro hc4 ?_
      have hL : ¬ ((l.length : Int) = 0) := by omega
      have hL0 : 0 < l.length := by omega
      obtain ⟨n, hn⟩ : ∃ n : Nat, n = v4 % l.length + 1 := ⟨_, rfl⟩
      have hnl : n ≤ l.length := by have := Nat.mod_lt v4 hL0; omega
      have w1 : IntKind.i64.wrap ((IntKind.i64.wrap (v4 : Int)).tmod (l.length : Int) + 1) = (n : Int) := by
        have e0 : IntKind.i64.wrap (v4 : Int) = (v4 : Int) := wrS (by omega)
        rw [e0, Int.tmod_eq_emod_of_nonneg (by omega)]
        have := Int.emod_lt_of_pos (v4 : Int) (b := (l.length : Int)) (by omega)
        have := Int.emod_nonneg (v4 : Int) (b := (l.length : Int)) (by omega)
        rw [wrS (by omega), hn]
        simp
      have hnI : (n : Int) ≤ (l.length : Int) := by omega
      simp -implicitDefEqProofs only [go_sem, hL, w1, hnI, hnl, Nat.sub_zero]
      have hTP := c28_c (l.take n) (mLeavesOk_take a1 n)
      obtain ⟨D, hD⟩ : ∃ D, mRoot (l.take n) = D := ⟨_, rfl⟩
      have hn' : (l.take n).length = n := by rw [List.length_take]; omega
      rw [hD, hn'] at hTP
      refine Want.intro hTP ?_
      obtain ⟨p, hp⟩ : ∃ p : MPt, p = ⟨n, D.dig⟩ := ⟨_, rfl⟩
      have hps : p.size = n := by rw [hp]
      have hcs : (.agg (vI n :: D.cs) : AV) = .agg p.cs := by rw [hp]; rfl
      rw [hcs]
      have h5n : v5 % n < n := Nat.mod_lt _ (by omega)
      have w5 : IntKind.i64.wrap (v5 : Int) = (v5 : Int) := wrS (by omega)
      have w6 : (v5 : Int).tmod (n : Int) = ((v5 % n : Nat) : Int) := by rw [Int.tmod_eq_emod_of_nonneg (by omega)]; rfl
      have hn0 : ¬ ((n : Int) = 0) := by omega
      generalize hj0 : v5 % n = j0 at *
      simp -implicitDefEqProofs only [go_sem]
      refine jv_lpN [(10005, 1), (16005, 1)] (fun x s => ∃ i : Nat, i ≤ j0 ∧ x = j0 - i ∧ s = ⟨164, [(0, .ro 1 (code.map byteC)), (3, .blk 3 0 [] 1 0 l.length), (4, vI n), (5, .ptr 5 0 [] 21 0 0), (6, vI i)], [(3, 0, one ⟨1, l.map leafCs, 2, false⟩), (5, 0, one ⟨21, [(fM p (l.take i)).cs (.blk 10005 0 [] 1 0 0) (.blk 20005 0 [] 1 0 (l.take i).length)], 0, false⟩), (10005, 0, one ⟨1, [], 2, false⟩), (20005, 0, one ⟨1, (l.take i).map leafCs, 2, false⟩)], 1⟩) j0 ?_ ?_
      · simp -implicitDefEqProofs only [go_sem]
        exact ⟨0, Nat.zero_le _, rfl, rfl⟩
      · rintro x s ⟨i, hi, rfl, rfl⟩
        simp -implicitDefEqProofs only [go_sem]
        refine Want.intro hc5 ?_
        rcases Nat.lt_or_ge i j0 with hlt | hge
        · have hlt' : (i : Int) < (j0 : Int) := by omega
          have hil : i < l.length := by omega
          have hil' : (i : Int) < (l.length : Int) := by omega
          have hg : l[i]? = some l[i] := List.getElem?_eq_getElem hil
          have hw : IntKind.i64.wrap ((i : Int) + 1) = ((i + 1 : Nat) : Int) := by rw [wrS (by omega)]; omega
          have hil2 : (l.take i).length = i := by rw [List.length_take]; omega
          have ha : ∀ x, _ := fun x => app_ok (E := leafCs) (l := l.take i) (xs := [x]) (b := 16) (n := 10000) (by simp; omega) (by omega) (by omega)
          simp -implicitDefEqProofs only [go_sem, w5, w6, hn0, hlt', hil', hg, hw, ha]
          refine ⟨_, by omega, i + 1, hlt, rfl, ?_⟩
          rw [take_step hil]
          simp only [List.map_append, List.length_append, List.length_map, List.map_cons, List.map_nil, List.length_cons, List.length_nil, leafCs]
          rfl
        · have hij : i = j0 := by omega
          subst hij
          have hlt' : ¬ ((i : Int) < (i : Int)) := by omega
          have hil2 : (l.take i).length = i := by rw [List.length_take]; omega
          have w7 : IntKind.i64.wrap ((n : Int) - (i : Int)) = ((n - i : Nat) : Int) := by rw [wrS (by omega)]; omega
          simp -implicitDefEqProofs only [go_sem, w5, w6, hn0, hlt', hil2, w7]
          refine jv_lp (fun x s => ∃ (k j : Nat), i + k ≤ j ∧ j < n ∧ x = n - j ∧ s = ⟨164, [(3, .blk 3 0 [] 1 0 l.length), (4, vI n), (5, .ptr 5 0 [] 21 0 0), (7, vI ((n - i : Nat) : Int)), (8, vI k)], [(3, 0, one ⟨1, l.map leafCs, 2, false⟩), (5, 0, one ⟨21, [(fM p (l.take j)).cs (.blk 10005 0 [] 1 0 0) (.blk 20005 0 [] 1 0 (l.take j).length)], 0, false⟩), (10005, 0, one ⟨1, [], 2, false⟩), (20005, 0, one ⟨1, (l.take j).map leafCs, 2, false⟩)], 1⟩) (n - i) ?_ ?_
          · simp -implicitDefEqProofs only [go_sem]
            exact ⟨0, i, Nat.le_refl _, h5n, rfl, by rw [hil2]; rfl⟩
          · rintro x s ⟨k, j, hk, hj, rfl, rfl⟩
            have hk' : (k : Int) < ((n - i : Nat) : Int) := by omega
            have hjl : (l.take j).length = j := by rw [List.length_take]; omega
            have hT := c29_c (fM p (l.take j)) 3 (Nat.zero_le _) (by show (l.take j).length ≤ _; unfold maxLen; omega)
            rw [fM_tick (p := p) (x := l.take j) (by omega) (mLeavesOk_take a1 j) (by omega), hjl] at hT
            obtain ⟨c, hc⟩ : ∃ c : Nat, c = min (n - j) 8 := ⟨_, rfl⟩
            have hcI : min (p.size - (j : Int)) 8 = (c : Int) := by omega
            have hc8 : 1 ≤ c ∧ c ≤ 8 ∧ j + c ≤ n := by omega
            rw [hcI] at hT
            have hfz := fetch_sz (a := j) (c := c)
            have hfr := wb_read (fetch_ok (a := j) (c := c) (by omega) (by omega)) dig0_ok (fun d hd => by cases hd)
            have hR := c17_c (mWireBytes (mFetch j c)) (by omega)
            rw [hfr] at hR
            have hxl : ((l.drop j).take c).length = c := by rw [List.length_take, List.length_drop]; omega
            have hwr := wbR j ((l.drop j).take c) (by unfold maxLen; omega)
            have hH := c30_c (fM p (l.take j)) 3 ⟨0, 0, mWireBytes (mRng j ((l.drop j).take c))⟩ (Nat.zero_le _) (by show (l.take j).length ≤ _; unfold maxLen; omega)
            rw [fM_hear a1 hnl (hp.trans (by rw [hD])) (by omega) hc8.2.2] at hH
            generalize mWireBytes (mFetch j c) = F at *
            generalize mWireBytes (mRng j ((l.drop j).take c)) = R at *
            have f1 : (((1 : Nat) : Int) != 1) = false := rfl
            have f2 : (0 : Int) < ((1 : Nat) : Int) := by omega
            have f3 : ((0 : Int) != 0) = false := rfl
            have f4 : ((7 : Int) != 7) = false := rfl
            have f5 : (((j : Int)) != (j : Int)) = false := bne_self_eq_false _
            have w8 : IntKind.i64.wrap ((j : Int) + (c : Int)) = ((j + c : Nat) : Int) := by rw [wrS (by omega)]; omega
            have f6 : ¬ (((j + c : Nat) : Int) > (l.length : Int)) := by omega
            have f7 : 0 ≤ (j : Int) ∧ (j : Int) ≤ ((j + c : Nat) : Int) := by omega
            have f9 : j + c - j = c := by omega
            have f10 : j + c ≤ l.length := by omega
            have f8 : ((j + c : Nat) : Int) ≤ (l.length : Int) := by omega
            simp -implicitDefEqProofs only [go_sem, hk']
            refine WantM.intro hT ?_
            simp -implicitDefEqProofs only [go_sem, f1, f2, f3, guardP_tt, guardP_ff, guardP_tf, guardP_ft, condJ_true, condJ_false, Int.toNat_zero]
            refine Want.intro hR ?_
            have hml : (fM p (l.take j)).leaves.length = j := hjl
            simp -implicitDefEqProofs only [go_sem, mFetch, hml, hjl, f1, f2, f3, f4, f5, f6, f7, f8, f9, f10, w8, guardP_tt, guardP_ff, guardP_tf, guardP_ft, condJ_true, condJ_false, Int.toNat_zero]
            have hmt : List.take j (fM p (l.take j)).leaves = (fM p (l.take j)).leaves := List.take_of_length_le (by omega)
            have hmk : List.take j (l.take j) = l.take j := List.take_of_length_le (by omega)
            have g1 : ¬ (((0 : Nat) : Int) > 0) := by omega
            have g2 : (((0 : Nat) : Int) == 1) = false := rfl
            have g3 : (((1 : Nat) : Int) == 1) = true := rfl
            have wk : IntKind.i64.wrap ((k : Int) + 1) = ((k + 1 : Nat) : Int) := by rw [wrS (by omega)]; omega
            with_reducible refine And.intro ?_ ?_
            all_goals
              refine Want.intro hwr ?_
              simp -implicitDefEqProofs only [go_sem, hml, hjl, hmt, hmk]
              try with_reducible refine And.intro ?_ ?_
            all_goals
              refine WantM.intro hH ?_
              split
              · rename_i d
                simp -implicitDefEqProofs only [go_sem, g1, g2, guardP_tt, guardP_ff, guardP_tf, guardP_ft, condJ_true, condJ_false, wk]
                exact ⟨_, by omega, k + 1, j + c, by omega, d, rfl, rfl⟩
              · simp -implicitDefEqProofs only [go_sem, g1, g2, g3, guardP_tt, guardP_ff, guardP_tf, guardP_ft, condJ_true, condJ_false, Int.toNat_zero, f2, hnI, hnl, Nat.sub_zero]
                refine Want.intro hTP ?_
                rw [hcs]
                simp -implicitDefEqProofs only [go_sem, bne_self_eq_false, guardP_tt, guardP_ff, guardP_tf, guardP_ft, condJ_true, condJ_false, Int.toNat_zero, beq_self_eq_true, Bool.and_self, hn']
end Go.Proofs.Ytkhemolkhegppaa.E
