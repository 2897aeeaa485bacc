/-
  Contracts: how many peaks, how long a growth's proof is, in the reference.
-/
import Derived.Test.YtjlhdfciklnndaaGreatG2
namespace Go.Proofs.YtjlhdfciklnndaaGreat.E
open Go Go.RowKit
set_option maxHeartbeats 4000000
set_option maxRecDepth 10000
set_option linter.unusedSimpArgs false
set_option linter.unusedVariables false
set_option linter.unusedSectionVars false
def dcGP : Dec := ⟨[], [9, 10, 11], [27, 30, 44, 45, 46, 58, 68, 78, 79, 86, 101, 112, 113, 132, 174, 196, 247, 249, 351, 356], false⟩

theorem popc_le : ∀ k n, popc k n ≤ k
  | 0, n => Nat.le_refl _
  | k + 1, n => by
    have := popc_le k (n / 2)
    rw [popc]
    omega
theorem c99_c (n : Nat) (h : n ≤ 256) : CallR Tryz.prog 99 [vI n] (vI (popc 9 n)) [] := by
  refine use_of dcGP false Tryz.f99 ?_
  conv => enter [1]; reduce
  refine jvR Tryz.f99 16 [.tmp 2] (by kernel_rfl) (by decide +kernel) rfl ?_
  simp -implicitDefEqProofs only [go_sem]
  refine Want.intro (c143_c _ _ _) ?_
  have hin : mIn (n : Int) 0 256 = true := mIn_iff.2 (by omega)
  simp -implicitDefEqProofs only [go_sem, hin, Bool.not_true, condJ_false]
  refine jv_lp (fun m s => ∃ c k : Nat, m < 2 ^ k ∧ k ≤ 9 ∧ c + popc k m = popc 9 n ∧ s = ⟨16, [(0, vI m), (3, vI c)], [], 1⟩) n ?_ ?_
  · simp -implicitDefEqProofs only [go_sem]
    exact ⟨0, 9, by omega, by omega, by omega, rfl⟩
  · rintro m s ⟨c, k, hm, hk, hc, rfl⟩
    have h9 := popc_le 9 n
    rcases Nat.eq_zero_or_pos m with h0 | h0
    · subst h0
      have h0' : ¬ ((0 : Nat) : Int) > 0 := by omega
      rw [popc_zero] at hc
      simp -implicitDefEqProofs only [go_sem, h0']
      rw [← hc]
      rfl
    · have h0' : (m : Int) > 0 := by omega
      cases k with
      | zero => simp at hm; omega
      | succ k =>
        rw [popc] at hc
        rw [Nat.pow_succ] at hm
        have t1 : (m : Int).tmod 2 = ((m % 2 : Nat) : Int) := by rw [Int.tmod_eq_emod_of_nonneg (by omega)]; omega
        have t2 : (m : Int).tdiv 2 = ((m / 2 : Nat) : Int) := by rw [Int.tdiv_eq_ediv_of_nonneg (by omega)]; omega
        have hb : m / 2 ≤ 2 ^ 9 := by
          have : 2 ^ k ≤ 2 ^ 9 := Nat.pow_le_pow_right (by omega) (by omega)
          omega
        have hb2 : m / 2 ≤ 1000 := by simpa using Nat.le_trans hb (by decide : 2 ^ 9 ≤ 1000)
        have w1 : IntKind.i64.wrap ((m % 2 : Nat) : Int) = ((m % 2 : Nat) : Int) := wrS (by omega)
        have w2 : IntKind.i64.wrap ((c : Int) + ((m % 2 : Nat) : Int)) = ((c + m % 2 : Nat) : Int) := by rw [wrS (by omega)]; omega
        have w3 : IntKind.i64.wrap ((m / 2 : Nat) : Int) = ((m / 2 : Nat) : Int) := wrS (by omega)
        simp -implicitDefEqProofs only [go_sem, h0', t1, t2, w1, w2, w3]
        exact ⟨m / 2, by omega, c + m % 2, k, by omega, by omega, by omega, rfl⟩
/-- How many new nodes of a run begin ahead of a leaf. -/
def nRest (m k lo hi at_ : Nat) : Nat := ((gN m k lo hi).2.filter fun x => decide (x.1 < at_)).length
theorem nRest_le {m k lo hi at_ : Nat} (h : lo < hi) (hk : hi - lo ≤ k) : nRest m k lo hi at_ ≤ hi - lo := Nat.le_trans (List.length_filter_le _ _) (gN_len k lo hi h hk).2
theorem c100_c (m at_ : Nat) : ∀ (k lo hi : Nat), lo < hi → hi ≤ 256 → hi - lo ≤ k → CallR Tryz.prog 100 [vI lo, vI hi, vI m, vI at_] (vI (nRest m k lo hi at_)) []
  | 0, lo, hi, h, h2, hk => by omega
  | k + 1, lo, hi, h, h2, hk => by
    refine use_of dcGP false Tryz.f100 ?_
    conv => enter [1]; reduce
    refine jvR Tryz.f100 38 [.tmp 8] (by kernel_rfl) (by decide +kernel) rfl ?_
    by_cases c1 : hi ≤ m
    · have c1' : (hi : Int) ≤ (m : Int) := by omega
      have e : nRest m (k + 1) lo hi at_ = 0 := by unfold nRest; rw [gN_old c1]; rfl
      rw [e]
      simp -implicitDefEqProofs only [go_sem, c1', guardP_tf, guardP_ff, guardP_ft, guardP_tt, condJ_true, condJ_false]
      try rfl
    · have c1' : ¬ (hi : Int) ≤ (m : Int) := by omega
      by_cases c0 : at_ ≤ lo
      · have c0' : (lo : Int) ≥ (at_ : Int) := by omega
        have e : nRest m (k + 1) lo hi at_ = 0 := by
          unfold nRest
          rw [List.length_eq_zero_iff, List.filter_eq_nil_iff]
          intro x hx
          have := gN_in (m := m) (k + 1) lo hi h hk x (.inr hx)
          simp
          omega
        rw [e]
        simp -implicitDefEqProofs only [go_sem, c1', c0', guardP_tf, guardP_ff, guardP_ft, guardP_tt, condJ_true, condJ_false]
        try rfl
      · have c0' : ¬ (lo : Int) ≥ (at_ : Int) := by omega
        by_cases c2 : m ≤ lo
        · have c2' : (lo : Int) ≥ (m : Int) := by omega
          have e : nRest m (k + 1) lo hi at_ = 1 := by
            unfold nRest
            rw [gN_new c1 c2, List.filter_cons_of_pos (by simp; omega)]
            rfl
          rw [e]
          simp -implicitDefEqProofs only [go_sem, c1', c0', c2', guardP_tf, guardP_ff, guardP_ft, guardP_tt, condJ_true, condJ_false]
          try rfl
        · have c2' : ¬ (lo : Int) ≥ (m : Int) := by omega
          have hs := spl_bd (n := hi - lo) (by omega)
          have e : nRest m (k + 1) lo hi at_ = nRest m k lo (lo + spl (hi - lo)) at_ + nRest m k (lo + spl (hi - lo)) hi at_ := by
            unfold nRest
            rw [gN_mid c1 c2, List.filter_append, List.length_append]
          have w1 : IntKind.i64.wrap ((hi : Int) - (lo : Int)) = ((hi - lo : Nat) : Int) := by rw [wrS (by omega)]; omega
          have w2 : IntKind.i64.wrap ((lo : Int) + ((spl (hi - lo) : Nat) : Int)) = ((lo + spl (hi - lo) : Nat) : Int) := by rw [wrS (by omega)]; omega
          rw [e]
          simp -implicitDefEqProofs only [go_sem, c1', c0', c2', w1, guardP_tf, guardP_ff, guardP_ft, guardP_tt, condJ_true, condJ_false]
          refine Want.intro (c200_c (hi - lo) (by omega) (by omega)) ?_
          have l1 := nRest_le (m := m) (k := k) (lo := lo) (hi := lo + spl (hi - lo)) (at_ := at_) (by omega) (by omega)
          have l2 := nRest_le (m := m) (k := k) (lo := lo + spl (hi - lo)) (hi := hi) (at_ := at_) (by omega) (by omega)
          have w3 : IntKind.i64.wrap (((nRest m k lo (lo + spl (hi - lo)) at_ : Nat) : Int) + ((nRest m k (lo + spl (hi - lo)) hi at_ : Nat) : Int)) = ((nRest m k lo (lo + spl (hi - lo)) at_ + nRest m k (lo + spl (hi - lo)) hi at_ : Nat) : Int) := by rw [wrS (by omega)]; omega
          simp -implicitDefEqProofs only [go_sem, w2]
          refine Want.intro (c100_c m at_ k lo (lo + spl (hi - lo)) (by omega) (by omega) (by omega)) ?_
          simp -implicitDefEqProofs only [go_sem]
          refine Want.intro (c100_c m at_ k (lo + spl (hi - lo)) hi (by omega) (by omega) (by omega)) ?_
          simp -implicitDefEqProofs only [go_sem, w3]
theorem nRest_all {m k lo hi : Nat} (h : lo < hi) (hk : hi - lo ≤ k) : nRest m k lo hi hi = (gN m k lo hi).2.length := by
  unfold nRest
  rw [List.filter_eq_self.2]
  intro x hx
  have := gN_in (m := m) k lo hi h hk x (.inr hx)
  simp
  omega
theorem popc_old {m n : Nat} (h1 : 0 < m) (h2 : m < n) (h3 : n ≤ 256) : popc 9 m = (gN m n 0 n).1.length := by
  rw [gN_pks (m := m) n m 0 n (by omega) (by omega) (by omega) (by omega), pks_popc m 0 m 9 (by omega) (by omega)]
  rfl
theorem c23_c (m n : Int) : CallR Tryz.prog 23 [vI m, vI n] (vI (mGLen m n)) [] := by
  refine use_of dcGP false Tryz.f23 ?_
  conv => enter [1]; reduce
  refine jvR Tryz.f23 23 [.tmp 4] (by kernel_rfl) (by decide +kernel) rfl ?_
  unfold mGLen
  simp -implicitDefEqProofs only [go_sem]
  refine Want.intro (c98_c _ _) ?_
  rw [mGrow_alt]
  cases h : mGrow m n with
  | false => simp -implicitDefEqProofs only [go_sem, Bool.not_false, condJ_true, condJ_false, Bool.false_eq_true]
  | true =>
    obtain ⟨hn, hm⟩ := mGrow_nat h
    by_cases h0 : m = 0
    · subst h0
      simp -implicitDefEqProofs only [go_sem, Bool.not_true, condJ_true, condJ_false, guardP_tf, guardP_ff, guardP_ft, guardP_tt, true_or]
    · have h0' : (m == 0) = false := by simpa using h0
      by_cases h1 : m = n
      · subst h1
        simp -implicitDefEqProofs only [go_sem, h0', Bool.not_true, condJ_true, condJ_false, guardP_tf, guardP_ff, guardP_ft, guardP_tt, or_true]
      · have h1' : (m == n) = false := by simpa using h1
        obtain ⟨M, rfl⟩ : ∃ M : Nat, m = M := ⟨m.toNat, by omega⟩
        obtain ⟨N, rfl⟩ : ∃ N : Nat, n = N := ⟨n.toNat, by omega⟩
        have hno : ¬ ((M : Int) = 0 ∨ (M : Int) = (N : Int)) := fun h => h.elim h0 h1
        have hl := gN_len (m := M) N 0 N (by omega) (by omega)
        have e1 := popc_old (m := M) (n := N) (by omega) (by omega) (by omega)
        have e2 := nRest_all (m := M) (k := N) (lo := 0) (hi := N) (by omega) (by omega)
        have w1 : IntKind.i64.wrap (((gN M N 0 N).1.length : Int) + ((gN M N 0 N).2.length : Int)) = (((gN M N 0 N).1.length + (gN M N 0 N).2.length : Nat) : Int) := by rw [wrS (by omega)]; omega
        simp -implicitDefEqProofs only [go_sem, h0', h1', hno, Bool.not_true, condJ_true, condJ_false, guardP_tf, guardP_ff, guardP_ft, guardP_tt]
        refine Want.intro (c99_c M (by omega)) ?_
        simp -implicitDefEqProofs only [go_sem]
        refine Want.intro (c100_c M N N 0 N (by omega) (by omega) (by omega)) ?_
        rw [e1, e2]
        simp -implicitDefEqProofs only [go_sem, w1]
theorem mGLen_le (m n : Int) : mGLen m n ≤ 16 := by
  unfold mGLen
  split
  · rename_i h
    obtain ⟨hn, hm⟩ := mGrow_nat h
    split
    · omega
    · rename_i h2
      have := gN_many (m := m.toNat) 8 n.toNat 0 n.toNat (by omega) (by omega) (by omega) (by simp; omega)
      omega
  · omega
end Go.Proofs.YtjlhdfciklnndaaGreat.E
