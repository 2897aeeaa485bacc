/-
  Nodes of a growth, in plain lists: what falls into old and new; the old ones are the peaks; how many there are.
-/
import Derived.Test.YtjlhdfciklnndaaGreatH3
namespace Go.Proofs.YtjlhdfciklnndaaGreat.E
open Go Go.RowKit
set_option linter.unusedVariables false
theorem tk_step {α : Type} {l : List α} {i : Nat} (h : i < l.length) : l.take (i + 1) = l.take i ++ [l[i]] := List.take_succ_eq_append_getElem h
theorem mLO_take {l : List ByteArray} (h : mLeavesOk l = true) (n : Nat) : mLeavesOk (l.take n) = true := by
  obtain ⟨h1, h2⟩ := mLeavesOk_of h
  simp only [mLeavesOk, Bool.and_eq_true, decide_eq_true_eq, leavesOk, List.all_eq_true, List.length_take]
  exact ⟨by omega, fun b hb => h2 b (List.mem_of_mem_take hb)⟩
def half (n : Nat) : Nat := 2 ^ n.log2
theorem half_of {n j : Nat} (h1 : 2 ^ j ≤ n) (h2 : n < 2 * 2 ^ j) : half n = 2 ^ j := by
  have : 0 < 2 ^ j := Nat.pow_pos (by omega)
  unfold half
  rw [(Nat.log2_eq_iff (k := j) (by omega)).2 ⟨h1, by rw [Nat.pow_succ]; omega⟩]
theorem half_bd {n : Nat} (h : 1 ≤ n) : 1 ≤ half n ∧ half n ≤ n ∧ n < 2 * half n := by
  have h1 : n ≠ 0 := by omega
  have := (Nat.log2_eq_iff (k := n.log2) h1).1 rfl
  have h3 : 0 < 2 ^ n.log2 := Nat.pow_pos (by omega)
  unfold half
  rw [Nat.pow_succ] at this
  omega
theorem spl_up {n : Nat} (h : 2 ≤ n) : n ≤ 2 * spl n := by
  have h1 : n - 1 ≠ 0 := by omega
  have := (Nat.log2_eq_iff (k := (n - 1).log2) h1).1 rfl
  unfold spl
  rw [Nat.pow_succ] at this
  omega
/-- A run of leaves. -/
abbrev Nd := Nat × Nat
/-- What falls into old nodes and new ones. -/
def gN (m : Nat) : Nat → Nat → Nat → List Nd × List Nd
  | 0, _, _ => ([], [])
  | k + 1, lo, hi =>
    if hi ≤ m then ([(lo, hi)], [])
    else if m ≤ lo then ([], [(lo, hi)])
    else ((gN m k lo (lo + spl (hi - lo))).1 ++ (gN m k (lo + spl (hi - lo)) hi).1, (gN m k lo (lo + spl (hi - lo))).2 ++ (gN m k (lo + spl (hi - lo)) hi).2)
theorem gN_old {m k lo hi : Nat} (h : hi ≤ m) : gN m (k + 1) lo hi = ([(lo, hi)], []) := by rw [gN, if_pos h]
theorem gN_new {m k lo hi : Nat} (h1 : ¬ hi ≤ m) (h : m ≤ lo) : gN m (k + 1) lo hi = ([], [(lo, hi)]) := by rw [gN, if_neg h1, if_pos h]
theorem gN_mid {m k lo hi : Nat} (h1 : ¬ hi ≤ m) (h : ¬ m ≤ lo) : gN m (k + 1) lo hi = ((gN m k lo (lo + spl (hi - lo))).1 ++ (gN m k (lo + spl (hi - lo)) hi).1, (gN m k lo (lo + spl (hi - lo))).2 ++ (gN m k (lo + spl (hi - lo)) hi).2) := by rw [gN, if_neg h1, if_neg h]
/-- All of them lie within, one after the other. -/
theorem gN_in {m : Nat} : ∀ (k lo hi : Nat), lo < hi → hi - lo ≤ k → ∀ x, x ∈ (gN m k lo hi).1 ∨ x ∈ (gN m k lo hi).2 → lo ≤ x.1 ∧ x.1 < x.2 ∧ x.2 ≤ hi
  | 0, lo, hi, h, hk, x, hx => by omega
  | k + 1, lo, hi, h, hk, x, hx => by
    by_cases h1 : hi ≤ m
    · rw [gN_old h1] at hx
      simp at hx
      subst hx
      exact ⟨Nat.le_refl _, h, Nat.le_refl _⟩
    · by_cases h2 : m ≤ lo
      · rw [gN_new h1 h2] at hx
        simp at hx
        subst hx
        exact ⟨Nat.le_refl _, h, Nat.le_refl _⟩
      · rw [gN_mid h1 h2] at hx
        have hs := spl_bd (n := hi - lo) (by omega)
        have a := gN_in (m := m) k lo (lo + spl (hi - lo)) (by omega) (by omega) x
        have b := gN_in (m := m) k (lo + spl (hi - lo)) hi (by omega) (by omega) x
        simp only [List.mem_append] at hx
        rcases hx with (hx | hx) | (hx | hx)
        · have := a (.inl hx); omega
        · have := b (.inl hx); omega
        · have := a (.inr hx); omega
        · have := b (.inr hx); omega
theorem gN_len {m : Nat} : ∀ (k lo hi : Nat), lo < hi → hi - lo ≤ k → (gN m k lo hi).1.length ≤ hi - lo ∧ (gN m k lo hi).2.length ≤ hi - lo
  | 0, lo, hi, h, hk => by omega
  | k + 1, lo, hi, h, hk => by
    by_cases h1 : hi ≤ m
    · rw [gN_old h1]; simp; omega
    · by_cases h2 : m ≤ lo
      · rw [gN_new h1 h2]; simp; omega
      · rw [gN_mid h1 h2]
        have hs := spl_bd (n := hi - lo) (by omega)
        have a := gN_len (m := m) k lo (lo + spl (hi - lo)) (by omega) (by omega)
        have b := gN_len (m := m) k (lo + spl (hi - lo)) hi (by omega) (by omega)
        simp only [List.length_append]
        omega
/-- Not many. -/
theorem gN_many {m : Nat} : ∀ (d k lo hi : Nat), lo < m → m < hi → hi - lo ≤ k → hi - lo ≤ 2 ^ d → (gN m k lo hi).1.length + (gN m k lo hi).2.length ≤ 2 * d
  | d, 0, lo, hi, h1, h2, hk, hd => by omega
  | 0, k + 1, lo, hi, h1, h2, hk, hd => by simp at hd; omega
  | d + 1, k + 1, lo, hi, h1, h2, hk, hd => by
    rw [gN_mid (by omega) (by omega)]
    have hs := spl_bd (n := hi - lo) (by omega)
    have hu := spl_up (n := hi - lo) (by omega)
    have hp : spl (hi - lo) ≤ 2 ^ d := by
      have e : spl (hi - lo) = 2 ^ (hi - lo - 1).log2 := rfl
      rw [e]
      refine Nat.pow_le_pow_right (by omega) ?_
      have := (Nat.log2_lt (n := hi - lo - 1) (k := d + 1) (by omega)).2 (by omega)
      omega
    have hk1 : ∀ k lo hi, lo < hi → hi - lo ≤ k → (hi ≤ m ∨ m ≤ lo) → (gN m k lo hi).1.length + (gN m k lo hi).2.length = 1 := by
      intro k lo hi hl hk hc
      cases k with
      | zero => omega
      | succ k =>
        by_cases h : hi ≤ m
        · rw [gN_old h]; rfl
        · rw [gN_new h (by omega)]; rfl
    simp only [List.length_append]
    by_cases hm : m < lo + spl (hi - lo)
    · have a := gN_many d k lo (lo + spl (hi - lo)) h1 hm (by omega) (by omega)
      have b := hk1 k (lo + spl (hi - lo)) hi (by omega) (by omega) (.inr (by omega))
      omega
    · have a := hk1 k lo (lo + spl (hi - lo)) (by omega) (by omega) (.inl (by omega))
      by_cases he : m = lo + spl (hi - lo)
      · have b := hk1 k (lo + spl (hi - lo)) hi (by omega) (by omega) (.inr (by omega))
        omega
      · have b := gN_many d k (lo + spl (hi - lo)) hi (by omega) h2 (by omega) (by omega)
        omega
/-- The peaks from a leaf on. -/
def pks : Nat → Nat → Nat → List Nd
  | 0, _, _ => []
  | k + 1, lo, m => if lo < m then (lo, lo + half (m - lo)) :: pks k (lo + half (m - lo)) m else []
theorem pks_nil {k lo m : Nat} (h : m ≤ lo) : pks k lo m = [] := by
  cases k with
  | zero => rfl
  | succ k => rw [pks, if_neg (by omega)]
theorem gN_pks {m : Nat} : ∀ (k j lo hi : Nat), lo < m → m < hi → hi - lo ≤ k → m - lo ≤ j → (gN m k lo hi).1 = pks j lo m
  | 0, j, lo, hi, h1, h2, hk, hj => by omega
  | k + 1, 0, lo, hi, h1, h2, hk, hj => by omega
  | k + 1, j + 1, lo, hi, h1, h2, hk, hj => by
    rw [gN_mid (by omega) (by omega)]
    have hs := spl_bd (n := hi - lo) (by omega)
    have hu := spl_up (n := hi - lo) (by omega)
    obtain ⟨e, he⟩ : ∃ e, spl (hi - lo) = 2 ^ e := ⟨_, rfl⟩
    by_cases hm : m < lo + spl (hi - lo)
    · rw [gN_pks k (j + 1) lo (lo + spl (hi - lo)) h1 hm (by omega) hj]
      cases k with
      | zero => omega
      | succ k => rw [gN_new (by omega) (by omega)]; simp
    · have hh : half (m - lo) = spl (hi - lo) := by
        have hu' := hu
        have hm' := hm
        rw [he] at hu' hm' ⊢
        exact half_of (by omega) (by omega)
      rw [pks, if_pos h1, hh]
      cases k with
      | zero => omega
      | succ k =>
        rw [gN_old (m := m) (lo := lo) (by omega)]
        by_cases heq : m = lo + spl (hi - lo)
        · rw [gN_new (by omega) (by omega), pks_nil (by omega)]
          rfl
        · rw [gN_pks (k + 1) j (lo + spl (hi - lo)) hi (by omega) h2 (by omega) (by omega)]
          rfl
/-- How many ones. -/
def popc : Nat → Nat → Nat
  | 0, _ => 0
  | k + 1, n => n % 2 + popc k (n / 2)
theorem popc_zero : ∀ k, popc k 0 = 0
  | 0 => rfl
  | k + 1 => by rw [popc, popc_zero k]
theorem popc_top : ∀ (j k r : Nat), r < 2 ^ j → j < k → popc k (2 ^ j + r) = 1 + popc k r
  | j, 0, r, h, hk => by omega
  | 0, k + 1, r, h, hk => by
    have : r = 0 := by simp at h; omega
    subst this
    simp [popc, popc_zero]
  | j + 1, k + 1, r, h, hk => by
    rw [Nat.pow_succ] at h ⊢
    rw [popc, popc, show (2 ^ j * 2 + r) % 2 = r % 2 by omega, show (2 ^ j * 2 + r) / 2 = 2 ^ j + r / 2 by omega, popc_top j k (r / 2) (by omega) (by omega)]
    omega
theorem pks_popc : ∀ (j lo m k : Nat), m - lo ≤ j → m - lo < 2 ^ k → (pks j lo m).length = popc k (m - lo)
  | 0, lo, m, k, h, hk => by rw [show m - lo = 0 by omega, popc_zero]; rfl
  | j + 1, lo, m, k, h, hk => by
    by_cases h1 : lo < m
    · have hb := half_bd (n := m - lo) (by omega)
      obtain ⟨e, he⟩ : ∃ e, half (m - lo) = 2 ^ e := ⟨_, rfl⟩
      rw [pks, if_pos h1, List.length_cons, pks_popc j (lo + half (m - lo)) m k (by omega) (by omega)]
      rw [he] at hb ⊢
      have hek : e < k := (Nat.pow_lt_pow_iff_right (a := 2) (by omega)).1 (by omega)
      have e2 : popc k (m - lo) = 1 + popc k (m - lo - 2 ^ e) := by
        have := popc_top e k (m - lo - 2 ^ e) (by omega) hek
        rw [show 2 ^ e + (m - lo - 2 ^ e) = m - lo by omega] at this
        exact this
      rw [e2, show m - (lo + 2 ^ e) = m - lo - 2 ^ e by omega]
      omega
    · rw [show m - lo = 0 by omega, popc_zero, pks_nil (by omega)]
      rfl
end Go.Proofs.YtjlhdfciklnndaaGreat.E
