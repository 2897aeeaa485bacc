/-
  Digests as four words; how peaks make a root; nodes that are apart.
-/
import Derived.Test.YtjlhdfciklnndaaGreatGP
namespace Go.Proofs.YtjlhdfciklnndaaGreat.E
open Go Go.RowKit
set_option linter.unusedVariables false
set_option linter.unusedSimpArgs false
def MDig.bd (d : MDig) : BD := ⟨BitVec.ofNat 64 d.a, BitVec.ofNat 64 d.b, BitVec.ofNat 64 d.c, BitVec.ofNat 64 d.d⟩
theorem MDig.bd_dig {d : MDig} (h : d.ok) : d.bd.dig = d := by
  obtain ⟨h1, h2, h3, h4⟩ := h
  obtain ⟨a, b, c, e⟩ := d
  simp only at h1 h2 h3 h4
  simp only [MDig.bd, BD.dig, BitVec.toNat_ofNat, MDig.mk.injEq]
  exact ⟨Nat.mod_eq_of_lt h1, Nat.mod_eq_of_lt h2, Nat.mod_eq_of_lt h3, Nat.mod_eq_of_lt h4⟩
theorem bds {l : List MDig} (h : ∀ d ∈ l, d.ok) : (l.map MDig.bd).map BD.dig = l := by
  rw [List.map_map]
  conv => rhs; rw [← List.map_id l]
  exact List.map_congr_left fun d hd => MDig.bd_dig (h d hd)
/-- The root that peaks make. -/
def mPeaks : List BD → BD
  | [] => mHashOf []
  | [x] => x
  | x :: y :: l => hPair x (mPeaks (y :: l))
/-- Nodes one after the other. -/
def Srt (l : List Nd) : Prop := l.Pairwise fun x y => x.1 < y.1
theorem gN_srt {m : Nat} : ∀ (k lo hi : Nat), lo < hi → hi - lo ≤ k → Srt (gN m k lo hi).1 ∧ Srt (gN m k lo hi).2
  | 0, lo, hi, h, hk => by omega
  | k + 1, lo, hi, h, hk => by
    by_cases h1 : hi ≤ m
    · rw [gN_old h1]; exact ⟨List.pairwise_singleton _ _, List.Pairwise.nil⟩
    · by_cases h2 : m ≤ lo
      · rw [gN_new h1 h2]; exact ⟨List.Pairwise.nil, List.pairwise_singleton _ _⟩
      · rw [gN_mid h1 h2]
        have hs := spl_bd (n := hi - lo) (by omega)
        have a := gN_srt (m := m) k lo (lo + spl (hi - lo)) (by omega) (by omega)
        have b := gN_srt (m := m) k (lo + spl (hi - lo)) hi (by omega) (by omega)
        have ia := gN_in (m := m) k lo (lo + spl (hi - lo)) (by omega) (by omega)
        have ib := gN_in (m := m) k (lo + spl (hi - lo)) hi (by omega) (by omega)
        refine ⟨List.pairwise_append.2 ⟨a.1, b.1, fun x hx y hy => ?_⟩, List.pairwise_append.2 ⟨a.2, b.2, fun x hx y hy => ?_⟩⟩
        · have := ia x (.inl hx)
          have := ib y (.inl hy)
          omega
        · have := ia x (.inr hx)
          have := ib y (.inr hy)
          omega
/-- Old nodes end by the old size, new ones begin from it on. -/
theorem gN_side {m : Nat} : ∀ (k lo hi : Nat), (∀ x ∈ (gN m k lo hi).1, x.2 ≤ m) ∧ (∀ x ∈ (gN m k lo hi).2, m ≤ x.1)
  | 0, lo, hi => by simp [gN]
  | k + 1, lo, hi => by
    by_cases h1 : hi ≤ m
    · rw [gN_old h1]; simp [h1]
    · by_cases h2 : m ≤ lo
      · rw [gN_new h1 h2]; simp [h2]
      · rw [gN_mid h1 h2]
        have a := gN_side (m := m) k lo (lo + spl (hi - lo))
        have b := gN_side (m := m) k (lo + spl (hi - lo)) hi
        exact ⟨fun x hx => (List.mem_append.1 hx).elim (a.1 x) (b.1 x), fun x hx => (List.mem_append.1 hx).elim (a.2 x) (b.2 x)⟩
/-- All nodes of a growth. -/
def gA (m n : Nat) : List Nd := (gN m n 0 n).1 ++ (gN m n 0 n).2
theorem gA_srt {m n : Nat} (h : 1 ≤ n) : Srt (gA m n) := by
  have a := gN_srt (m := m) n 0 n (by omega) (by omega)
  have i := gN_in (m := m) n 0 n (by omega) (by omega)
  have s := gN_side (m := m) n 0 n
  refine List.pairwise_append.2 ⟨a.1, a.2, fun x hx y hy => ?_⟩
  have := i x (.inl hx)
  have := s.1 x hx
  have := s.2 y hy
  omega
/-- In a row of nodes a node's place is how many begin ahead of it. -/
theorem srt_place : ∀ {l : List Nd} (h : Srt l) {i : Nat} (hi : i < l.length), (l.filter fun x => decide (x.1 < l[i].1)).length = i
  | [], _, _, hi => by simp at hi
  | x :: l, h, 0, _ => by
    obtain ⟨h1, h2⟩ := List.pairwise_cons.1 h
    simp only [List.getElem_cons_zero]
    rw [List.filter_cons_of_neg (by simp), List.length_eq_zero_iff, List.filter_eq_nil_iff]
    intro y hy
    have := h1 y hy
    simp
    omega
  | x :: l, h, i + 1, hi => by
    obtain ⟨h1, h2⟩ := List.pairwise_cons.1 h
    have hi' : i < l.length := by simpa using hi
    simp only [List.getElem_cons_succ]
    have := h1 l[i] (List.getElem_mem hi')
    rw [List.filter_cons_of_pos (by simpa using this), List.length_cons, srt_place h2 hi']
theorem srt_nodup {l : List Nd} (h : Srt l) : l.Pairwise (· ≠ ·) := h.imp fun {a b} hab e => by rw [e] at hab; exact Nat.lt_irrefl _ hab
end Go.Proofs.YtjlhdfciklnndaaGreat.E
