/-
  Witnesses with one more: the plain law.
-/
import Derived.Test.YtjlhdfciklnndaaGreatF4
namespace Go.Proofs.YtjlhdfciklnndaaGreat.E
open Go Go.RowKit
theorem ackGo_t (w : Int) : ∀ l, ackGo w l true = l.filter (· != w)
  | [] => rfl
  | a :: l => by
    simp only [ackGo, Bool.not_true, Bool.false_and, Bool.false_eq_true, if_false, List.nil_append, Bool.true_or, ackGo_t w l, List.filter_cons]
    split <;> simp
theorem ackGo_ge {w a : Int} {l : List Int} (h : a ≥ w) : ackGo w (a :: l) false = w :: (a :: l).filter (· != w) := by
  simp only [ackGo, Bool.not_false, Bool.true_and, h, decide_true, if_true, Bool.false_or, ackGo_t, List.filter_cons]
  split <;> simp
theorem ackGo_lt {w a : Int} {l : List Int} (h : a < w) : ackGo w (a :: l) false = a :: ackGo w l false := by
  have h1 : ¬ a ≥ w := by omega
  have h2 : (a != w) = true := by rw [bne_iff_ne]; omega
  simp only [ackGo, Bool.not_false, Bool.true_and, h1, decide_false, Bool.false_eq_true, if_false, Bool.false_or, h2, if_true, List.nil_append, List.singleton_append]
theorem ackGo_mem (w x : Int) : ∀ l, x ∈ ackGo w l false ↔ x = w ∨ x ∈ l
  | [] => by simp [ackGo]
  | a :: l => by
    by_cases h : a ≥ w
    · rw [ackGo_ge h, List.mem_cons, List.mem_filter, bne_iff_ne]
      by_cases e : x = w <;> simp [e]
    · rw [ackGo_lt (by omega), List.mem_cons, ackGo_mem w x l, List.mem_cons]
      exact ⟨fun h => by rcases h with h | h | h <;> simp [h], fun h => by rcases h with h | h | h <;> simp [h]⟩
theorem ackGo_pw (w : Int) : ∀ l : List Int, l.Pairwise (· < ·) → (ackGo w l false).Pairwise (· < ·)
  | [], _ => by simp [ackGo]
  | a :: l, hp => by
    have hp2 := List.pairwise_cons.1 hp
    by_cases h : a ≥ w
    · rw [ackGo_ge h]
      refine List.pairwise_cons.2 ⟨fun x hx => ?_, List.Pairwise.filter _ hp⟩
      obtain ⟨h1, h2⟩ := List.mem_filter.1 hx
      rw [bne_iff_ne] at h2
      rcases List.mem_cons.1 h1 with h1 | h1
      · omega
      · have := hp2.1 x h1; omega
    · rw [ackGo_lt (by omega)]
      refine List.pairwise_cons.2 ⟨fun x hx => ?_, ackGo_pw w l hp2.2⟩
      rcases (ackGo_mem w x l).1 hx with h1 | h1
      · omega
      · exact hp2.1 x h1
theorem filter_ne {w : Int} {l : List Int} (h : ¬ w ∈ l) : l.filter (· != w) = l :=
  List.filter_eq_self.2 fun x hx => by rw [bne_iff_ne]; exact fun e => h (e ▸ hx)
theorem ackGo_in {w : Int} : ∀ l : List Int, l.Pairwise (· < ·) → w ∈ l → ackGo w l false = l
  | a :: l, hp, hw => by
    have hp2 := List.pairwise_cons.1 hp
    by_cases h : a ≥ w
    · have e : a = w := by
        rcases List.mem_cons.1 hw with h1 | h1
        · exact h1.symm
        · have := hp2.1 w h1; omega
      subst e
      have hn : ¬ a ∈ l := fun h1 => by have := hp2.1 a h1; omega
      rw [ackGo_ge h, List.filter_cons, if_neg (by simp), filter_ne hn]
    · have h1 : w ∈ l := by
        rcases List.mem_cons.1 hw with h1 | h1
        · omega
        · exact h1
      rw [ackGo_lt (by omega), ackGo_in l hp2.2 h1]
theorem ackGo_out {w : Int} : ∀ l : List Int, ¬ w ∈ l → (ackGo w l false).length = l.length + 1
  | [], _ => rfl
  | a :: l, hw => by
    by_cases h : a ≥ w
    · rw [ackGo_ge h, filter_ne hw, List.length_cons]
    · rw [ackGo_lt (by omega), List.length_cons, ackGo_out l (fun h1 => hw (List.mem_cons_of_mem _ h1)), List.length_cons]
theorem acks_pw {many : Int} {l : List Int} (hp : l.Pairwise (· < ·)) (hb : ∀ x ∈ l, 1 ≤ x ∧ x ≤ many) : acksOk many l = true := by
  rw [acks_all]
  intro i hi
  have hm := mIn_iff.2 (hb l[i] (List.getElem_mem hi))
  cases i with
  | zero => rw [ackAt_zero hi]; exact hm
  | succ i => rw [ackAt_succ hi, hm, Bool.true_and, decide_eq_true_eq]; exact List.pairwise_iff_getElem.1 hp i (i + 1) (by omega) hi (by omega)
theorem acks_conv {many : Int} {l : List Int} (h : acksOk many l = true) : l.Pairwise (· < ·) ∧ ∀ x ∈ l, 1 ≤ x ∧ x ≤ many := by
  rw [acks_all] at h
  have hb : ∀ i, (hi : i < l.length) → 1 ≤ l[i] ∧ l[i] ≤ many := fun i hi => by
    have := h i hi
    cases i with
    | zero => rw [ackAt_zero hi] at this; exact mIn_iff.1 this
    | succ i => rw [ackAt_succ hi, Bool.and_eq_true] at this; exact mIn_iff.1 this.1
  refine ⟨List.pairwise_iff_getElem.2 ?_, fun x hx => ?_⟩
  · intro i j hi hj hij
    induction j with
    | zero => omega
    | succ j ih =>
      have := h (j + 1) hj
      rw [ackAt_succ hj, Bool.and_eq_true, decide_eq_true_eq] at this
      rcases Nat.lt_or_ge i j with hlt | hge
      · have := ih (by omega) hlt; omega
      · have e : i = j := by omega
        subst e
        exact this.2
  · obtain ⟨i, hi, rfl⟩ := List.mem_iff_getElem.1 hx
    exact hb i hi
theorem acks_add {w : Int} {l : List Int} (hp : l.Pairwise (· < ·)) : (mAcks l w).length ≤ l.length + 1 := by
  by_cases hw : w ∈ l
  · rw [mAcks, ackGo_in l hp hw]; omega
  · rw [mAcks, ackGo_out l hw]; exact Nat.le_refl _
theorem acks_ok {many w : Int} {l : List Int} (h : acksOk many l = true) (hw : 1 ≤ w ∧ w ≤ many) : acksOk many (mAcks l w) = true := by
  obtain ⟨hp, hb⟩ := acks_conv h
  exact acks_pw (ackGo_pw w l hp) fun x hx => by
    rcases (ackGo_mem w x l).1 hx with rfl | hx
    · exact hw
    · exact hb x hx
end Go.Proofs.YtjlhdfciklnndaaGreat.E
