/-
  A monitor keeps what it has: the plain law.
-/
import Derived.Test.YtkhemolkhegppaaGreatJ5
namespace Go.Proofs.YtkhemolkhegppaaGreat.E
open Go Go.RowKit
set_option linter.unusedVariables false
set_option linter.unusedSimpArgs false
structure MOk (m : MMon) : Prop where
  c : mClOk m.cl = true
  l : mLeavesOk m.leaves = true
  le : (m.leaves.length : Int) ≤ m.cl.pin.size
  z : (eqPt m.done .zero = true ∧ ((m.leaves.length : Int) < m.cl.pin.size ∨ m.cl.pin.size = 0)) ∨ (eqPt m.done .zero = false ∧ (1 ≤ m.done.size ∧ m.done.size ≤ m.leaves.length) ∧ eqDg (mRoot (m.leaves.take m.done.size.toNat)).dig m.done.root = true ∧ ((m.leaves.length : Int) < m.cl.pin.size ∨ m.done = m.cl.pin))
theorem MOk.of {m : MMon} (h : mMonOk m = true) : MOk m := by
  simp only [mMonOk, Bool.and_eq_true, decide_eq_true_eq] at h
  obtain ⟨h1, h2, h3, h4⟩ := h
  refine ⟨h1, h2, h3, ?_⟩
  cases e : eqPt m.done .zero with
  | true =>
    rw [e, if_pos rfl, Bool.or_eq_true, decide_eq_true_eq, beq_iff_eq] at h4
    exact .inl ⟨rfl, h4⟩
  | false =>
    rw [e, if_neg (by simp), Bool.and_eq_true, Bool.and_eq_true, Bool.or_eq_true, decide_eq_true_eq, eqPt_iff, mIn_iff] at h4
    exact .inr ⟨rfl, h4⟩
theorem MOk.mk' {m : MMon} (h : MOk m) : mMonOk m = true := by
  simp only [mMonOk, Bool.and_eq_true, decide_eq_true_eq]
  refine ⟨h.c, h.l, h.le, ?_⟩
  rcases h.z with ⟨e, h4⟩ | ⟨e, h4⟩
  · rw [e, if_pos rfl, Bool.or_eq_true, decide_eq_true_eq, beq_iff_eq]
    exact h4
  · rw [e, if_neg (by simp), Bool.and_eq_true, Bool.and_eq_true, Bool.or_eq_true, decide_eq_true_eq, eqPt_iff, mIn_iff]
    exact h4
theorem eqDg_iff {a b : MDig} : eqDg a b = true ↔ a = b := by
  obtain ⟨x, y, z, u⟩ := a
  obtain ⟨x', y', z', u'⟩ := b
  simp only [eqDg, Bool.and_eq_true, beq_iff_eq, MDig.mk.injEq]
  omega
/-- What a monitor that is ok keeps, whatever it hears. -/
structure MKept (m : MMon) (t : MWat) : Prop where
  ok : MOk t.mon
  done : m.done.size ≤ t.mon.done.size
  pin : m.cl.pin.size ≤ t.mon.cl.pin.size
  len : m.done.size ≤ (t.mon.leaves.length : Int) ∧ m.done.size ≤ (m.leaves.length : Int)
  same : t.mon.leaves.take m.done.size.toNat = m.leaves.take m.done.size.toNat
  cov : (t.cov = [] ∧ t.mon.done = m.done) ∨ (t.cov = [t.mon.cl.pin] ∧ t.mon.done = t.mon.cl.pin ∧ t.mon.cl.pin.size = t.mon.leaves.length ∧ (mRoot t.mon.leaves).dig = t.mon.cl.pin.root)
theorem MOk.d {m : MMon} (h : MOk m) : 0 ≤ m.done.size ∧ m.done.size ≤ (m.leaves.length : Int) := by
  rcases h.z with ⟨e, h4⟩ | ⟨e, h4, h5⟩
  · rw [eqPt_iff.1 e]
    exact ⟨Int.le_refl _, Int.natCast_nonneg _⟩
  · omega
theorem mkept_base {m : MMon} (h : MOk m) : MKept m (.base m) := ⟨h, Int.le_refl _, Int.le_refl _, ⟨h.d.2, h.d.2⟩, rfl, .inl ⟨rfl, rfl⟩⟩
theorem mkept_told {m : MMon} {t : MTold} {me : Int} (h : MOk m) (k : Kept m.cl me t) : MKept m (wOf m t) := by
  have hp : t.cl.pin = m.cl.pin ∨ m.cl.pin.size < t.cl.pin.size := by
    rcases k.acc with ⟨_, e⟩ | ⟨_, e, l, _⟩
    · exact .inl e
    · right; rw [e]; exact l
  have hle := h.le
  refine ⟨⟨k.ok, h.l, ?_, ?_⟩, Int.le_refl _, k.pin, ⟨h.d.2, h.d.2⟩, rfl, .inl ⟨rfl, rfl⟩⟩
  · show (m.leaves.length : Int) ≤ t.cl.pin.size
    have := k.pin
    omega
  · rcases hp with hp | hp
    · show (eqPt m.done .zero = true ∧ ((m.leaves.length : Int) < t.cl.pin.size ∨ t.cl.pin.size = 0)) ∨ (eqPt m.done .zero = false ∧ (1 ≤ m.done.size ∧ m.done.size ≤ m.leaves.length) ∧ eqDg (mRoot (m.leaves.take m.done.size.toNat)).dig m.done.root = true ∧ ((m.leaves.length : Int) < t.cl.pin.size ∨ m.done = t.cl.pin))
      rw [hp]
      exact h.z
    · have hlt : (m.leaves.length : Int) < t.cl.pin.size := by omega
      rcases h.z with ⟨e, _⟩ | ⟨e, h5, h6, _⟩
      · exact .inl ⟨e, .inl hlt⟩
      · exact .inr ⟨e, h5, h6, .inl hlt⟩
theorem rAll_take (m : MMon) (x : List ByteArray) {n : Nat} (h : n ≤ m.leaves.length) : (rAll m x).take n = m.leaves.take n := by
  unfold rAll
  rw [List.take_append_of_le_length h]
theorem mkept_range {m : MMon} {x : MMsg} (h : MOk m) (hr : MRok m) (hx : leavesOk x.leaves = true) : MKept m (mRange m x) := by
  have hA := rAll_ok hr hx
  have hAl := rAll_len m x.leaves
  have hle := h.le
  have hd := h.d
  unfold mRange
  split
  · exact mkept_base h
  · rename_i h1
    have h2 : ¬ m.cl.pin.size ≤ m.leaves.length := fun e => h1 (.inr (.inl e))
    have htk := rAll_take m x.leaves (n := m.done.size.toNat) (by omega)
    generalize rAll m x.leaves = A at *
    split
    · rename_i h3
      refine ⟨⟨h.c, hA, by show (A.length : Int) ≤ m.cl.pin.size; omega, ?_⟩, Int.le_refl _, Int.le_refl _, ⟨by show m.done.size ≤ (A.length : Int); omega, hd.2⟩, htk, .inl ⟨rfl, rfl⟩⟩
      rcases h.z with ⟨e, _⟩ | ⟨e, h5, h6, _⟩
      · exact .inl ⟨e, .inl h3⟩
      · refine .inr ⟨e, ⟨h5.1, by show m.done.size ≤ (A.length : Int); omega⟩, ?_, .inl h3⟩
        show eqDg (mRoot (A.take m.done.size.toNat)).dig m.done.root = true
        rw [htk]; exact h6
    · rename_i h3
      have hAe : (A.length : Int) = m.cl.pin.size := by omega
      split
      · rename_i h4
        have hpz : eqPt m.cl.pin .zero = false := by
          cases e : eqPt m.cl.pin .zero with
          | false => rfl
          | true =>
            have e' := congrArg MPt.size (eqPt_iff.1 e)
            have : (MPt.zero).size = 0 := rfl
            omega
        have hroot : eqDg (mRoot (A.take m.cl.pin.size.toNat)).dig m.cl.pin.root = true := by
          rw [List.take_of_length_le (by omega)]
          exact h4
        refine ⟨⟨h.c, hA, by show (A.length : Int) ≤ m.cl.pin.size; omega, .inr ⟨hpz, ⟨by show 1 ≤ m.cl.pin.size; omega, by show m.cl.pin.size ≤ (A.length : Int); omega⟩, hroot, .inr rfl⟩⟩, by show m.done.size ≤ m.cl.pin.size; omega, Int.le_refl _, ⟨by show m.done.size ≤ (A.length : Int); omega, hd.2⟩, htk, .inr ⟨rfl, rfl, hAe.symm, eqDg_iff.1 h4⟩⟩
      · have hl2 : (A.take m.done.size.toNat).length = m.done.size.toNat := by rw [List.length_take]; omega
        refine ⟨⟨h.c, mLeavesOk_take hA _, by show ((A.take m.done.size.toNat).length : Int) ≤ m.cl.pin.size; omega, ?_⟩, Int.le_refl _, Int.le_refl _, ⟨by show m.done.size ≤ ((A.take m.done.size.toNat).length : Int); omega, hd.2⟩, ?_, .inl ⟨rfl, rfl⟩⟩
        · have hlt : ((A.take m.done.size.toNat).length : Int) < m.cl.pin.size := by omega
          rcases h.z with ⟨e, _⟩ | ⟨e, h5, h6, _⟩
          · exact .inl ⟨e, .inl hlt⟩
          · refine .inr ⟨e, ⟨h5.1, by show m.done.size ≤ ((A.take m.done.size.toNat).length : Int); omega⟩, ?_, .inl hlt⟩
            show eqDg (mRoot ((A.take m.done.size.toNat).take m.done.size.toNat)).dig m.done.root = true
            rw [List.take_take, Nat.min_self, htk]
            exact h6
        · show (A.take m.done.size.toNat).take m.done.size.toNat = _
          rw [List.take_take, Nat.min_self, htk]
theorem mkept_hear {m : MMon} {l : MLet} (h1 : mMonOk m = true) (h2 : mLetOk l = true) : MKept m (mMHear m 9 l) := by
  have h := MOk.of h1
  have hho : hearOk m.cl 9 l = true := by rw [hearOk, h.c, h2]; rfl
  unfold mMHear
  rw [h1, h2, show mIn 9 1 20 = true from rfl, Bool.and_self, Bool.and_self, if_pos rfl]
  split
  · rename_i h3
    simp only [Bool.and_eq_true, beq_iff_eq] at h3
    exact mkept_range h (monOk_r h1).1 (wire_leaves h3.1)
  · exact mkept_told h (kept_hear hho)
end Go.Proofs.YtkhemolkhegppaaGreat.E
