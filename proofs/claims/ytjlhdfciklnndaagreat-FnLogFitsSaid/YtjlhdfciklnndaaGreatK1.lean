/-
  A client never goes back: the plain law.
-/
import Derived.Test.YtjlhdfciklnndaaGreatF5
import Derived.Test.YtjlhdfciklnndaaGreatFA
namespace Go.Proofs.YtjlhdfciklnndaaGreat.E
open Go Go.RowKit
set_option linter.unusedVariables false
set_option linter.unusedSimpArgs false
/-- What a client that is ok keeps, whatever it hears. -/
structure Kept (c : MCl) (me : Int) (t : MTold) : Prop where
  ok : mClOk t.cl = true
  pin : c.pin.size ≤ t.cl.pin.size
  s : t.cl.session = c.session
  acc : (t.acc = [] ∧ t.cl.pin = c.pin) ∨ (t.acc = [c.goal] ∧ t.cl.pin = c.goal ∧ c.pin.size < c.goal.size ∧ (c.acks.length : Int) + 1 = c.need)
  let_ : t.letters = [] ∨ (t.letters = (List.range c.many.toNat).map (fun i : Nat => MLet.mk me ((i : Int) + 1) (mWireBytes (mVouch c t.cl.goal))) ∧ (1 ≤ c.session ∧ c.session ≤ 1000000) ∧ (1 ≤ t.cl.goal.size ∧ t.cl.goal.size ≤ 256) ∧ t.cl.goal.root.ok)
theorem eqPt_iff {a b : MPt} : eqPt a b = true ↔ a = b := by
  obtain ⟨s, ⟨x, y, z, u⟩⟩ := a
  obtain ⟨s', ⟨x', y', z', u'⟩⟩ := b
  simp only [eqPt, Bool.and_eq_true, beq_iff_eq, MPt.mk.injEq, MDig.mk.injEq]
  omega
theorem eqP_iff {a b : MPt} : eqP a b = true ↔ a = b := eqPt_iff
structure ClOkP (c : MCl) : Prop where
  m : 1 ≤ c.many ∧ c.many ≤ 7
  n : 1 ≤ c.need ∧ c.need ≤ c.many
  t : c.many < 2 * c.need
  s : 0 ≤ c.session ∧ c.session ≤ 1000000
  p : mPin c.pin = true
  z : 0 ≤ c.pin.size ∧ c.pin.size ≤ 256
theorem clOk_p {c : MCl} (h : mClOk c = true) : ClOkP c := by
  simp only [mClOk, Bool.and_eq_true, decide_eq_true_eq, mIn_iff] at h
  exact ⟨h.1, h.2.1, h.2.2.1, h.2.2.2.1, h.2.2.2.2.1, (mPin_wr h.2.2.2.2.1).2⟩
theorem clOk_1 {c : MCl} (h : mClOk c = true) (hp : c.phase = 1) : c.goal = .zero ∧ c.acks = [] ∧ 1 ≤ c.session := by
  simp only [mClOk, Bool.and_eq_true, decide_eq_true_eq, mIn_iff, hp, or_true, if_true, beq_iff_eq, eqPt_iff] at h
  exact ⟨h.2.2.2.2.2.1, List.eq_nil_of_length_eq_zero h.2.2.2.2.2.2.1, h.2.2.2.2.2.2.2⟩
theorem clOk_2 {c : MCl} (h : mClOk c = true) (hp : c.phase = 2) : 1 ≤ c.session ∧ (c.pin.size + 1 ≤ c.goal.size ∧ c.goal.size ≤ 256) ∧ (c.acks.length : Int) < c.need ∧ acksOk c.many c.acks = true := by
  have e : ¬ (c.phase = 0 ∨ c.phase = 1) := by omega
  simp only [mClOk, Bool.and_eq_true, decide_eq_true_eq, mIn_iff, e, if_false] at h
  exact ⟨h.2.2.2.2.2.2.1, h.2.2.2.2.2.2.2.1, h.2.2.2.2.2.2.2.2.1, h.2.2.2.2.2.2.2.2.2⟩
theorem clOk_mk0 {c : MCl} (h : ClOkP c) (hp : c.phase = 0) (hg : c.goal = .zero) (ha : c.acks = []) : mClOk c = true := by
  simp only [mClOk, Bool.and_eq_true, decide_eq_true_eq, mIn_iff, hp, true_or, if_true, beq_iff_eq, eqPt_iff, ha, List.length_nil]
  exact ⟨h.m, h.n, h.t, h.s, h.p, hg, trivial, h.s.1⟩
theorem clOk_mk2 {c : MCl} (h : ClOkP c) (hp : c.phase = 2) (h1 : 1 ≤ c.session) (h2 : c.pin.size + 1 ≤ c.goal.size ∧ c.goal.size ≤ 256) (h3 : (c.acks.length : Int) < c.need) (h4 : acksOk c.many c.acks = true) : mClOk c = true := by
  have e : ¬ (c.phase = 0 ∨ c.phase = 1) := by omega
  simp only [mClOk, Bool.and_eq_true, decide_eq_true_eq, mIn_iff, e, if_false]
  exact ⟨h.m, h.n, h.t, h.s, h.p, hp, h1, h2, h3, h4⟩
theorem kept_base {c : MCl} {me : Int} (h : mClOk c = true) : Kept c me (.base c) := ⟨h, Int.le_refl _, rfl, .inl ⟨rfl, rfl⟩, .inl rfl⟩
theorem kept_head {c : MCl} {me : Int} {p : MPt} (h : mClOk c = true) (hp : c.phase = 1) (hz : 0 ≤ p.size ∧ p.size ≤ 256) (hr : p.root.ok) : Kept c me (mHead c me p) := by
  have k := clOk_p h
  obtain ⟨hg, ha, hs⟩ := clOk_1 h hp
  unfold mHead
  split
  · exact kept_base h
  · rename_i h1
    split
    · exact ⟨h, Int.le_refl _, rfl, .inl ⟨rfl, rfl⟩, .inl rfl⟩
    · rename_i h2
      have e1 : p.size ≠ 0 := fun e => h1 (.inl e)
      have e2 : ¬ p.size < c.pin.size := fun e => h1 (.inr (.inl e))
      have hn := k.n
      refine ⟨?_, Int.le_refl _, rfl, .inl ⟨rfl, rfl⟩, .inr ⟨rfl, ⟨hs, k.s.2⟩, ⟨by show 1 ≤ p.size; omega, hz.2⟩, hr⟩⟩
      refine clOk_mk2 ⟨k.m, k.n, k.t, k.s, k.p, k.z⟩ rfl hs ⟨by show c.pin.size + 1 ≤ p.size; omega, hz.2⟩ ?_ ?_
      · show (c.acks.length : Int) < c.need
        rw [ha]; simp; omega
      · show acksOk c.many c.acks = true
        rw [ha]; rfl
theorem kept_ack {c : MCl} {me w : Int} (h : mClOk c = true) (hp : c.phase = 2) (hw : 1 ≤ w ∧ w ≤ c.many) : Kept c me (mAck c w) := by
  have k := clOk_p h
  obtain ⟨hs, hg, ha, hb⟩ := clOk_2 h hp
  have hl := acks_add (w := w) (acks_conv hb).1
  have kz := k.z
  unfold mAck
  split
  · rename_i h1
    exact ⟨clOk_mk2 ⟨k.m, k.n, k.t, k.s, k.p, k.z⟩ hp hs hg h1 (acks_ok hb hw), Int.le_refl _, rfl, .inl ⟨rfl, rfl⟩, .inl rfl⟩
  · rename_i h1
    refine ⟨?_, by show c.pin.size ≤ c.goal.size; omega, rfl, .inr ⟨rfl, rfl, by omega, by omega⟩, .inl rfl⟩
    refine clOk_mk0 ⟨k.m, k.n, k.t, k.s, ?_, by show 0 ≤ c.goal.size ∧ c.goal.size ≤ 256; omega⟩ rfl rfl rfl
    show mPin c.goal = true
    unfold mPin
    rw [mIn_iff.2 (by omega), Bool.true_or]
theorem kept_hear {c : MCl} {me : Int} {l : MLet} (h : hearOk c me l = true) : Kept c me (mHear c me l) := by
  have hc : mClOk c = true := by simp only [hearOk, Bool.and_eq_true] at h; exact h.1
  unfold mHear
  rw [if_pos h]
  split
  · rename_i h1
    simp only [hearHd, Bool.and_eq_true, beq_iff_eq] at h1
    have hw := wire_inv l.text h1.1
    exact kept_head hc h1.2.2.2.1 (WOk.of hw.1).z hw.2.1
  · split
    · rename_i h1
      simp only [hearAk, Bool.and_eq_true, beq_iff_eq, mIn_iff] at h1
      exact kept_ack hc h1.1.2.2.2.1 h1.1.2.2.1
    · exact kept_base hc
theorem vouch_ok {c : MCl} {p : MPt} (hs : 1 ≤ c.session ∧ c.session ≤ 1000000) (hp : 1 ≤ p.size ∧ p.size ≤ 256) : mWireOk (mVouch c p) = true := by
  have h1 : mIn c.session 1 1000000 = true := mIn_iff.2 hs
  have h2 : mIn p.size 0 256 = true := mIn_iff.2 (by omega)
  have e1 : hS 3 = true := rfl
  have e2 : hF 3 = false := rfl
  have e3 : hZ 3 = true := rfl
  have e4 : hR 3 = true := rfl
  have e5 : hC 3 = false := rfl
  have e6 : hP 3 = false := rfl
  have e7 : hL 3 = false := rfl
  have h0 : mIn 3 1 8 = true := rfl
  simp [mWireOk, mVouch, mPart, e1, e2, e3, e4, e5, e6, e7, h0, h1, h2, leavesOk]
theorem vouch_read {c : MCl} {p : MPt} (hs : 1 ≤ c.session ∧ c.session ≤ 1000000) (hp : 1 ≤ p.size ∧ p.size ≤ 256) (hr : p.root.ok) : mWireRead (mWireBytes (mVouch c p)) = (mVouch c p, 0, 0) := by
  unfold mWireBytes
  rw [if_pos (vouch_ok hs hp)]
  exact wire_read (vouch_ok hs hp) hr (by simp [mVouch])
end Go.Proofs.YtjlhdfciklnndaaGreat.E
