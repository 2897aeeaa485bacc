/-
  What a monitor saw is small.
-/
import Derived.Test.YtjlhdfciklnndaaGreatLE
namespace Go.Proofs.YtjlhdfciklnndaaGreat.E
open Go Go.RowKit
set_option maxHeartbeats 4000000
set_option linter.unusedSimpArgs false
set_option linter.unusedVariables false
theorem mHear_sm2 {c : MCl} {me : Int} {l : MLet} : (mHear c me l).sm := by
  unfold mHear
  cases h : hearOk c me l with
  | false => exact ⟨Nat.zero_le _, Nat.zero_le _, Nat.zero_le _, Nat.zero_le _⟩
  | true =>
    rw [if_pos rfl]
    simp only [hearOk, Bool.and_eq_true] at h
    obtain ⟨h1, h2⟩ := clOk_many h.1
    have hb : (MTold.base c).sm := ⟨by show c.acks.length ≤ _; omega, Nat.zero_le _, Nat.zero_le _, Nat.zero_le _⟩
    split
    · unfold mHead
      split
      · exact hb
      · split
        · exact ⟨by show c.acks.length ≤ _; omega, Nat.zero_le _, by show 1 ≤ _; omega, Nat.zero_le _⟩
        · exact ⟨by show c.acks.length ≤ _; omega, by simp; omega, Nat.zero_le _, Nat.zero_le _⟩
    · split
      · have ha := ackGo_len l.from_ c.acks false
        unfold mAck
        split
        · exact ⟨by show (mAcks c.acks l.from_).length ≤ _; unfold mAcks; omega, Nat.zero_le _, Nat.zero_le _, Nat.zero_le _⟩
        · exact ⟨Nat.zero_le _, Nat.zero_le _, Nat.zero_le _, by show 1 ≤ _; omega⟩
      · exact hb
theorem mMHear_sm {m : MMon} {me : Int} {l : MLet} : (mMHear m me l).sm := by
  unfold mMHear
  cases h : (mMonOk m && (mIn me 1 20 && mLetOk l)) with
  | false => exact ⟨Nat.zero_le _, Nat.zero_le _, Nat.zero_le _, Nat.zero_le _, Nat.zero_le _, Nat.zero_le _⟩
  | true =>
    rw [if_pos rfl]
    simp only [Bool.and_eq_true] at h
    obtain ⟨hr, hle⟩ := monOk_r h.1
    have ha := hr.a
    have hl := (mLeavesOk_of hr.l).1
    split
    · rename_i h1
      simp only [Bool.and_eq_true, beq_iff_eq] at h1
      have hA := (mLeavesOk_of (rAll_ok hr (wire_leaves h1.1))).1
      unfold mRange
      split
      · exact ⟨by show m.cl.acks.length ≤ _; omega, by show m.leaves.length ≤ _; omega, Nat.zero_le _, Nat.zero_le _, Nat.zero_le _, Nat.zero_le _⟩
      · split
        · exact ⟨by show m.cl.acks.length ≤ _; omega, by show (rAll m _).length ≤ _; omega, Nat.zero_le _, Nat.zero_le _, Nat.zero_le _, Nat.zero_le _⟩
        · split
          · exact ⟨by show m.cl.acks.length ≤ _; omega, by show (rAll m _).length ≤ _; omega, Nat.zero_le _, Nat.zero_le _, Nat.zero_le _, by show 1 ≤ _; omega⟩
          · exact ⟨by show m.cl.acks.length ≤ _; omega, by show ((rAll m _).take _).length ≤ _; rw [List.length_take]; omega, Nat.zero_le _, by show 1 ≤ _; omega, Nat.zero_le _, Nat.zero_le _⟩
    · have k := mHear_sm2 (c := m.cl) (me := me) (l := l)
      exact ⟨k.a, by show m.leaves.length ≤ _; omega, k.l, k.x, k.p, Nat.zero_le _⟩
end Go.Proofs.YtjlhdfciklnndaaGreat.E
