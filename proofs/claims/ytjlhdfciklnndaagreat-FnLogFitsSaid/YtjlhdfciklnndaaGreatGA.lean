/-
  Every answer of a log is a message that fits into a letter: the plain law.
-/
import Derived.Test.YtjlhdfciklnndaaGreatG3
import Derived.Test.YtjlhdfciklnndaaGreatGP
namespace Go.Proofs.YtjlhdfciklnndaaGreat.E
open Go Go.RowKit
set_option linter.unusedSimpArgs false
set_option linter.unusedVariables false
theorem mGr_len (l : List ByteArray) (hl : l.length ≤ 256) (m : Nat) (hm : m ≤ l.length) : (mGr l m).length ≤ 16 := by
  unfold mGr
  split
  · simp
  · rename_i h
    have := gN_many (m := m) 8 l.length 0 l.length (by omega) (by omega) (by omega) (by simp; omega)
    simp only [List.length_map, List.length_append]
    omega
theorem mGrowthOf_len (l : List ByteArray) (m : Int) : (mGrowthOf l m).length ≤ 16 := by
  unfold mGrowthOf
  split
  · rename_i h
    simp only [mGrowOk, Bool.and_eq_true] at h
    obtain ⟨hn, hm⟩ := mGrow_nat h.2
    exact mGr_len l (by omega) _ (by omega)
  · simp
theorem mAns_wire {l : List ByteArray} {m : MMsg} (h : (mAns l m).2 = true) : mWireOk (mAns l m).1 = true := by
  unfold mAns at h ⊢
  split at h
  · rename_i h0
    rw [if_pos h0]
    simp only [Bool.and_eq_true] at h0
    obtain ⟨h1, h2⟩ := mLeavesOk_of h0.1
    have hw := WOk.of h0.2
    have hf := hw.f
    have hz := hw.z
    have hc := hw.c
    split at h
    · rename_i k1
      rw [if_pos k1]
      have hk : m.kind = 1 := by simpa using k1
      have hs : 1 ≤ m.session ∧ m.session ≤ 1000000 := by
        have h3 := h0.2
        have e1 : hS 1 = true := rfl
        simp only [mWireOk, Bool.and_eq_true, hk, e1, mPart, if_true, mIn_iff] at h3
        exact h3.2.1
      exact ok_szr2 hs (by omega)
    · rename_i k1
      rw [if_neg k1]
      split at h
      · rename_i k2
        rw [if_pos k2]
        exact ok_fzp hf hz (mGrowthOf_len _ _)
      · rename_i k2
        rw [if_neg k2]
        split at h
        · rename_i k3
          rw [if_pos k3]
          refine ok_fl hf ?_ ?_
          · unfold mFetched
            rw [List.length_take, List.length_drop]
            omega
          · simp only [leavesOk, List.all_eq_true, decide_eq_true_eq]
            intro b hb
            exact h2 b (List.mem_of_mem_drop (List.mem_of_mem_take hb))
        · cases h
  · cases h
/-- .. and read again it is the answer. -/
theorem logHear_fits {l : List ByteArray} {x : MLet} (h : (mLogHear l x).2 = true) : (mWireRead (mLogHear l x).1.text).2.1 = 0 ∧ mWireOk (mWireRead (mLogHear l x).1.text).1 = true ∧ (mLogHear l x).1.from_ = 0 ∧ (mLogHear l x).1.to_ = x.from_ ∧ mLetOk (mLogHear l x).1 = true := by
  unfold mLogHear at h ⊢
  split at h
  · rename_i h1
    rw [if_pos h1]
    split at h
    · rename_i h2
      rw [if_pos h2]
      split at h
      · rename_i h3
        rw [if_pos h3]
        have hA := mAns_ok (l := l) (m := (mWireRead x.text).1)
        have hw := mAns_wire h3
        generalize (mAns l (mWireRead x.text).1).1 = A at *
        have hr : mWireRead (mWireBytes A) = (A, 0, 0) := by
          unfold mWireBytes
          rw [if_pos hw]
          exact wire_read hw hA.1 hA.2.1
        show (mWireRead (mWireBytes A)).2.1 = 0 ∧ mWireOk (mWireRead (mWireBytes A)).1 = true ∧ (0 : Int) = 0 ∧ x.from_ = x.from_ ∧ _
        rw [hr]
        refine ⟨rfl, hw, rfl, rfl, ?_⟩
        have hsz : (mWireBytes A).size ≤ 600 := by
          unfold mWireBytes
          rw [if_pos hw]
          have := wbL_len (WOk.of hw)
          show (bA (wbL A)).size ≤ 600
          rw [bA_size]
          omega
        simp only [mLetOk, Bool.and_eq_true, decide_eq_true_eq] at h1 ⊢
        exact ⟨by decide, h1.1, by show ((mWireBytes A).size : Int) ≤ 600; omega⟩
      · cases h
    · cases h
  · cases h
theorem logHear_none {l : List ByteArray} {x : MLet} (h : (mLogHear l x).2 = false) : (mLogHear l x).1 = ⟨0, 0, ⟨#[]⟩⟩ := by
  unfold mLogHear at h ⊢
  split at h
  · rename_i h1
    rw [if_pos h1]
    split at h
    · rename_i h2
      rw [if_pos h2]
      split at h
      · cases h
      · rename_i h3; rw [if_neg h3]
    · rename_i h2; rw [if_neg h2]
  · rename_i h1; rw [if_neg h1]
end Go.Proofs.YtjlhdfciklnndaaGreat.E
