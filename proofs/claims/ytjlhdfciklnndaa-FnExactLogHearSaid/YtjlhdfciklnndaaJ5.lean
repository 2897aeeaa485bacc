/-
  Contracts: a monitor's tick, and what it hears, in the program.
-/
import Derived.Test.YtjlhdfciklnndaaJ4
import Derived.Test.YtjlhdfciklnndaaK1
namespace Go.Proofs.Ytjlhdfciklnndaa.E
open Go Go.RowKit
set_option maxHeartbeats 4000000
set_option maxRecDepth 10000
set_option linter.unusedSimpArgs false
set_option linter.unusedVariables false
set_option linter.unusedSectionVars false

def mFetch (a n : Int) : MMsg := ⟨7, 0, a, 0, dig0, n, [], []⟩
def mMTick (m : MMon) (me : Int) : MWat :=
  if mMonOk m && mIn me 1 20 then (if (m.leaves.length : Int) < m.cl.pin.size then ⟨m, [⟨me, 0, mWireBytes (mFetch m.leaves.length (min (m.cl.pin.size - m.leaves.length) 8))⟩], [], [], []⟩ else wOf m (mTick m.cl me)) else .zero
theorem monOk_r {m : MMon} (h : mMonOk m = true) : MRok m ∧ (m.leaves.length : Int) ≤ m.cl.pin.size := by
  simp only [mMonOk, Bool.and_eq_true, decide_eq_true_eq] at h
  obtain ⟨h1, h2, h3, h4⟩ := h
  refine ⟨⟨(clOk_many h1).2, h2, (clOk_p h1).z, ?_⟩, h3⟩
  split at h4
  · rename_i e
    rw [eqPt_iff.1 e]
    exact ⟨Int.le_refl _, by show (0 : Int) ≤ _; omega⟩
  · simp only [Bool.and_eq_true, mIn_iff] at h4
    omega
theorem tick_a {c : MCl} {me : Int} (h : c.acks.length ≤ 100) : (mTick c me).cl.acks.length ≤ 100 := by
  unfold mTick
  split
  · split
    · exact h
    · exact Nat.zero_le _
  · exact Nat.zero_le _
def mMHear (m : MMon) (me : Int) (l : MLet) : MWat :=
  if mMonOk m && (mIn me 1 20 && mLetOk l) then
    (if ((mWireRead l.text).2.1 == 0) && (((mWireRead l.text).1.kind == 8) && (l.from_ == 0)) then mRange m (mWireRead l.text).1 else wOf m (mHear m.cl me l)) else .zero
theorem wire_leaves {s : ByteArray} (h : (mWireRead s).2.1 = 0) : leavesOk (mWireRead s).1.leaves = true := (WOk.of (wire_inv s h).1).lo
end Go.Proofs.Ytjlhdfciklnndaa.E
