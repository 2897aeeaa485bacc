/-
  Contracts: what comes of a letter to a client, in the program, whole.
-/
import Derived.Test.YtjlhdfciklnndaaF6
namespace Go.Proofs.Ytjlhdfciklnndaa.E
open Go Go.RowKit
set_option maxHeartbeats 4000000
set_option maxRecDepth 10000
set_option linter.unusedSimpArgs false
set_option linter.unusedVariables false
set_option linter.unusedSectionVars false

theorem mHead_small (c : MCl) (me : Int) (p : MPt) (hm : c.many ≤ 100) : (mHead c me p).letters.length * 32 ≤ 140737488355328 := by
  unfold mHead
  split
  · simp [MTold.base]
  · split
    · simp
    · simp; omega
theorem mAck_small (c : MCl) (w : Int) : (mAck c w).letters.length * 32 ≤ 140737488355328 := by
  unfold mAck
  split <;> simp
def mAsk (s : Int) : MMsg := ⟨1, s, 0, 0, ⟨0, 0, 0, 0⟩, 0, [], []⟩
def mTick (c : MCl) (me : Int) : MTold :=
  if mClOk c && mIn me 1 20 then (if c.session = 1000000 then .base c else ⟨{ c with session := c.session + 1, phase := 1, goal := .zero, acks := [] }, [⟨me, 0, mWireBytes (mAsk (c.session + 1))⟩], [], []⟩) else .zero
end Go.Proofs.Ytjlhdfciklnndaa.E
