/-
  Contracts: what comes of a letter to a client, in the reference.
-/
import Derived.Test.YtjlhdfciklnndaaF4
import Derived.Test.YtjlhdfciklnndaaD21
namespace Go.Proofs.Ytjlhdfciklnndaa.E
open Go Go.RowKit
set_option maxHeartbeats 4000000
set_option maxRecDepth 10000
set_option linter.unusedSimpArgs false
set_option linter.unusedVariables false
set_option linter.unusedSectionVars false
def MCl.zero : MCl := ⟨0, 0, 0, 0, .zero, [], .zero⟩
def MTold.zero : MTold := ⟨.zero, [], [], []⟩
def hearOk (c : MCl) (me : Int) (l : MLet) : Bool := mClOk c && (mIn me 1 20 && mLetOk l)
def hearHd (c : MCl) (l : MLet) (W : MMsg × Int × Int) : Bool := (W.2.1 == 0) && ((W.1.kind == 2) && ((l.from_ == 0) && ((c.phase == 1) && (W.1.session == c.session))))
def hearAk (c : MCl) (l : MLet) (W : MMsg × Int × Int) : Bool := ((W.2.1 == 0) && ((W.1.kind == 6) && (mIn l.from_ 1 c.many && ((c.phase == 2) && (W.1.session == c.session))))) && eqP ⟨W.1.size, W.1.root⟩ c.goal
def mHear (c : MCl) (me : Int) (l : MLet) : MTold :=
  if hearOk c me l then (if hearHd c l (mWireRead l.text) then mHead c me ⟨(mWireRead l.text).1.size, (mWireRead l.text).1.root⟩ else if hearAk c l (mWireRead l.text) then mAck c l.from_ else .base c) else .zero
theorem mWire_ok {s : ByteArray} : (mWireRead s).1.root.ok := by
  generalize hW : mWireRead s = W
  obtain ⟨m, c, a⟩ := W
  by_cases hc : c = 0
  · have := wire_inv s
    rw [hW] at this
    exact (this hc).2.1
  · have := wire_bad hW hc
    subst this
    exact dig0_ok
theorem clOk_many {c : MCl} (h : mClOk c = true) : c.many ≤ 100 ∧ c.acks.length ≤ 100 := by
  simp only [mClOk, Bool.and_eq_true] at h
  obtain ⟨h1, h2, h3, h4, h5, h6⟩ := h
  have k1 := mIn_iff.1 h1
  have k2 := mIn_iff.1 h2
  refine ⟨by omega, ?_⟩
  split at h6
  · simp only [Bool.and_eq_true, beq_iff_eq] at h6
    omega
  · simp only [Bool.and_eq_true, decide_eq_true_eq] at h6
    omega
end Go.Proofs.Ytjlhdfciklnndaa.E
