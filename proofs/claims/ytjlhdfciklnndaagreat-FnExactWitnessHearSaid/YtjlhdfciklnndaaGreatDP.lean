/-
  What the messages of each kind ask, when drawn.
-/
import Derived.Test.YtjlhdfciklnndaaGreatD13
namespace Go.Proofs.YtjlhdfciklnndaaGreat.E
open Go Go.RowKit
set_option maxHeartbeats 4000000
set_option maxRecDepth 10000
set_option linter.unusedSimpArgs false
set_option linter.unusedVariables false
set_option linter.unusedSectionVars false
theorem ok_s {S : Int} (h : 1 ≤ S ∧ S ≤ 1000000) : mWireOk ⟨1, S, 0, 0, dig0, 0, [], []⟩ = true := by simp [mWireOk, hlits, mIn_lits, mPart, mIn, eqDig, dig0, leavesOk, h.1, h.2]
theorem ok_szr2 {S Z : Int} {d : MDig} (h : 1 ≤ S ∧ S ≤ 1000000) (k : 0 ≤ Z ∧ Z ≤ 256) : mWireOk ⟨2, S, 0, Z, d, 0, [], []⟩ = true := by simp [mWireOk, hlits, mIn_lits, mPart, mIn, leavesOk, h.1, h.2, k.1, k.2]
theorem ok_szr3 {S Z : Int} {d : MDig} (h : 1 ≤ S ∧ S ≤ 1000000) (k : 0 ≤ Z ∧ Z ≤ 256) : mWireOk ⟨3, S, 0, Z, d, 0, [], []⟩ = true := by simp [mWireOk, hlits, mIn_lits, mPart, mIn, leavesOk, h.1, h.2, k.1, k.2]
theorem ok_szr6 {S Z : Int} {d : MDig} (h : 1 ≤ S ∧ S ≤ 1000000) (k : 0 ≤ Z ∧ Z ≤ 256) : mWireOk ⟨6, S, 0, Z, d, 0, [], []⟩ = true := by simp [mWireOk, hlits, mIn_lits, mPart, mIn, leavesOk, h.1, h.2, k.1, k.2]
theorem ok_fz {F Z : Int} (h : 0 ≤ F ∧ F ≤ 256) (k : 0 ≤ Z ∧ Z ≤ 256) : mWireOk ⟨4, 0, F, Z, dig0, 0, [], []⟩ = true := by simp [mWireOk, hlits, mIn_lits, mPart, mIn, eqDig, dig0, leavesOk, h.1, h.2, k.1, k.2]
theorem ok_fzp {F Z : Int} {p : List MDig} (h : 0 ≤ F ∧ F ≤ 256) (k : 0 ≤ Z ∧ Z ≤ 256) (hp : p.length ≤ 16) : mWireOk ⟨5, 0, F, Z, dig0, 0, p, []⟩ = true := by simp [mWireOk, hlits, mIn_lits, mPart, mIn, eqDig, dig0, leavesOk, h.1, h.2, k.1, k.2]; omega
theorem ok_fc {F C : Int} (h : 0 ≤ F ∧ F ≤ 256) (k : 1 ≤ C ∧ C ≤ 8) : mWireOk ⟨7, 0, F, 0, dig0, C, [], []⟩ = true := by simp [mWireOk, hlits, mIn_lits, mPart, mIn, eqDig, dig0, leavesOk, h.1, h.2, k.1, k.2]
theorem ok_fl {F : Int} {l : List ByteArray} (h : 0 ≤ F ∧ F ≤ 256) (k : l.length ≤ 8) (hl : leavesOk l = true) : mWireOk ⟨8, 0, F, 0, dig0, 0, [], l⟩ = true := by simp [mWireOk, hlits, mIn_lits, mPart, mIn, eqDig, dig0, h.1, h.2, hl]; omega
theorem dig0_ok : dig0.ok := ⟨by decide, by decide, by decide, by decide⟩
end Go.Proofs.YtjlhdfciklnndaaGreat.E
