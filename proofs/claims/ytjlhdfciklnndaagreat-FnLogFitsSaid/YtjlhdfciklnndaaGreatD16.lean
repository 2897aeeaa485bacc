/-
  Contracts: messages that are drawn, spoilt.
-/
import Derived.Test.YtjlhdfciklnndaaGreatD15
namespace Go.Proofs.YtjlhdfciklnndaaGreat.E
open Go Go.RowKit
set_option maxHeartbeats 4000000
set_option maxRecDepth 10000
set_option linter.unusedSimpArgs false
set_option linter.unusedVariables false
set_option linter.unusedSectionVars false

def MMsg.avK (m : MMsg) (a b : Nat) : AV := .agg [vI m.kind, vI m.session, vI m.from_, vI m.size, vU m.root.a, vU m.root.b, vU m.root.c, vU m.root.d, vI m.count, .blk a 0 [] 4 0 m.proof.length, .blk b 0 [] 1 0 m.leaves.length]
def MMsg.pr (m : MMsg) : Row := ⟨4, m.proof.map MDig.cs, 2, false⟩
def MMsg.lr (m : MMsg) : Row := ⟨1, m.leaves.map leafCs, 2, false⟩
def Dr.rr (r : Dr) : Nat × (Nat × Frag) := (1000000, 0, one ⟨2, [r.cs], 0, false⟩)
attribute [go_sem] MMsg.avK MMsg.pr MMsg.lr Dr.rr
/-- A message that can be drawn. -/
structure DMsg (m : MMsg) : Prop where
  r : m.root.ok
  d : ∀ d ∈ m.proof, d.ok
  p : m.proof.length ≤ 100
  l : m.leaves.length ≤ 100
  s : ∀ s ∈ m.leaves, s.size ≤ 100
inductive SpForm (m : MMsg) (r : Dr) : AV → Sig → Prop
  | a : SpForm m r (m.avK 1000001 1000002) [r.rr, (1000001, 0, one m.pr), (1000002, 0, one m.lr)]
  | b : SpForm m r (m.avK 0 1000002) [r.rr, (1000002, 0, one m.lr), (0, 0, one m.pr)]
  | c : SpForm m r (m.avK 1000001 0) [r.rr, (1000001, 0, one m.pr), (0, 0, one m.lr)]
def PostSp (r : Dr) (res : AV) (σ : Sig) : Prop := ∃ (m : MMsg) (r' : Dr), SpForm m r' res σ ∧ DMsg m ∧ r'.ok (r.p + 100)
theorem DMsg.with {m m' : MMsg} (h : DMsg m) (hr : m'.root.ok) (hp : m'.proof = m.proof) (hl : m'.leaves = m.leaves) : DMsg m' := ⟨hr, by rw [hp]; exact h.d, by rw [hp]; exact h.p, by rw [hl]; exact h.l, by rw [hl]; exact h.s⟩
theorem get4 (a b c d : Int) {v : Nat} (h : v < 4) : ∃ x, ([[vI a], [vI b], [vI c], [vI d]] : List (List AV))[v]? = some [vI x] := by
  have : v = 0 ∨ v = 1 ∨ v = 2 ∨ v = 3 := by omega
  rcases this with rfl | rfl | rfl | rfl
  · exact ⟨a, rfl⟩
  · exact ⟨b, rfl⟩
  · exact ⟨c, rfl⟩
  · exact ⟨d, rfl⟩
theorem get3 (a b c : Int) {v : Nat} (h : v < 3) : ∃ x, ([[vI a], [vI b], [vI c]] : List (List AV))[v]? = some [vI x] := by
  have : v = 0 ∨ v = 1 ∨ v = 2 := by omega
  rcases this with rfl | rfl | rfl
  · exact ⟨a, rfl⟩
  · exact ⟨b, rfl⟩
  · exact ⟨c, rfl⟩
end Go.Proofs.YtjlhdfciklnndaaGreat.E
