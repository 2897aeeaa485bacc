/-
  Contracts: messages that are the same, marked, held; the law of WireRead.
-/
import Derived.Test.YtjlhdfciklnndaaGreatD6
namespace Go.Proofs.YtjlhdfciklnndaaGreat.E
open Go Go.RowKit
set_option maxHeartbeats 4000000
set_option maxRecDepth 10000
set_option linter.unusedSimpArgs false
set_option linter.unusedVariables false
set_option linter.unusedSectionVars false

def MMsg.ro (m : MMsg) : AV := .agg [vI m.kind, vI m.session, vI m.from_, vI m.size, vU m.root.a, vU m.root.b, vU m.root.c, vU m.root.d, vI m.count, .ro 4 (m.proof.map MDig.cs), .ro 1 (m.leaves.map leafCs)]
def MMsg.mv (m : MMsg) : AV := .agg [vI m.kind, vI m.session, vI m.from_, vI m.size, vU m.root.a, vU m.root.b, vU m.root.c, vU m.root.d, vI m.count, .blk 1000000 0 [] 4 0 m.proof.length, .blk 1000001 0 [] 1 0 m.leaves.length]
attribute [go_sem] MMsg.ro MMsg.mv
def mkMsg (m : MMsg) (k : Int) : MMsg := { m with proof := (gMark mkDig m.proof.length k).1, leaves := (gMark mkBy m.leaves.length (gMark mkDig m.proof.length k).2).1 }
def mkMsgN (m : MMsg) (k : Int) : Int := (gMark mkBy m.leaves.length (gMark mkDig m.proof.length k).2).2
theorem mParts_len {text : ByteArray} (r : MRd) (z : Int) (k : Nat) : (mParts k (r, { MMsg.zero with kind := z })).2.proof.length ≤ 1000 ∧ (mParts k (r, { MMsg.zero with kind := z })).2.leaves.length ≤ 1000 := by
  unfold mParts
  split <;> first
    | exact ⟨Nat.zero_le _, Nat.zero_le _⟩
    | (refine ⟨?_, Nat.zero_le _⟩
       show (mDigs _ _).1.length ≤ 1000
       rw [mDigs_len]
       have := mNum_bd (pZ (pF (r, { MMsg.zero with kind := z }))).1 1 16 (by omega)
       omega)
    | (refine ⟨Nat.zero_le _, ?_⟩
       show (mLeafs _ _).1.length ≤ 1000
       rw [mLeafs_len]
       have := mNum_bd (pF (r, { MMsg.zero with kind := z })).1 1 8 (by omega)
       omega)
theorem mWire_len (text : ByteArray) : (mWireRead text).1.proof.length ≤ 1000 ∧ (mWireRead text).1.leaves.length ≤ 1000 := by
  unfold mWireRead
  split
  · exact ⟨Nat.zero_le _, Nat.zero_le _⟩
  · split
    · unfold mEnd
      split
      · split
        · exact ⟨Nat.zero_le _, Nat.zero_le _⟩
        · exact mParts_len (text := text) _ _ _
      · exact ⟨Nat.zero_le _, Nat.zero_le _⟩
    · exact ⟨Nat.zero_le _, Nat.zero_le _⟩
end Go.Proofs.YtjlhdfciklnndaaGreat.E
