/-
  Contracts: monitors that are ok; their copies.
-/
import Derived.Test.YtjlhdfciklnndaaH3
import Derived.Test.YtjlhdfciklnndaaF7
namespace Go.Proofs.Ytjlhdfciklnndaa.E
open Go Go.RowKit
set_option maxHeartbeats 4000000
set_option maxRecDepth 10000
set_option linter.unusedSimpArgs false
set_option linter.unusedVariables false
set_option linter.unusedSectionVars false
def dcJ1 : Dec := ⟨[], [9, 10, 11], [22, 43, 84, 88, 103], false⟩

structure MMon where
  cl : MCl
  leaves : List ByteArray
  done : MPt
def MMon.cs (m : MMon) (a l : AV) : List AV := m.cl.cs a ++ (l :: m.done.cs)
def MMon.ro (m : MMon) : AV := .agg (m.cs (.ro 1 (m.cl.acks.map intC)) (.ro 1 (m.leaves.map leafCs)))
attribute [go_sem] MMon.cs MMon.ro
def eqDg (a b : MDig) : Bool := ((a.a : Int) == b.a) && (((a.b : Int) == b.b) && (((a.c : Int) == b.c) && ((a.d : Int) == b.d)))
def mMonOk (m : MMon) : Bool :=
  mClOk m.cl && (mLeavesOk m.leaves && (decide ((m.leaves.length : Int) ≤ m.cl.pin.size) && (if eqPt m.done .zero then decide ((m.leaves.length : Int) < m.cl.pin.size) || m.cl.pin.size == 0
    else mIn m.done.size 1 m.leaves.length && (eqDg (mRoot (m.leaves.take m.done.size.toNat)).dig m.done.root && (decide ((m.leaves.length : Int) < m.cl.pin.size) || eqPt m.done m.cl.pin)))))
theorem mLeavesOk_take {l : List ByteArray} (h : mLeavesOk l = true) (n : Nat) : mLeavesOk (l.take n) = true := by
  obtain ⟨h1, h2⟩ := mLeavesOk_of h
  simp only [mLeavesOk, Bool.and_eq_true, decide_eq_true_eq, leavesOk, List.all_eq_true, List.length_take]
  exact ⟨by omega, fun b hb => h2 b (List.mem_of_mem_take hb)⟩
theorem eqDg_comm (a b : MDig) : eqDg a b = eqDg b a := by
  unfold eqDg
  rw [BEq.comm (a := (a.a : Int)), BEq.comm (a := (a.b : Int)), BEq.comm (a := (a.c : Int)), BEq.comm (a := (a.d : Int))]
end Go.Proofs.Ytjlhdfciklnndaa.E
