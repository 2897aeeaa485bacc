/-
  Contracts: monitors and what they saw, in laws: read, the same, marked, held.
-/
import Derived.Test.YtjlhdfciklnndaaLC
import Derived.Test.YtjlhdfciklnndaaJ6
namespace Go.Proofs.Ytjlhdfciklnndaa.E
open Go Go.RowKit
set_option maxHeartbeats 4000000
set_option maxRecDepth 10000
set_option linter.unusedSimpArgs false
set_option linter.unusedVariables false
set_option linter.unusedSectionVars false

def MWat.ro (t : MWat) : AV := .agg (t.cs (.ro 1 (t.mon.cl.acks.map intC)) (.ro 1 (t.mon.leaves.map leafCs)) (.ro 3 (t.letters.map MLet.cs)) (.ro 13 (t.alarms.map MAl.cs)) (.ro 5 (t.acc.map MPt.cs)) (.ro 5 (t.cov.map MPt.cs)))
def MMon.mv (m : MMon) : AV := .agg (m.cs (.blk 1000000 0 [] 1 0 m.cl.acks.length) (.blk 1000001 0 [] 1 0 m.leaves.length))
def MMon.mr (m : MMon) : Sig := [(1000000, 0, one m.cl.ar), (1000001, 0, one m.lr)]
attribute [go_sem] MWat.ro MMon.mv MMon.mr
structure MWat.sm (t : MWat) : Prop where
  a : t.mon.cl.acks.length ≤ 100000
  s : t.mon.leaves.length ≤ 100000
  l : t.letters.length ≤ 100000
  x : t.alarms.length ≤ 100000
  p : t.acc.length ≤ 100000
  q : t.cov.length ≤ 100000
def kI (m : MMon) (k : Int) : List Int × Int := gMark mkInt m.cl.acks.length k
def kS (m : MMon) (k : Int) : List ByteArray × Int := gMark mkBy m.leaves.length (kI m k).2
def mkMon (m : MMon) (k : Int) : MMon := ⟨{ m.cl with acks := (kI m k).1 }, (kS m k).1, m.done⟩
theorem kI_len (m : MMon) (k : Int) : (kI m k).1.length = m.cl.acks.length := gMark_len
theorem kS_len (m : MMon) (k : Int) : (kS m k).1.length = m.leaves.length := gMark_len
theorem kI_num (m : MMon) (k : Int) : (kI m k).2 = k + 1 * m.cl.acks.length := mkInt_num _ _
theorem kS_num (m : MMon) (k : Int) : (kS m k).2 = (kI m k).2 + m.leaves.length := mkBy_num _ _
def MWat.mv (t : MWat) : AV := .agg (t.cs (.blk 1000000 0 [] 1 0 t.mon.cl.acks.length) (.blk 1000001 0 [] 1 0 t.mon.leaves.length) (.blk 1000002 0 [] 3 0 t.letters.length) (.blk 1000003 0 [] 13 0 t.alarms.length) (.blk 1000004 0 [] 5 0 t.acc.length) (.blk 1000005 0 [] 5 0 t.cov.length))
def MWat.mr (t : MWat) : Sig := [(1000000, 0, one t.mon.cl.ar), (1000001, 0, one t.mon.lr), (1000002, 0, one ⟨3, t.letters.map MLet.cs, 2, false⟩), (1000003, 0, one ⟨13, t.alarms.map MAl.cs, 2, false⟩), (1000004, 0, one ⟨5, t.acc.map MPt.cs, 2, false⟩), (1000005, 0, one ⟨5, t.cov.map MPt.cs, 2, false⟩)]
attribute [go_sem] MWat.mv MWat.mr
def wL (t : MWat) (k : Int) : List MLet × Int := gMark mkLetter t.letters.length (kS t.mon k).2
def wX (t : MWat) (k : Int) : List MAl × Int := gMark mkAlarm t.alarms.length (wL t k).2
def wP (t : MWat) (k : Int) : List MPt × Int := gMark mkPoint t.acc.length (wX t k).2
def wQ (t : MWat) (k : Int) : List MPt × Int := gMark mkPoint t.cov.length (wP t k).2
def mkWat (t : MWat) (k : Int) : MWat := ⟨mkMon t.mon k, (wL t k).1, (wX t k).1, (wP t k).1, (wQ t k).1⟩
structure WB (t : MWat) (k : Int) : Prop where
  s : 0 ≤ (kS t.mon k).2 ∧ (kS t.mon k).2 ≤ 1000000000
  l : 0 ≤ (wL t k).2 ∧ (wL t k).2 ≤ 1000000000
  x : 0 ≤ (wX t k).2 ∧ (wX t k).2 ≤ 1000000000
  p : 0 ≤ (wP t k).2 ∧ (wP t k).2 ≤ 1000000000
  q : 0 ≤ (wQ t k).2 ∧ (wQ t k).2 ≤ 1000000000
theorem wb {t : MWat} (h : t.sm) {k : Int} (hk : 0 ≤ k ∧ k ≤ 1000000) : WB t k := by
  have h1 := h.a
  have h2 := h.s
  have h3 := h.l
  have h4 := h.x
  have h5 := h.p
  have h6 := h.q
  have e0 := kI_num t.mon k
  have e1 := kS_num t.mon k
  have e2 : (wL t k).2 = (kS t.mon k).2 + 3 * t.letters.length := mkLetter_num _ _
  have e3 : (wX t k).2 = (wL t k).2 + 13 * t.alarms.length := mkAlarm_num _ _
  have e4 : (wP t k).2 = (wX t k).2 + 5 * t.acc.length := mkPoint_num _ _
  have e5 : (wQ t k).2 = (wP t k).2 + 5 * t.cov.length := mkPoint_num _ _
  exact ⟨by omega, by omega, by omega, by omega, by omega⟩
end Go.Proofs.Ytjlhdfciklnndaa.E
