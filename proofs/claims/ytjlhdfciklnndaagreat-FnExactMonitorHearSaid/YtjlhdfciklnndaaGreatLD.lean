/-
  Contracts: monitors and what they saw, in laws: read, the same, marked, held.
-/
import Derived.Test.YtjlhdfciklnndaaGreatLC
import Derived.Test.YtjlhdfciklnndaaGreatJ6
namespace Go.Proofs.YtjlhdfciklnndaaGreat.E
open Go Go.RowKit
set_option maxHeartbeats 4000000
set_option maxRecDepth 10000
set_option linter.unusedSimpArgs false
set_option linter.unusedVariables false
set_option linter.unusedSectionVars false
def dcLD : Dec := ⟨[(18, .cm [true, false]), (72, .cm [false]), (84, .cm [true, false]), (85, .cm [true, false]), (86, .cm [true, false]), (87, .cm [true, false]), (88, .cm [true, false])], [9, 10, 11], [27, 30, 44, 45, 46, 58, 68, 78, 79, 86, 101, 112, 113, 132, 174, 196, 247, 249, 351, 356], false⟩

def MWat.ro (t : MWat) : AV := .agg (t.cs (.ro 1 (t.mon.cl.acks.map intC)) (.ro 1 (t.mon.leaves.map leafCs)) (.ro 3 (t.letters.map MLet.cs)) (.ro 13 (t.alarms.map MAl.cs)) (.ro 5 (t.acc.map MPt.cs)) (.ro 5 (t.cov.map MPt.cs)))
def MMon.mv (m : MMon) : AV := .agg (m.cs (.blk 1000000 0 [] 1 0 m.cl.acks.length) (.blk 1000001 0 [] 1 0 m.leaves.length))
def MMon.mr (m : MMon) : Sig := [(1000000, 0, one m.cl.ar), (1000001, 0, one m.lr)]
attribute [go_sem] MWat.ro MMon.mv MMon.mr
structure MWat.sm (t : MWat) : Prop where
  a : t.mon.cl.acks.length ≤ 100000
  s : t.mon.leaves.length ≤ 100000
  l : t.letters.length ≤ 100000
  x : t.alarms.length ≤ 100000
  p : t.acc.length ≤ 100000
  q : t.cov.length ≤ 100000
theorem c17_c (m : MMon) (h1 : m.cl.acks.length ≤ maxLen) (h2 : m.leaves.length ≤ maxLen) : CallR Tryz.prog 17 [m.ro, m.ro] (vB true) [] := by
  refine use_of dcLD false Tryz.f17 ?_
  conv => enter [1]; reduce
  refine jvR Tryz.f17 23 [.tmp 4] (by kernel_rfl) (by decide +kernel) rfl ?_
  simp -implicitDefEqProofs only [go_sem]
  repeat' first | (refine Want.intro (by first | exact c81_c m.cl h1 | exact r82_c m.leaves h2 | exact c83_c m.done) ?_; try simp -implicitDefEqProofs only [go_sem]) | (refine WantM.intro (by first | exact c81_c m.cl h1 | exact r82_c m.leaves h2 | exact c83_c m.done) ?_; try simp -implicitDefEqProofs only [go_sem]) | (refine guardP_intro (fun h => ?_) (fun h => ?_) <;> try simp -implicitDefEqProofs only [go_sem, h]) | (refine condJ_intro (fun h => ?_) (fun h => ?_) <;> try simp -implicitDefEqProofs only [go_sem, h])
theorem c16_c (t : MWat) (h : t.sm) : CallR Tryz.prog 16 [t.ro, t.ro] (vB true) [] := by
  refine use_of dcLD false Tryz.f16 ?_
  conv => enter [1]; reduce
  refine jvR Tryz.f16 35 [.tmp 4] (by kernel_rfl) (by decide +kernel) rfl ?_
  simp -implicitDefEqProofs only [go_sem]
  repeat' first | (refine Want.intro (by first | exact c17_c t.mon (mx h.a) (mx h.s) | exact r78_c _ (mx h.l) | exact r79_c _ (mx h.x) | exact r80_c _ (mx h.p) | exact r80_c _ (mx h.q)) ?_; try simp -implicitDefEqProofs only [go_sem]) | (refine WantM.intro (by first | exact c17_c t.mon (mx h.a) (mx h.s) | exact r78_c _ (mx h.l) | exact r79_c _ (mx h.x) | exact r80_c _ (mx h.p) | exact r80_c _ (mx h.q)) ?_; try simp -implicitDefEqProofs only [go_sem]) | (refine guardP_intro (fun h => ?_) (fun h => ?_) <;> try simp -implicitDefEqProofs only [go_sem, h]) | (refine condJ_intro (fun h => ?_) (fun h => ?_) <;> try simp -implicitDefEqProofs only [go_sem, h])
theorem c13_c (m : MMon) (h1 : m.cl.acks.length ≤ 1048576) (h2 : m.leaves.length ≤ 1048576) : CallM Tryz.prog 13 [] [m.ro] m.avC m.outC := by
  refine use_of dcLD false Tryz.f13 ?_
  conv => enter [1]; reduce
  refine jvM Tryz.f13 17 [.cell 2 43] (by kernel_rfl) (by decide +kernel) rfl ?_
  simp -implicitDefEqProofs only [go_sem]
  refine WantM.intro (c72_c m.cl h1) ?_
  simp -implicitDefEqProofs only [go_sem]
  refine Want.intro (c73_c m.leaves h2) ?_
  simp -implicitDefEqProofs only [go_sem]
  refine Want.intro (c34_c m.done) ?_
  simp -implicitDefEqProofs only [go_sem]
def kI (m : MMon) (k : Int) : List Int × Int := gMark mkInt m.cl.acks.length k
def kS (m : MMon) (k : Int) : List ByteArray × Int := gMark mkBy m.leaves.length (kI m k).2
def mkMon (m : MMon) (k : Int) : MMon := ⟨{ m.cl with acks := (kI m k).1 }, (kS m k).1, m.done⟩
theorem kI_len (m : MMon) (k : Int) : (kI m k).1.length = m.cl.acks.length := gMark_len
theorem kS_len (m : MMon) (k : Int) : (kS m k).1.length = m.leaves.length := gMark_len
theorem kI_num (m : MMon) (k : Int) : (kI m k).2 = k + 1 * m.cl.acks.length := mkInt_num _ _
theorem kS_num (m : MMon) (k : Int) : (kS m k).2 = (kI m k).2 + m.leaves.length := mkBy_num _ _
theorem c18_c (m : MMon) (k : Int) (h1 : m.cl.acks.length ≤ 1048576) (h2 : m.leaves.length ≤ 1048576) (hk : 0 ≤ k ∧ k ≤ 1000000) : CallM Tryz.prog 18 m.mr [m.mv, vI k] (vI (kS m k).2) (mkMon m k).mr := by
  refine use_of dcLD false Tryz.f18 ?_
  conv => enter [1]; reduce
  refine jvM Tryz.f18 14 [.tmp 4] (by kernel_rfl) (by decide +kernel) rfl ?_
  have n1 := kI_num m k
  simp -implicitDefEqProofs only [go_sem, mkMon]
  refine WantM.intro (c84_c m.cl k h1 hk) ?_
  simp -implicitDefEqProofs only [go_sem]
  refine WantM.intro (mS85_c m.leaves (kI m k).2 (by omega) (by omega)) ?_
  simp -implicitDefEqProofs only [go_sem]
  exact ⟨rfl, rfl⟩
theorem c89_c (m : MMon) (k : Int) (h1 : m.cl.acks.length ≤ 100000) (h2 : m.leaves.length ≤ 100000) (hk : 0 ≤ k ∧ k ≤ 1000000) : CallR Tryz.prog 89 [(mkMon m k).ro, vI k] (vI (kS m k).2) [] := by
  refine use_of dcLD false Tryz.f89 ?_
  conv => enter [1]; reduce
  refine jvR Tryz.f89 18 [.tmp 4] (by kernel_rfl) (by decide +kernel) rfl ?_
  have e1 := kI_num m k
  have e2 := kS_num m k
  have n1 : ¬ ((kI m k).2 < 0) := by omega
  have n2 : ¬ ((kS m k).2 < 0) := by omega
  simp -implicitDefEqProofs only [go_sem, mkMon]
  refine Want.intro (c197_c m.cl m.cl.acks.length k h1 hk) ?_
  have f1 : gMark mkInt m.cl.acks.length k = kI m k := rfl
  rw [f1]
  simp -implicitDefEqProofs only [go_sem, n1]
  refine Want.intro (r198_c m.leaves.length (kI m k).2 (by omega) (by omega)) ?_
  have f2 : gMark mkBy m.leaves.length (kI m k).2 = kS m k := rfl
  rw [f2]
  simp -implicitDefEqProofs only [go_sem, n2]
def MWat.mv (t : MWat) : AV := .agg (t.cs (.blk 1000000 0 [] 1 0 t.mon.cl.acks.length) (.blk 1000001 0 [] 1 0 t.mon.leaves.length) (.blk 1000002 0 [] 3 0 t.letters.length) (.blk 1000003 0 [] 13 0 t.alarms.length) (.blk 1000004 0 [] 5 0 t.acc.length) (.blk 1000005 0 [] 5 0 t.cov.length))
def MWat.mr (t : MWat) : Sig := [(1000000, 0, one t.mon.cl.ar), (1000001, 0, one t.mon.lr), (1000002, 0, one ⟨3, t.letters.map MLet.cs, 2, false⟩), (1000003, 0, one ⟨13, t.alarms.map MAl.cs, 2, false⟩), (1000004, 0, one ⟨5, t.acc.map MPt.cs, 2, false⟩), (1000005, 0, one ⟨5, t.cov.map MPt.cs, 2, false⟩)]
attribute [go_sem] MWat.mv MWat.mr
def wL (t : MWat) (k : Int) : List MLet × Int := gMark mkLetter t.letters.length (kS t.mon k).2
def wX (t : MWat) (k : Int) : List MAl × Int := gMark mkAlarm t.alarms.length (wL t k).2
def wP (t : MWat) (k : Int) : List MPt × Int := gMark mkPoint t.acc.length (wX t k).2
def wQ (t : MWat) (k : Int) : List MPt × Int := gMark mkPoint t.cov.length (wP t k).2
def mkWat (t : MWat) (k : Int) : MWat := ⟨mkMon t.mon k, (wL t k).1, (wX t k).1, (wP t k).1, (wQ t k).1⟩
structure WB (t : MWat) (k : Int) : Prop where
  s : 0 ≤ (kS t.mon k).2 ∧ (kS t.mon k).2 ≤ 1000000000
  l : 0 ≤ (wL t k).2 ∧ (wL t k).2 ≤ 1000000000
  x : 0 ≤ (wX t k).2 ∧ (wX t k).2 ≤ 1000000000
  p : 0 ≤ (wP t k).2 ∧ (wP t k).2 ≤ 1000000000
  q : 0 ≤ (wQ t k).2 ∧ (wQ t k).2 ≤ 1000000000
theorem wb {t : MWat} (h : t.sm) {k : Int} (hk : 0 ≤ k ∧ k ≤ 1000000) : WB t k := by
  have h1 := h.a
  have h2 := h.s
  have h3 := h.l
  have h4 := h.x
  have h5 := h.p
  have h6 := h.q
  have e0 := kI_num t.mon k
  have e1 := kS_num t.mon k
  have e2 : (wL t k).2 = (kS t.mon k).2 + 3 * t.letters.length := mkLetter_num _ _
  have e3 : (wX t k).2 = (wL t k).2 + 13 * t.alarms.length := mkAlarm_num _ _
  have e4 : (wP t k).2 = (wX t k).2 + 5 * t.acc.length := mkPoint_num _ _
  have e5 : (wQ t k).2 = (wP t k).2 + 5 * t.cov.length := mkPoint_num _ _
  exact ⟨by omega, by omega, by omega, by omega, by omega⟩
theorem c19_c (t : MWat) (k : Int) (h : t.sm) (hk : 0 ≤ k ∧ k ≤ 1000000) : CallM Tryz.prog 19 t.mr [t.mv, vI k] (vI (wQ t k).2) (mkWat t k).mr := by
  refine use_of dcLD false Tryz.f19 ?_
  conv => enter [1]; reduce
  refine jvM Tryz.f19 26 [.tmp 4] (by kernel_rfl) (by decide +kernel) rfl ?_
  have hb := wb h hk
  have h1 := h.a
  have h2 := h.s
  have h3 := h.l
  have h4 := h.x
  have h5 := h.p
  have h6 := h.q
  have b0 := hb.s
  have b1 := hb.l
  have b2 := hb.x
  have b3 := hb.p
  simp -implicitDefEqProofs only [go_sem, mkWat]
  refine WantM.intro (c18_c t.mon k (by omega) (by omega) hk) ?_
  simp -implicitDefEqProofs only [go_sem, mkMon]
  refine WantM.intro (c86_c t.letters (kS t.mon k).2 (by omega) (by omega)) ?_
  simp -implicitDefEqProofs only [go_sem]
  refine WantM.intro (c87_c t.alarms (wL t k).2 (by omega) (by omega)) ?_
  simp -implicitDefEqProofs only [go_sem]
  refine WantM.intro (c88_c t.acc (wX t k).2 (by omega) (by omega)) ?_
  simp -implicitDefEqProofs only [go_sem]
  refine WantM.intro (c88_c t.cov (wP t k).2 (by omega) (by omega)) ?_
  simp -implicitDefEqProofs only [go_sem]
  exact ⟨rfl, rfl⟩
theorem c20_c (t : MWat) (k : Int) (h : t.sm) (hk : 0 ≤ k ∧ k ≤ 1000000) : CallR Tryz.prog 20 [(mkWat t k).ro, vI k] (vI (wQ t k).2) [] := by
  refine use_of dcLD false Tryz.f20 ?_
  conv => enter [1]; reduce
  refine jvR Tryz.f20 36 [.tmp 4] (by kernel_rfl) (by decide +kernel) rfl ?_
  have hb := wb h hk
  have h1 := h.a
  have h2 := h.s
  have h3 := h.l
  have h4 := h.x
  have h5 := h.p
  have h6 := h.q
  have b0 := hb.s
  have b1 := hb.l
  have b2 := hb.x
  have b3 := hb.p
  have b4 := hb.q
  have n0 : ¬ ((kS t.mon k).2 < 0) := by omega
  have n1 : ¬ ((wL t k).2 < 0) := by omega
  have n2 : ¬ ((wX t k).2 < 0) := by omega
  have n3 : ¬ ((wP t k).2 < 0) := by omega
  have n4 : ¬ ((wQ t k).2 < 0) := by omega
  simp -implicitDefEqProofs only [go_sem, mkWat]
  refine Want.intro (c89_c t.mon k h1 h2 hk) ?_
  simp -implicitDefEqProofs only [go_sem, n0]
  refine Want.intro (r90_c t.letters.length (kS t.mon k).2 (by omega) (by omega)) ?_
  have e2 : gMark mkLetter t.letters.length (kS t.mon k).2 = wL t k := rfl
  rw [e2]
  simp -implicitDefEqProofs only [go_sem, n1]
  refine Want.intro (r91_c t.alarms.length (wL t k).2 (by omega) (by omega)) ?_
  have e3 : gMark mkAlarm t.alarms.length (wL t k).2 = wX t k := rfl
  rw [e3]
  simp -implicitDefEqProofs only [go_sem, n2]
  refine Want.intro (r92_c t.acc.length (wX t k).2 (by omega) (by omega)) ?_
  have e4 : gMark mkPoint t.acc.length (wX t k).2 = wP t k := rfl
  rw [e4]
  simp -implicitDefEqProofs only [go_sem, n3]
  refine Want.intro (r92_c t.cov.length (wP t k).2 (by omega) (by omega)) ?_
  have e5 : gMark mkPoint t.cov.length (wP t k).2 = wQ t k := rfl
  rw [e5]
  simp -implicitDefEqProofs only [go_sem, n4]
end Go.Proofs.YtjlhdfciklnndaaGreat.E
