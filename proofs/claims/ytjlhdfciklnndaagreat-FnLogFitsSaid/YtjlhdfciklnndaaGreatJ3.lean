/-
  Contracts: monitors copied; what comes of what their clients are told.
-/
import Derived.Test.YtjlhdfciklnndaaGreatJ1
namespace Go.Proofs.YtjlhdfciklnndaaGreat.E
open Go Go.RowKit
set_option maxHeartbeats 4000000
set_option maxRecDepth 10000
set_option linter.unusedSimpArgs false
set_option linter.unusedVariables false
set_option linter.unusedSectionVars false
def dcJ3 : Dec := ⟨[(179, .cn [false]), (183, .cm [false]), (188, .cn [false]), (189, .cm [false])], [9, 10, 11], [27, 30, 44, 45, 46, 58, 68, 78, 79, 86, 101, 112, 113, 132, 174, 196, 247, 249, 351, 356], false⟩

theorem c180_c (l : List ByteArray) (hl : l.length ≤ 1000) : CallR Tryz.prog 180 [.ro 1 (l.map leafCs)] (.blk 0 0 [] 1 0 l.length) [([], ⟨1, l.map leafCs, 2, false⟩)] := by
  refine use_of dcJ3 false Tryz.f180 ?_
  conv => enter [1]; reduce
  refine jvR Tryz.f180 20 [.tmp 2] (by kernel_rfl) (by decide +kernel) rfl ?_
  have hlm : l.length ≤ maxLen := by unfold maxLen; omega
  simp -implicitDefEqProofs only [go_sem]
  refine jv_lp (fun m s => ∃ i : Nat, i ≤ l.length ∧ m = l.length - i ∧ s = ⟨20, [(0, .ro 1 (l.map leafCs)), (3, .blk 3 0 [] 1 0 (l.take i).length), (4, vI i)], [(3, 0, one ⟨1, (l.take i).map leafCs, 2, false⟩)], 1⟩) l.length ?_ ?_
  · simp -implicitDefEqProofs only [go_sem]
    exact ⟨0, Nat.zero_le _, rfl, rfl⟩
  · rintro m s ⟨i, hi, rfl, rfl⟩
    rcases Nat.lt_or_ge i l.length with hlt | hge
    · have hlt' : (i : Int) < (l.length : Int) := by omega
      have hg : l[i]? = some l[i] := List.getElem?_eq_getElem hlt
      have hw := wrap_succ hlt hlm
      have ha : ∀ x, _ := fun x => app_ok (E := leafCs) (l := l.take i) (xs := [x]) (b := 16) (n := 10000) (by simp; omega) (by omega) (by omega)
      simp -implicitDefEqProofs only [go_sem, hlt', hg, hw, ha]
      refine ⟨_, by omega, i + 1, hlt, rfl, ?_⟩
      rw [take_step hlt]
      simp only [List.map_append, List.length_append, List.length_map, List.map_cons, List.map_nil, List.length_cons, List.length_nil, leafCs]
      try rfl
    · have hi : i = l.length := by omega
      subst hi
      have hlt' : ¬ ((l.length : Int) < (l.length : Int)) := by omega
      simp -implicitDefEqProofs only [go_sem, hlt', List.take_length]
def MMon.avC (m : MMon) : AV := .agg (m.cs (.blk 0 0 [] 1 0 m.cl.acks.length) (.blk 1 0 [] 1 0 m.leaves.length))
def MMon.lr (m : MMon) : Row := ⟨1, m.leaves.map leafCs, 2, false⟩
def MMon.outC (m : MMon) : Sig := [(0, 0, one m.cl.ar), (1, 0, one m.lr)]
attribute [go_sem] MMon.avC MMon.lr MMon.outC
theorem c188_c (m : MMon) (h1 : m.cl.acks.length ≤ 100) (h2 : m.leaves.length ≤ 1000) : CallM Tryz.prog 188 [] [m.ro] m.avC m.outC := by
  refine use_of dcJ3 false Tryz.f188 ?_
  conv => enter [1]; reduce
  refine jvM Tryz.f188 12 [.cell 2 43] (by kernel_rfl) (by decide +kernel) rfl ?_
  simp -implicitDefEqProofs only [go_sem]
  refine WantM.intro (c189_c m.cl h1) ?_
  simp -implicitDefEqProofs only [go_sem]
  refine Want.intro (c113_c m.leaves (by omega)) ?_
  simp -implicitDefEqProofs only [go_sem]
theorem c179_c (m : MMon) (h1 : m.cl.acks.length ≤ 100) (h2 : m.leaves.length ≤ 1000) : CallM Tryz.prog 179 [] [m.ro] m.avC m.outC := by
  refine use_of dcJ3 false Tryz.f179 ?_
  conv => enter [1]; reduce
  refine jvM Tryz.f179 12 [.cell 2 43] (by kernel_rfl) (by decide +kernel) rfl ?_
  simp -implicitDefEqProofs only [go_sem]
  refine WantM.intro (c183_c m.cl h1) ?_
  simp -implicitDefEqProofs only [go_sem]
  refine Want.intro (c180_c m.leaves h2) ?_
  simp -implicitDefEqProofs only [go_sem]
structure MWat where
  mon : MMon
  letters : List MLet
  alarms : List MAl
  acc : List MPt
  cov : List MPt
def MWat.cs (w : MWat) (a l t x p q : AV) : List AV := w.mon.cs a l ++ [t, x, p, q]
def wOf (m : MMon) (t : MTold) : MWat := ⟨{ m with cl := t.cl }, t.letters, t.alarms, t.acc, []⟩
/-- What a client is told, moved in. -/
def MTold.wv (t : MTold) : AV := .agg (t.cs (.blk 1000000 0 [] 1 0 t.cl.acks.length) (.blk 1000001 0 [] 3 0 t.letters.length) (.blk 1000002 0 [] 13 0 t.alarms.length) (.blk 1000003 0 [] 5 0 t.acc.length))
def MTold.wr (t : MTold) : Sig := [(1000000, 0, one t.cl.ar), (1000001, 0, one t.lr), (1000002, 0, one t.xr), (1000003, 0, one t.pr)]
def wOfV (m : MMon) (t : MTold) : AV := .agg (MWat.cs (wOf m t) (.blk 1000000 0 [] 1 0 t.cl.acks.length) (.blk 0 0 [] 1 0 m.leaves.length) (.blk 1000001 0 [] 3 0 t.letters.length) (.blk 1000002 0 [] 13 0 t.alarms.length) (.blk 1000003 0 [] 5 0 t.acc.length) (.blk 1 0 [] 5 0 0))
def wOfR (m : MMon) (t : MTold) : Sig := t.wr ++ [(0, 0, one m.lr), (1, 0, one ⟨5, [], 2, false⟩)]
attribute [go_sem] MWat.cs wOf MTold.wv MTold.wr wOfV wOfR
theorem c76_c (m : MMon) (t : MTold) (h1 : m.cl.acks.length ≤ 100) (h2 : m.leaves.length ≤ 1000) : CallM Tryz.prog 76 t.wr [m.ro, t.wv] (wOfV m t) (wOfR m t) := by
  refine use_of dcJ3 false Tryz.f76 ?_
  conv => enter [1]; reduce
  refine jvM Tryz.f76 19 [.cell 4 48] (by kernel_rfl) (by decide +kernel) rfl ?_
  simp -implicitDefEqProofs only [go_sem]
  refine WantM.intro (c188_c m h1 h2) ?_
  simp -implicitDefEqProofs only [go_sem]
theorem c70_c (m : MMon) (t : MTold) (h1 : m.cl.acks.length ≤ 100) (h2 : m.leaves.length ≤ 1000) : CallM Tryz.prog 70 t.wr [m.ro, t.wv] (wOfV m t) (wOfR m t) := by
  refine use_of dcJ3 false Tryz.f70 ?_
  conv => enter [1]; reduce
  refine jvM Tryz.f70 20 [.cell 4 48] (by kernel_rfl) (by decide +kernel) rfl ?_
  simp -implicitDefEqProofs only [go_sem]
  with_reducible refine And.intro ?_ ?_
  all_goals
    refine WantM.intro (c179_c m h1 h2) ?_
    simp -implicitDefEqProofs only [go_sem]
/-- .. all of it new. -/
def MWat.av (w : MWat) : AV := .agg (w.cs (.blk 0 0 [] 1 0 w.mon.cl.acks.length) (.blk 1 0 [] 1 0 w.mon.leaves.length) (.blk 2 0 [] 3 0 w.letters.length) (.blk 3 0 [] 13 0 w.alarms.length) (.blk 4 0 [] 5 0 w.acc.length) (.blk 5 0 [] 5 0 w.cov.length))
def MWat.out (w : MWat) : Sig := [(0, 0, one w.mon.cl.ar), (1, 0, one w.mon.lr), (2, 0, one ⟨3, w.letters.map MLet.cs, 2, false⟩), (3, 0, one ⟨13, w.alarms.map MAl.cs, 2, false⟩), (4, 0, one ⟨5, w.acc.map MPt.cs, 2, false⟩), (5, 0, one ⟨5, w.cov.map MPt.cs, 2, false⟩)]
def MMon.zero : MMon := ⟨.zero, [], .zero⟩
def MWat.zero : MWat := ⟨.zero, [], [], [], []⟩
def MWat.base (m : MMon) : MWat := ⟨m, [], [], [], []⟩
attribute [go_sem] MWat.av MWat.out MWat.base
def rAll (m : MMon) (x : List ByteArray) : List ByteArray := m.leaves ++ x.take (m.cl.pin.size - m.leaves.length).toNat
def mRange (m : MMon) (x : MMsg) : MWat :=
  if x.from_ ≠ m.leaves.length ∨ m.cl.pin.size ≤ m.leaves.length ∨ x.leaves = [] then .base m
  else if ((rAll m x.leaves).length : Int) < m.cl.pin.size then ⟨{ m with leaves := rAll m x.leaves }, [], [], [], []⟩
  else if eqDg (mRoot (rAll m x.leaves)).dig m.cl.pin.root then ⟨{ m with leaves := rAll m x.leaves, done := m.cl.pin }, [], [], [], [m.cl.pin]⟩
  else ⟨{ m with leaves := (rAll m x.leaves).take m.done.size.toNat }, [], [⟨3, 0, m.cl.pin, ⟨(rAll m x.leaves).length, (mRoot (rAll m x.leaves)).dig⟩, 0⟩], [], []⟩
theorem rAll_len (m : MMon) (x : List ByteArray) : (rAll m x).length = m.leaves.length + min (m.cl.pin.size - m.leaves.length).toNat x.length := by simp [rAll]
/-- What is asked of a monitor that hears a range. -/
structure MRok (m : MMon) : Prop where
  a : m.cl.acks.length ≤ 100
  l : mLeavesOk m.leaves = true
  p : 0 ≤ m.cl.pin.size ∧ m.cl.pin.size ≤ 256
  d : 0 ≤ m.done.size ∧ m.done.size ≤ m.leaves.length
theorem rAll_ok {m : MMon} {x : List ByteArray} (h : MRok m) (hx : leavesOk x = true) : mLeavesOk (rAll m x) = true := by
  obtain ⟨h1, h2⟩ := mLeavesOk_of h.l
  have hp := h.p
  simp only [mLeavesOk, Bool.and_eq_true, decide_eq_true_eq, leavesOk, List.all_eq_true] at hx ⊢
  refine ⟨by rw [rAll_len]; omega, fun b hb => ?_⟩
  rcases List.mem_append.1 hb with hb | hb
  · exact h2 b hb
  · exact hx b (List.mem_of_mem_take hb)
end Go.Proofs.YtjlhdfciklnndaaGreat.E
