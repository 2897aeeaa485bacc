/-
  Contracts: clients and what they are told, in laws: read, the same, marked, held.
-/
import Derived.Test.YtjlhdfciklnndaaLBA
namespace Go.Proofs.Ytjlhdfciklnndaa.E
open Go Go.RowKit
set_option maxHeartbeats 4000000
set_option maxRecDepth 10000
set_option linter.unusedSimpArgs false
set_option linter.unusedVariables false
set_option linter.unusedSectionVars false
def dcLC : Dec := ⟨[], [9, 10, 11], [22, 43, 84, 88, 103], false⟩

def MTold.ro (t : MTold) : AV := .agg (t.cs (.ro 1 (t.cl.acks.map intC)) (.ro 3 (t.letters.map MLet.cs)) (.ro 13 (t.alarms.map MAl.cs)) (.ro 5 (t.acc.map MPt.cs)))
def MTold.mv (t : MTold) : AV := .agg (t.cs (.blk 1000000 0 [] 1 0 t.cl.acks.length) (.blk 1000001 0 [] 3 0 t.letters.length) (.blk 1000002 0 [] 13 0 t.alarms.length) (.blk 1000003 0 [] 5 0 t.acc.length))
def MTold.mr (t : MTold) : Sig := [(1000000, 0, one t.cl.ar), (1000001, 0, one t.lr), (1000002, 0, one t.xr), (1000003, 0, one t.pr)]
def MCl.mv (c : MCl) : AV := .agg (c.cs (.blk 1000000 0 [] 1 0 c.acks.length))
attribute [go_sem] MTold.ro MTold.mv MTold.mr MCl.mv
structure MTold.sm (t : MTold) : Prop where
  a : t.cl.acks.length ≤ 100000
  l : t.letters.length ≤ 100000
  x : t.alarms.length ≤ 100000
  p : t.acc.length ≤ 100000
theorem mx {n : Nat} (h : n ≤ 100000) : n ≤ maxLen := by unfold maxLen; omega
def kA (t : MTold) (k : Int) : List Int × Int := gMark mkInt t.cl.acks.length k
def kL (t : MTold) (k : Int) : List MLet × Int := gMark mkLetter t.letters.length (kA t k).2
def kX (t : MTold) (k : Int) : List MAl × Int := gMark mkAlarm t.alarms.length (kL t k).2
def kP (t : MTold) (k : Int) : List MPt × Int := gMark mkPoint t.acc.length (kX t k).2
def mkTold (t : MTold) (k : Int) : MTold := ⟨{ t.cl with acks := (kA t k).1 }, (kL t k).1, (kX t k).1, (kP t k).1⟩
structure KB (t : MTold) (k : Int) : Prop where
  a : 0 ≤ (kA t k).2 ∧ (kA t k).2 ≤ 1000000000
  l : 0 ≤ (kL t k).2 ∧ (kL t k).2 ≤ 1000000000
  x : 0 ≤ (kX t k).2 ∧ (kX t k).2 ≤ 1000000000
  p : 0 ≤ (kP t k).2 ∧ (kP t k).2 ≤ 1000000000
theorem kb {t : MTold} (h : t.sm) {k : Int} (hk : 0 ≤ k ∧ k ≤ 1000000) : KB t k := by
  have h1 := h.a
  have h2 := h.l
  have h3 := h.x
  have h4 := h.p
  have e1 : (kA t k).2 = k + 1 * t.cl.acks.length := mkInt_num _ _
  have e2 : (kL t k).2 = (kA t k).2 + 3 * t.letters.length := mkLetter_num _ _
  have e3 : (kX t k).2 = (kL t k).2 + 13 * t.alarms.length := mkAlarm_num _ _
  have e4 : (kP t k).2 = (kX t k).2 + 5 * t.acc.length := mkPoint_num _ _
  exact ⟨by omega, by omega, by omega, by omega⟩
theorem kA_len (t : MTold) (k : Int) : (kA t k).1.length = t.cl.acks.length := gMark_len
theorem kL_len (t : MTold) (k : Int) : (kL t k).1.length = t.letters.length := gMark_len
theorem kX_len (t : MTold) (k : Int) : (kX t k).1.length = t.alarms.length := gMark_len
theorem kP_len (t : MTold) (k : Int) : (kP t k).1.length = t.acc.length := gMark_len
def szN (left n : Int) : Int := if left - n < 0 then -1 else left - n
theorem c5_c (l : MLet) (left : Int) (hl : l.text.size ≤ maxLen) (h : 0 ≤ left ∧ left ≤ 1048576) : CallR Try.prog 5 [.agg l.cs, vI left] (vI (szN left l.text.size)) [] := by
  refine use_of dcLC false Try.f5 ?_
  conv => enter [1]; reduce
  refine jvR Try.f5 13 [.tmp 4] (by kernel_rfl) (by decide +kernel) rfl ?_
  have w1 : IntKind.i64.wrap (left - (l.text.size : Int)) = left - (l.text.size : Int) := wrS (by unfold maxLen at hl; omega)
  unfold szN
  simp -implicitDefEqProofs only [go_sem, w1]
  refine condJ_intro (fun h => ?_) (fun h => ?_)
  · have h' := of_decide_eq_true h
    rw [if_pos h']
    simp -implicitDefEqProofs only [go_sem, h]
  · have h' := of_decide_eq_false h
    rw [if_neg h']
    simp -implicitDefEqProofs only [go_sem, h]
theorem szN_bd {left : Int} {n : Nat} (h : ¬ szN left n < 0) : (n : Int) ≤ left ∧ szN left n = left - n := by
  unfold szN at h ⊢
  split at h
  · omega
  · rename_i h1
    rw [if_neg h1]
    omega
theorem szN_neg {left : Int} {n : Nat} (h : szN left n < 0) : szN left n = -1 := by
  unfold szN at h ⊢
  split
  · rfl
  · rename_i h1
    rw [if_neg h1] at h
    omega
theorem c8_c (l : MLet) : CallR Try.prog 8 [.agg l.cs] (.agg l.cs) [] := by
  refine use_of dcLC false Try.f8 ?_
  conv => enter [1]; reduce
  refine jvR Try.f8 14 [.cell 2 29] (by kernel_rfl) (by decide +kernel) rfl ?_
  simp -implicitDefEqProofs only [go_sem]
def setFr {α : Type} (E : α → List AV) (z : List AV) (l : List α) (i : Nat) : List (List AV) := (l.take i).map E ++ List.replicate (l.length - i) z
theorem setFr_len {α : Type} {E : α → List AV} {z : List AV} {l : List α} {i : Nat} (h : i ≤ l.length) : (setFr E z l i).length = l.length := by simp [setFr]; omega
theorem setFr_zero {α : Type} {E : α → List AV} {z : List AV} {l : List α} : setFr E z l 0 = List.replicate l.length z := by simp [setFr]
theorem setFr_all {α : Type} {E : α → List AV} {z : List AV} {l : List α} : setFr E z l l.length = l.map E := by simp [setFr]
theorem setFr_get {α : Type} {E : α → List AV} {z : List AV} {l : List α} {i : Nat} (h : i < l.length) : (setFr E z l i)[i]? = some z := by
  unfold setFr
  rw [List.getElem?_append_right (by simp; omega), List.length_map, List.length_take, Nat.min_eq_left (by omega), Nat.sub_self, List.getElem?_replicate, if_pos (by omega)]
theorem setFr_set {α : Type} {E : α → List AV} {z : List AV} {l : List α} {i : Nat} (h : i < l.length) : (setFr E z l i).set i (E l[i]) = setFr E z l (i + 1) := by
  unfold setFr
  rw [List.set_append_right _ _ (by simp; omega), List.length_map, List.length_take, Nat.min_eq_left (by omega), Nat.sub_self, show l.length - i = (l.length - (i + 1)) + 1 by omega, List.replicate_succ, List.set_cons_zero, List.take_succ_eq_append_getElem h, List.map_append, List.append_assoc]
  rfl
theorem c17_c (l : List ByteArray) (hl : l.length ≤ 1048576) : CallR Try.prog 17 [.ro 1 (l.map leafCs)] (.blk 0 0 [] 1 0 l.length) [([], ⟨1, l.map leafCs, 2, false⟩)] := by
  refine use_of dcLC false Try.f17 ?_
  conv => enter [1]; reduce
  refine jvR Try.f17 22 [.tmp 2] (by kernel_rfl) (by decide +kernel) rfl ?_
  have hm : ((16 : Nat) : Int) * (l.length : Int) ≤ 281474976710656 ∧ (l.length : Int) ≤ 9223372036854775807 := by omega
  have hlm : l.length ≤ maxLen := by unfold maxLen; omega
  simp -implicitDefEqProofs only [go_sem, hm]
  refine jv_lp (fun m s => ∃ i : Nat, i ≤ l.length ∧ m = l.length - i ∧ s = ⟨22, [(0, .ro 1 (l.map leafCs)), (3, .blk 3 0 [] 1 0 l.length), (4, vI i)], [(3, 0, one ⟨1, setFr leafCs [.sc (.string ⟨#[]⟩)] l i, 2, false⟩)], 1⟩) l.length ?_ ?_
  · simp -implicitDefEqProofs only [go_sem]
    exact ⟨0, Nat.zero_le _, rfl, by rw [setFr_zero]; rfl⟩
  · rintro m s ⟨i, hi, rfl, rfl⟩
    rcases Nat.lt_or_ge i l.length with hlt | hge
    · have hlt' : (i : Int) < (l.length : Int) := by omega
      have hg : l[i]? = some l[i] := List.getElem?_eq_getElem hlt
      have hw := wrap_succ hlt hlm
      have hget := setFr_get (E := leafCs) (z := [.sc (.string ⟨#[]⟩)]) hlt
      have hset := setFr_set (E := leafCs) (z := [.sc (.string ⟨#[]⟩)]) hlt
      have hlen := setFr_len (E := leafCs) (z := [.sc (.string ⟨#[]⟩)]) hi
      generalize setFr leafCs [.sc (.string ⟨#[]⟩)] l i = L at *
      simp -implicitDefEqProofs only [go_sem, hlt', hg, hw, hget, hlen]
      refine ⟨_, by omega, i + 1, hlt, rfl, ?_⟩
      rw [← hset]
      rfl
    · have hi : i = l.length := by omega
      subst hi
      have hlt' : ¬ ((l.length : Int) < (l.length : Int)) := by omega
      simp -implicitDefEqProofs only [go_sem, hlt', setFr_all]
end Go.Proofs.Ytjlhdfciklnndaa.E
