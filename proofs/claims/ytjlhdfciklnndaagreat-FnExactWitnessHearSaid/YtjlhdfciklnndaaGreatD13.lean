/-
  Contracts: messages in bytes, in the program.
-/
import Derived.Test.YtjlhdfciklnndaaGreatD12
namespace Go.Proofs.YtjlhdfciklnndaaGreat.E
open Go Go.RowKit
set_option maxHeartbeats 4000000
set_option maxRecDepth 10000
set_option linter.unusedSimpArgs false
set_option linter.unusedVariables false
set_option linter.unusedSectionVars false
def dcD13 : Dec := ⟨[], [9, 10, 11], [27, 30, 44, 45, 46, 58, 68, 78, 79, 86, 101, 112, 113, 132, 174, 196, 247, 249, 351, 356], false⟩
def bOf (m : MMsg) (c : Nat) : List UInt8 := match c with
  | 115 => bS m
  | 102 => bF m
  | 122 => bZ m
  | 114 => m.root.bl
  | 99 => bC m
  | 112 => bP m
  | 108 => bL_ m
  | _ => []
theorem bOf_len {m : MMsg} (h : WOk m) (c : Nat) : (bOf m c).length ≤ 600 := by
  have h1 := digsL_len m.proof
  have h2 := leafsL_len m.leaves h.lo
  have h3 := h.p
  have h4 := h.l
  unfold bOf
  split <;> simp only [bS, bF, bZ, bC, bP, bL_, low_len, bl_len, List.length_append, List.length_nil] <;> omega
def obl (m : MMsg) (pos : Nat) : List UInt8 := bK m ++ ((l5P m.kind).data.toList.take pos).flatMap fun b => bOf m b.toNat
theorem obl_len {m : MMsg} (h : WOk m) (pos : Nat) : (obl m pos).length ≤ 1 + 600 * pos := by
  unfold obl
  have : ∀ l : List UInt8, (l.flatMap fun b => bOf m b.toNat).length ≤ 600 * l.length := by
    intro l
    induction l with
    | nil => exact Nat.zero_le _
    | cons a l ih =>
      have := bOf_len h a.toNat
      simp only [List.flatMap_cons, List.length_append, List.length_cons]
      omega
  have h1 := this ((l5P m.kind).data.toList.take pos)
  have h2 : ((l5P m.kind).data.toList.take pos).length ≤ pos := List.length_take_le _ _
  rw [List.length_append, bK, low_len]
  omega
theorem obl_all {m : MMsg} (h : mIn m.kind 1 8 = true) : obl m (l5P m.kind).size = wbL m := by
  obtain ⟨k, se, fr, si, ro, co, pr, le⟩ := m
  rcases kinds k with rfl | rfl | rfl | rfl | rfl | rfl | rfl | rfl | ⟨h1, h2, h3, h4, h5, h6, h7, h8⟩
  case inr.inr.inr.inr.inr.inr.inr.inr => simp [mIn] at h; omega
  all_goals simp [obl, wbL, l5P, bOf, ByteArray.size]
theorem nb1 (v : Int) (h : 0 ≤ v ∧ v ≤ 1000000000) : CallR Tryz.prog 270 [vI v, vI 1] (.blk 0 0 [] 1 0 (low v.toNat 1).length) [([], ⟨1, (low v.toNat 1).map byteC, 2, false⟩)] := by
  have := c270_c v.toNat 1 (by omega) (by omega)
  rw [Int.toNat_of_nonneg h.1] at this
  rw [low_len]
  exact this
theorem nb2 (v : Int) (h : 0 ≤ v ∧ v ≤ 1000000000) : CallR Tryz.prog 270 [vI v, vI 2] (.blk 0 0 [] 1 0 (low v.toNat 2).length) [([], ⟨1, (low v.toNat 2).map byteC, 2, false⟩)] := by
  have := c270_c v.toNat 2 (by omega) (by omega)
  rw [Int.toNat_of_nonneg h.1] at this
  rw [low_len]
  exact this
theorem nb3 (v : Int) (h : 0 ≤ v ∧ v ≤ 1000000000) : CallR Tryz.prog 270 [vI v, vI 3] (.blk 0 0 [] 1 0 (low v.toNat 3).length) [([], ⟨1, (low v.toNat 3).map byteC, 2, false⟩)] := by
  have := c270_c v.toNat 3 (by omega) (by omega)
  rw [Int.toNat_of_nonneg h.1] at this
  rw [low_len]
  exact this
attribute [go_sem] bA_list
theorem hashBI (d : MDig) : CallR Tryz.prog 271 [.agg d.cs] (vS (bA d.bl)) [] := by
  have := c271_c d
  rw [bytes_bA] at this
  exact this
theorem app_ok2 {A B : List UInt8} (h : A.length + B.length ≤ 100000) : (A.map byteC ++ B.map byteC).length ≤ maxLen ∧ (A.map byteC ++ B.map byteC).length * 1 ≤ 140737488355328 := by
  unfold maxLen
  simp only [List.length_append, List.length_map]
  omega
theorem app_ok3 {A B C : List UInt8} (h : A.length + B.length + C.length ≤ 100000) : (A.map byteC ++ B.map byteC ++ C.map byteC).length ≤ maxLen ∧ (A.map byteC ++ B.map byteC ++ C.map byteC).length * 1 ≤ 140737488355328 := by
  unfold maxLen
  simp only [List.length_append, List.length_map]
  omega
theorem c204_c (m : MMsg) (hok : mWireOk m = true) : CallR Tryz.prog 204 [m.ro] (vS (bA (wbL m))) [] := by
  refine use_of dcD13 false Tryz.f204 ?_
  conv => enter [1]; reduce
  refine jvR Tryz.f204 103 [.tmp 2] (by kernel_rfl) (by decide +kernel) rfl ?_
  have hk := WOk.of hok
  obtain ⟨n, hn, hn8⟩ : ∃ n : Nat, m.kind = n ∧ (1 ≤ n ∧ n ≤ 8) := by
    have h0 := hk.k
    have : 1 ≤ m.kind ∧ m.kind ≤ 8 := by simpa [mIn] using h0
    exact ⟨m.kind.toNat, by omega, by omega⟩
  have hlet := @letters n hn8
  rw [← hn] at hlet
  simp -implicitDefEqProofs only [go_sem]
  refine Want.intro (partsInt m.kind) ?_
  simp -implicitDefEqProofs only [go_sem]
  refine rng_intro (l5P m.kind) [1, 3, 17] [] (fun r pos z => pos ≤ (l5P m.kind).size ∧ z = ⟨103, [(1, .ptr 1 0 [] 11 0 0), (3, .blk 3 0 [] 1 0 (obl m pos).length), (17, .it r)], [(1, 0, one ⟨11, [m.roC], 0, false⟩), (3, 0, one ⟨1, (obl m pos).map byteC, 2, false⟩)], 1⟩) ?_ ?_ ?_ ?_ ?_ ?_
  · rfl
  · omega
  · intro r
    simp -implicitDefEqProofs only [go_sem]
    have h0 : obl m 0 = [UInt8.ofNat (n % 256)] := by simp [obl, bK, hn, low]
    have h1 : IntKind.u8.wrap m.kind = ((n % 256 : Nat) : Int) := by rw [hn, u8_mod]
    refine ⟨Nat.zero_le _, ?_⟩
    rw [h0, h1]
    simp [byteC]
  · rintro r pos z ⟨-, rfl⟩
    exact ⟨rfl, rfl⟩
  · rintro r pos z ⟨hle, rfl⟩ hlt
    obtain ⟨hp2, c, hd, htk, huc, hc⟩ := hlet hlt
    have hO : obl m (pos + 1) = obl m pos ++ bOf m c := by
      rw [obl, htk, List.flatMap_append, ← List.append_assoc]
      simp [obl, huc]
    have hol := obl_len hk pos
    refine ⟨c, hd, ?_⟩
    rcases hc with rfl | rfl | rfl | rfl | rfl | rfl | rfl
    · have hcc : ((115 : Nat) : Int) = 115 := rfl
      have hs := hk.s
      simp -implicitDefEqProofs only [go_sem, hcc]
      refine Want.intro (nb3 m.session (by omega)) ?_
      have ha := app_ok (E := byteC) (l := obl m pos) (xs := (low m.session.toNat 3).map byteC) (b := 1) (n := 100000) (by simp [low_len]; omega) (by omega) (by omega)
      simp -implicitDefEqProofs only [go_sem, ha]
      exact ⟨hlt, by rw [hO]; simp [bOf, bS, bF, bZ, bC]⟩
    · have hcc : ((102 : Nat) : Int) = 102 := rfl
      have hs := hk.f
      simp -implicitDefEqProofs only [go_sem, hcc]
      refine Want.intro (nb2 m.from_ (by omega)) ?_
      have ha := app_ok (E := byteC) (l := obl m pos) (xs := (low m.from_.toNat 2).map byteC) (b := 1) (n := 100000) (by simp [low_len]; omega) (by omega) (by omega)
      simp -implicitDefEqProofs only [go_sem, ha]
      exact ⟨hlt, by rw [hO]; simp [bOf, bS, bF, bZ, bC]⟩
    · have hcc : ((122 : Nat) : Int) = 122 := rfl
      have hs := hk.z
      simp -implicitDefEqProofs only [go_sem, hcc]
      refine Want.intro (nb2 m.size (by omega)) ?_
      have ha := app_ok (E := byteC) (l := obl m pos) (xs := (low m.size.toNat 2).map byteC) (b := 1) (n := 100000) (by simp [low_len]; omega) (by omega) (by omega)
      simp -implicitDefEqProofs only [go_sem, ha]
      exact ⟨hlt, by rw [hO]; simp [bOf, bS, bF, bZ, bC]⟩
    · have hcc : ((114 : Nat) : Int) = 114 := rfl
      simp -implicitDefEqProofs only [go_sem, hcc]
      refine Want.intro (hashBI m.root) ?_
      have ha := app_ok (E := byteC) (l := obl m pos) (xs := m.root.bl.map byteC) (b := 1) (n := 100000) (by simp [bl_len]; omega) (by omega) (by omega)
      simp -implicitDefEqProofs only [go_sem, ha]
      exact ⟨hlt, by rw [hO]; simp [bOf]⟩
    · have hcc : ((99 : Nat) : Int) = 99 := rfl
      have hs := hk.c
      simp -implicitDefEqProofs only [go_sem, hcc]
      refine Want.intro (nb1 m.count (by omega)) ?_
      have ha := app_ok (E := byteC) (l := obl m pos) (xs := (low m.count.toNat 1).map byteC) (b := 1) (n := 100000) (by simp [low_len]; omega) (by omega) (by omega)
      simp -implicitDefEqProofs only [go_sem, ha]
      exact ⟨hlt, by rw [hO]; simp [bOf, bS, bF, bZ, bC]⟩
    · have hcc : ((112 : Nat) : Int) = 112 := rfl
      have hs := hk.p
      simp -implicitDefEqProofs only [go_sem, hcc]
      refine Want.intro (nb1 m.proof.length (by omega)) ?_
      have ha := app_ok (E := byteC) (l := obl m pos) (xs := (low m.proof.length 1).map byteC) (b := 1) (n := 100000) (by simp [low_len]; omega) (by omega) (by omega)
      simp -implicitDefEqProofs only [go_sem, ha]
      have hF := fun i => digsL_len (m.proof.take i)
      have hwl : m.proof.length ≤ maxLen := by unfold maxLen; omega
      refine jv_lp (fun n z => ∃ i : Nat, i ≤ m.proof.length ∧ n = m.proof.length - i ∧ z = ⟨103, [(1, .ptr 1 0 [] 11 0 0), (3, .blk 3 0 [] 1 0 (obl m pos ++ low m.proof.length 1 ++ digsL (m.proof.take i)).length), (17, .it r), (66, .ro 4 (m.proof.map MDig.cs)), (67, vI m.proof.length), (68, vI i)], [(1, 0, one ⟨11, [m.roC], 0, false⟩), (3, 0, one ⟨1, (obl m pos ++ low m.proof.length 1 ++ digsL (m.proof.take i)).map byteC, 2, false⟩)], 1⟩) m.proof.length ?_ ?_
      · simp -implicitDefEqProofs only [go_sem]
        exact ⟨0, Nat.zero_le _, rfl, by simp [digsL]⟩
      · rintro n z ⟨i, hi, rfl, rfl⟩
        rcases Nat.lt_or_ge i m.proof.length with hl | hge
        · have hlt' : (i : Int) < (m.proof.length : Int) := by omega
          have hg : m.proof[i]? = some m.proof[i] := List.getElem?_eq_getElem hl
          have hw := wrap_succ hl hwl
          have hFi := hF i
          have hft := flat_take MDig.bl hl
          have hlow := low_len m.proof.length 1
          have hbl := bl_len m.proof[i]
          rw [List.length_take] at hFi
          have ha := app_ok2 (A := obl m pos ++ low m.proof.length 1 ++ digsL (m.proof.take i)) (B := m.proof[i].bl) (by simp only [List.length_append]; omega)
          simp -implicitDefEqProofs only [go_sem, hlt', hg]
          refine Want.intro (hashBI m.proof[i]) ?_
          simp -implicitDefEqProofs only [go_sem, hw, ha]
          refine ⟨_, by omega, i + 1, hl, rfl, ?_⟩
          rw [show digsL (m.proof.take (i + 1)) = digsL (m.proof.take i) ++ MDig.bl m.proof[i] from hft]
          simp []
        · have hi : i = m.proof.length := by omega
          subst hi
          have hlt' : ¬ ((m.proof.length : Int) < (m.proof.length : Int)) := by omega
          simp -implicitDefEqProofs only [go_sem, hlt', List.take_length]
          exact ⟨hlt, by rw [hO]; simp [bOf, bP]⟩
    · have hcc : ((108 : Nat) : Int) = 108 := rfl
      have hs := hk.l
      simp -implicitDefEqProofs only [go_sem, hcc]
      refine Want.intro (nb1 m.leaves.length (by omega)) ?_
      have ha := app_ok (E := byteC) (l := obl m pos) (xs := (low m.leaves.length 1).map byteC) (b := 1) (n := 100000) (by simp [low_len]; omega) (by omega) (by omega)
      simp -implicitDefEqProofs only [go_sem, ha]
      have hF := fun i => leafsL_len (m.leaves.take i) (leavesOk_take hk.lo i)
      have hwl : m.leaves.length ≤ maxLen := by unfold maxLen; omega
      refine jv_lp (fun n z => ∃ i : Nat, i ≤ m.leaves.length ∧ n = m.leaves.length - i ∧ z = ⟨103, [(1, .ptr 1 0 [] 11 0 0), (3, .blk 3 0 [] 1 0 (obl m pos ++ low m.leaves.length 1 ++ leafsL (m.leaves.take i)).length), (17, .it r), (86, .ro 1 (m.leaves.map leafCs)), (87, vI m.leaves.length), (88, vI i)], [(1, 0, one ⟨11, [m.roC], 0, false⟩), (3, 0, one ⟨1, (obl m pos ++ low m.leaves.length 1 ++ leafsL (m.leaves.take i)).map byteC, 2, false⟩)], 1⟩) m.leaves.length ?_ ?_
      · simp -implicitDefEqProofs only [go_sem]
        exact ⟨0, Nat.zero_le _, rfl, by simp [leafsL]⟩
      · rintro n z ⟨i, hi, rfl, rfl⟩
        rcases Nat.lt_or_ge i m.leaves.length with hl | hge
        · have hlt' : (i : Int) < (m.leaves.length : Int) := by omega
          have hg : m.leaves[i]? = some m.leaves[i] := List.getElem?_eq_getElem hl
          have hw := wrap_succ hl hwl
          have hFi := hF i
          have hft := flat_take leafB hl
          have hlow := low_len m.leaves.length 1
          have h40 := leavesOk_get hk.lo hl
          have e : m.leaves[i].data.toList.length = m.leaves[i].size := Array.length_toList
          have hl1 := low_len m.leaves[i].size 1
          rw [List.length_take] at hFi
          have ha := app_ok2 (A := obl m pos ++ low m.leaves.length 1 ++ leafsL (m.leaves.take i)) (B := low m.leaves[i].size 1) (by simp only [List.length_append]; omega)
          have ha2 := app_ok3 (A := obl m pos ++ low m.leaves.length 1 ++ leafsL (m.leaves.take i)) (B := low m.leaves[i].size 1) (C := m.leaves[i].data.toList) (by simp only [List.length_append]; omega)
          simp -implicitDefEqProofs only [go_sem, hlt', hg]
          refine Want.intro (nb1 m.leaves[i].size (by omega)) ?_
          simp -implicitDefEqProofs only [go_sem, hw, ha, ha2]
          refine ⟨_, by omega, i + 1, hl, rfl, ?_⟩
          rw [show leafsL (m.leaves.take (i + 1)) = leafsL (m.leaves.take i) ++ leafB m.leaves[i] from hft]
          simp [leafB]
        · have hi : i = m.leaves.length := by omega
          subst hi
          have hlt' : ¬ ((m.leaves.length : Int) < (m.leaves.length : Int)) := by omega
          simp -implicitDefEqProofs only [go_sem, hlt', List.take_length]
          exact ⟨hlt, by rw [hO]; simp [bOf, bL_]⟩
  · rintro r pos z ⟨hle, rfl⟩ hge
    have hpos : pos = (l5P m.kind).size := by omega
    subst hpos
    rw [← obl_all hk.k]
    simp -implicitDefEqProofs only [go_sem, bytes_back]
    rfl
theorem c105_c (m : MMsg) (hl : m.leaves.length ≤ maxLen) : CallR Tryz.prog 105 [m.ro] (vS (mWireBytes m)) [] := by
  refine use_of dcD13 false Tryz.f105 ?_
  conv => enter [1]; reduce
  refine jvR Tryz.f105 8 [.tmp 2] (by kernel_rfl) (by decide +kernel) rfl ?_
  simp -implicitDefEqProofs only [go_sem]
  refine Want.intro (c28_c m hl) ?_
  simp -implicitDefEqProofs only [go_sem]
  refine condJ_intro (fun h => ?_) (fun h => ?_)
  · have h' : mWireOk m = false := by simpa using h
    simp -implicitDefEqProofs only [go_sem, h]
    simp [mWireBytes, h']
  · have h' : mWireOk m = true := by simpa using h
    simp -implicitDefEqProofs only [go_sem, h]
    refine Want.intro (c204_c m h') ?_
    simp -implicitDefEqProofs only [go_sem]
    simp [mWireBytes, h']
end Go.Proofs.YtjlhdfciklnndaaGreat.E
