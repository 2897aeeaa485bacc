/-
  Contracts: peaks; maps of nodes.
-/
import Derived.Test.YtjlhdfciklnndaaGreatK0
namespace Go.Proofs.YtjlhdfciklnndaaGreat.E
open Go Go.RowKit
set_option maxHeartbeats 4000000
set_option maxRecDepth 10000
set_option linter.unusedSimpArgs false
set_option linter.unusedVariables false
set_option linter.unusedSectionVars false
def dcKA : Dec := ⟨[(97, .cm [false, false]), (286, .cm [true, false])], [9, 10, 11], [27, 30, 44, 45, 46, 58, 68, 78, 79, 86, 101, 112, 113, 132, 174, 196, 247, 249, 351, 356], false⟩

theorem c308_c (n : Nat) (h : n < 257) : CallR Tryz.prog 308 [vU n] (vI (popc 9 n)) [] := by
  refine use_of dcKA false Tryz.f308 ?_
  conv => enter [1]; reduce
  refine jvR Tryz.f308 35 [.tmp 2] (by kernel_rfl) (by decide +kernel) rfl ?_
  simp -implicitDefEqProofs only [go_sem]
  refine congrArg (fun z : Int => AV.sc (.int .i64 z)) ?_
  obtain ⟨m, rfl⟩ : ∃ m : Fin 257, n = m.val := ⟨⟨n, h⟩, rfl⟩
  clear h
  revert m
  decide +kernel
theorem c306_c (n : Nat) (h : n < 257) : CallR Tryz.prog 306 [vU n] (vI (popc 9 n)) [] := by
  refine use_of dcKA false Tryz.f306 ?_
  conv => enter [1]; reduce
  refine jvR Tryz.f306 8 [.tmp 2] (by kernel_rfl) (by decide +kernel) rfl ?_
  simp -implicitDefEqProofs only [go_sem]
  refine Want.intro (c308_c n h) ?_
  simp -implicitDefEqProofs only [go_sem]
theorem c290_c (n : Nat) (h : n ≤ 256) : CallR Tryz.prog 290 [vI n] (vI (popc 9 n)) [] := by
  refine use_of dcKA false Tryz.f290 ?_
  conv => enter [1]; reduce
  refine jvR Tryz.f290 9 [.tmp 2] (by kernel_rfl) (by decide +kernel) rfl ?_
  simp -implicitDefEqProofs only [go_sem]
  refine Want.intro (c108_c _ _ _) ?_
  have hin : mIn (n : Int) 0 256 = true := mIn_iff.2 (by omega)
  have w1 : IntKind.u64.wrap (n : Int) = (n : Int) := u64_wrap _ (by omega)
  simp -implicitDefEqProofs only [go_sem, hin, Bool.not_true, condJ_false, w1]
  refine Want.intro (c306_c n (by omega)) ?_
  simp -implicitDefEqProofs only [go_sem]
theorem mPeaks_cons {x : BD} {l : List BD} (h : l ≠ []) : mPeaks (x :: l) = hPair x (mPeaks l) := by
  cases l with
  | nil => exact absurd rfl h
  | cons y l => rfl
theorem c295_c : ∀ (l : List BD), l.length ≤ 8 → CallR Tryz.prog 295 [.ro 4 (l.map BD.cs)] (.agg (mPeaks l).cs) []
  | [], h => by
    refine use_of dcKA false Tryz.f295 ?_
    conv => enter [1]; reduce
    refine jvR Tryz.f295 27 [.cell 2 37] (by kernel_rfl) (by decide +kernel) rfl ?_
    simp -implicitDefEqProofs only [go_sem, z0]
    refine Want.intro (c148_c ⟨#[]⟩ (by decide)) ?_
    simp -implicitDefEqProofs only [go_sem, mPeaks]
    try rfl
  | [x], h => by
    refine use_of dcKA false Tryz.f295 ?_
    conv => enter [1]; reduce
    refine jvR Tryz.f295 27 [.cell 2 37] (by kernel_rfl) (by decide +kernel) rfl ?_
    have e8 : ¬ ((1 : Int) > 8) := by decide
    simp -implicitDefEqProofs only [go_sem, z1, mPeaks, e8]
  | x :: y :: l, h => by
    have ih := c295_c (y :: l) (by simp at h ⊢; omega)
    rw [mPeaks_cons (l := y :: l) (by simp)]
    obtain ⟨L, hL⟩ : ∃ L, y :: l = L := ⟨_, rfl⟩
    rw [hL] at ih h ⊢
    have hL1 : 1 ≤ L.length := by rw [← hL]; simp
    clear hL
    refine use_of dcKA false Tryz.f295 ?_
    conv => enter [1]; reduce
    refine jvR Tryz.f295 27 [.cell 2 37] (by kernel_rfl) (by decide +kernel) rfl ?_
    simp only [List.length_cons] at h
    have e0 : (((L.length + 1 : Nat) : Int) == 0) = false := by rw [beq_eq_false_iff_ne]; omega
    have e1 : (((L.length + 1 : Nat) : Int) == 1) = false := by rw [beq_eq_false_iff_ne]; omega
    have e8 : ¬ (((L.length + 1 : Nat) : Int) > 8) := by omega
    have k1 : (1 : Int) ≤ ((L.length + 1 : Nat) : Int) := by omega
    have k3 : (0 : Int) < ((L.length + 1 : Nat) : Int) := by omega
    have k2 : List.take L.length L = L := List.take_of_length_le (Nat.le_refl _)
    have k4 : ∀ a, sub 1 L.length (a :: List.map BD.cs L) = List.map BD.cs L := fun a => by unfold sub; rw [List.drop_succ_cons, List.drop_zero, List.take_of_length_le (by simp)]
    simp -implicitDefEqProofs only [go_sem, e0, e1, e8, condJ_false, k1, k3, Nat.add_sub_cancel, k2, k4]
    refine Want.intro ih ?_
    simp -implicitDefEqProofs only [go_sem]
    refine Want.intro (c265_c _ _) ?_
    simp -implicitDefEqProofs only [go_sem]
theorem mPeaks_drop {l : List BD} {i : Nat} (h : i + 1 < l.length) : hPair (l[i]'(by omega)) (mPeaks (l.drop (i + 1))) = mPeaks (l.drop i) := by
  rw [List.drop_eq_getElem_cons (i := i) (by omega), mPeaks_cons]
  intro e
  have := congrArg List.length e
  simp at this
  omega
theorem c153_c (l : List BD) (h : l.length ≤ 8) : CallR Tryz.prog 153 [.ro 4 (l.map BD.cs)] (.agg (mPeaks l).cs) [] := by
  refine use_of dcKA false Tryz.f153 ?_
  conv => enter [1]; reduce
  refine jvR Tryz.f153 33 [.cell 2 37] (by kernel_rfl) (by decide +kernel) rfl ?_
  have e8 : ¬ ((l.length : Int) > 8) := by omega
  rcases Nat.eq_zero_or_pos l.length with h0 | h0
  · have : l = [] := List.eq_nil_of_length_eq_zero h0
    subst this
    have e8 : ¬ ((0 : Int) > 8) := by decide
    simp -implicitDefEqProofs only [go_sem, z0, e8]
    refine Want.intro (c133_c ⟨#[]⟩ (by decide)) ?_
    simp -implicitDefEqProofs only [go_sem, mPeaks]
    try rfl
  · have e0 : ((l.length : Int) == 0) = false := by rw [beq_eq_false_iff_ne]; omega
    have w1 : IntKind.i64.wrap ((l.length : Int) - 1) = ((l.length - 1 : Nat) : Int) := by rw [wrS (by omega)]; omega
    have w2 : IntKind.i64.wrap ((l.length : Int) - 2) = ((l.length - 1 : Nat) : Int) - 1 := by rw [wrS (by omega)]; omega
    have hlt : l.length - 1 < l.length := by omega
    have k1 : ((l.length - 1 : Nat) : Int) < (l.length : Int) := by omega
    have hg : l[l.length - 1]? = some l[l.length - 1] := List.getElem?_eq_getElem hlt
    have hlast : l[l.length - 1] = mPeaks (l.drop (l.length - 1)) := by
      rw [List.drop_eq_getElem_cons (i := l.length - 1) (by omega), show l.length - 1 + 1 = l.length by omega, List.drop_length]
      rfl
    simp -implicitDefEqProofs only [go_sem, e0, e8, condJ_false, w1, w2, k1, hg]
    refine jv_lp (fun m s => m < l.length ∧ s = ⟨33, [(0, .ro 4 (l.map BD.cs)), (2, .ptr 2 0 [] 4 0 0), (3, .ptr 3 0 [] 4 0 0), (4, vI ((m : Int) - 1))], [(2, 0, one ⟨4, [[.sc (.int .u64 0), .sc (.int .u64 0), .sc (.int .u64 0), .sc (.int .u64 0)]], 0, false⟩), (3, 0, one ⟨4, [(mPeaks (l.drop m)).cs], 0, false⟩)], 1⟩) (l.length - 1) ?_ ?_
    · simp -implicitDefEqProofs only [go_sem]
      exact ⟨hlt, by rw [← hlast]⟩
    · rintro m s ⟨hm, rfl⟩
      cases m with
      | zero =>
        have c0 : ¬ (((0 : Nat) : Int) - 1 ≥ 0) := by omega
        simp -implicitDefEqProofs only [go_sem, c0, List.drop_zero]
      | succ m =>
        have c0 : ((m + 1 : Nat) : Int) - 1 ≥ 0 := by omega
        have c1 : ((m + 1 : Nat) : Int) - 1 = (m : Int) := by omega
        have c2 : (m : Int) ≥ 0 := by omega
        have c3 : (m : Int) < (l.length : Int) := by omega
        have hg : l[m]? = some (l[m]'(by omega)) := List.getElem?_eq_getElem (by omega)
        have w3 : IntKind.i64.wrap ((m : Int) - 1) = (m : Int) - 1 := wrS (by omega)
        rw [c1]
        simp -implicitDefEqProofs only [go_sem, c2, c3, hg]
        refine Want.intro (c223_c _ _) ?_
        rw [mPeaks_drop hm]
        simp -implicitDefEqProofs only [go_sem, w3]
        exact ⟨m, by omega, by omega, rfl⟩
/-- How many peaks begin ahead of a leaf. -/
def nAhead (m at_ : Nat) : Nat := ((pks m 0 m).filter fun x => decide (x.1 < at_)).length
theorem pks_fuel : ∀ (a b lo m : Nat), m - lo ≤ a → m - lo ≤ b → pks a lo m = pks b lo m := by
  intro a
  induction a with
  | zero => intro b lo m h1 h2; rw [pks_nil (k := b) (by omega)]; rfl
  | succ a ih =>
    intro b lo m h1 h2
    cases b with
    | zero => rw [pks_nil (k := a + 1) (by omega)]; rfl
    | succ b =>
      rw [pks, pks]
      split
      · have := half_bd (n := m - lo) (by omega)
        rw [ih b (lo + half (m - lo)) m (by omega) (by omega)]
      · rfl
theorem pks_ge : ∀ (k lo m : Nat), ∀ x ∈ pks k lo m, lo ≤ x.1
  | 0, lo, m, x, hx => by simp [pks] at hx
  | k + 1, lo, m, x, hx => by
    rw [pks] at hx
    split at hx
    · rcases List.mem_cons.1 hx with rfl | hx
      · exact Nat.le_refl _
      · have := pks_ge k _ m x hx
        omega
    · simp at hx
theorem c249_c (m at_ : Nat) (h : m ≤ 256) (h2 : at_ ≤ 256) : CallR Tryz.prog 249 [vI m, vI at_] (vI (nAhead m at_)) [] := by
  refine use_of dcKA false Tryz.f249 ?_
  conv => enter [1]; reduce
  refine jvR Tryz.f249 24 [.tmp 4] (by kernel_rfl) (by decide +kernel) rfl ?_
  simp -implicitDefEqProofs only [go_sem]
  refine jv_lp (fun k s => ∃ lo c : Nat, lo ≤ m ∧ k = m - lo ∧ c ≤ lo ∧ c + ((pks k lo m).filter fun x => decide (x.1 < at_)).length = nAhead m at_ ∧ s = ⟨24, [(0, vI m), (1, vI at_), (5, vI c), (6, vI lo)], [], 1⟩) m ?_ ?_
  · simp -implicitDefEqProofs only [go_sem]
    exact ⟨0, 0, Nat.zero_le _, rfl, Nat.le_refl _, by rw [Nat.zero_add]; rfl, rfl⟩
  · rintro k s ⟨lo, c, hlo, rfl, hc, hq, rfl⟩
    by_cases h1 : lo < m
    · have h1' : (lo : Int) < (m : Int) := by omega
      by_cases h3 : lo < at_
      · have h3' : (lo : Int) < (at_ : Int) := by omega
        have hb := half_bd (n := m - lo) (by omega)
        obtain ⟨k', hk'⟩ : ∃ k', m - lo = k' + 1 := ⟨m - lo - 1, by omega⟩
        have w1 : IntKind.i64.wrap ((m : Int) - (lo : Int)) = ((m - lo : Nat) : Int) := by rw [wrS (by omega)]; omega
        have hp : pks (m - lo) lo m = (lo, lo + half (m - lo)) :: pks (m - (lo + half (m - lo))) (lo + half (m - lo)) m := by
          conv => lhs; rw [hk']
          rw [pks, if_pos h1, pks_fuel k' (m - (lo + half (m - lo))) _ m (by omega) (Nat.le_refl _)]
        rw [hp, List.filter_cons_of_pos (by simpa using h3), List.length_cons] at hq
        simp -implicitDefEqProofs only [go_sem, h1', h3', w1, guardP_tf, guardP_ff, guardP_ft, guardP_tt, condJ_true, condJ_false]
        refine Want.intro (c231_c (m - lo) (by omega) (by omega)) ?_
        clear hp hk'
        generalize half (m - lo) = d at *
        have w2 : IntKind.i64.wrap ((lo : Int) + (d : Int)) = ((lo + d : Nat) : Int) := by rw [wrS (by omega)]; omega
        have w3 : IntKind.i64.wrap ((c : Int) + 1) = ((c + 1 : Nat) : Int) := by rw [wrS (by omega)]; omega
        simp -implicitDefEqProofs only [go_sem, w2, w3]
        exact ⟨_, by omega, lo + d, c + 1, by omega, rfl, by omega, by omega, rfl⟩
      · have h3' : ¬ (lo : Int) < (at_ : Int) := by omega
        have e : ((pks (m - lo) lo m).filter fun x => decide (x.1 < at_)) = [] := by
          rw [List.filter_eq_nil_iff]
          intro x hx
          have := pks_ge _ _ _ x hx
          simp
          omega
        rw [e] at hq
        have hq : c = nAhead m at_ := by simpa using hq
        simp -implicitDefEqProofs only [go_sem, h1', h3', guardP_tf, guardP_ff, guardP_ft, guardP_tt, condJ_true, condJ_false]
        rw [hq]
    · have h1' : ¬ (lo : Int) < (m : Int) := by omega
      rw [pks_nil (by omega)] at hq
      have hq : c = nAhead m at_ := by simpa using hq
      simp -implicitDefEqProofs only [go_sem, h1', guardP_tf, guardP_ff, guardP_ft, guardP_tt, condJ_true, condJ_false]
      rw [hq]
/-! Nodes and what is known of them, as a map -/
def nK (x : Nd) : AV := .agg [vI x.1, vI x.2]
def mc (X : List Nd) (D : List BD) : MC := (X.zip D).map fun p => (nK p.1, .agg p.2.cs)
theorem eqTy_node : eqTy Tryz.prog 279 = some [.int .i64, .int .i64] := by kernel_rfl
theorem keyEq_node (x y : Nd) : keyEq Tryz.prog 279 (nK x) (nK y) = some (decide (x = y)) := by
  unfold keyEq nK
  rw [eqTy_node]
  simp only [Option.bind_some, eqA, headK, if_true, Option.map_some, Bool.and_true]
  congr 1
  obtain ⟨a, b⟩ := x
  obtain ⟨c, d⟩ := y
  rw [Bool.eq_iff_iff]
  simp only [Bool.and_eq_true, beq_iff_eq, decide_eq_true_eq, Prod.mk.injEq]
  omega
theorem keyOK_node (x : Nd) : keyOK Tryz.prog 279 (nK x) = true := by
  unfold keyOK
  rw [keyEq_node]
  rfl
def mfind (x : Nd) (X : List Nd) (D : List BD) : Option BD := ((X.zip D).find? fun p => decide (x = p.1)).map (·.2)
theorem findA_mc (x : Nd) : ∀ (X : List Nd) (D : List BD), findA Tryz.prog 279 (nK x) (mc X D) = some ((mfind x X D).map fun d => .agg d.cs)
  | [], D => rfl
  | y :: X, [] => rfl
  | y :: X, d :: D => by
    unfold mc mfind
    simp only [List.zip_cons_cons, List.map_cons, findA, keyEq_node, List.find?_cons]
    by_cases h : x = y
    · simp [h]
    · simp only [h, decide_false]
      exact findA_mc x X D
theorem mfind_none {x : Nd} {X : List Nd} {D : List BD} (h : x ∉ X) : mfind x X D = none := by
  unfold mfind
  rw [Option.map_eq_none_iff, List.find?_eq_none]
  intro p hp
  have := (List.of_mem_zip hp).1
  simp only [decide_eq_true_eq]
  rintro rfl
  exact h this
theorem mfind_get : ∀ {X : List Nd} {D : List BD} {i : Nat}, X.Pairwise (· ≠ ·) → (hi : i < X.length) → (hd : i < D.length) → mfind X[i] X D = some D[i]
  | [], _, i, _, hi, _ => by simp at hi
  | x :: X, [], i, _, _, hd => by simp at hd
  | x :: X, d :: D, 0, _, _, _ => by simp [mfind, List.zip_cons_cons, List.find?_cons]
  | x :: X, d :: D, i + 1, hp, hi, hd => by
    obtain ⟨h1, h2⟩ := List.pairwise_cons.1 hp
    have hi' : i < X.length := by simpa using hi
    have hd' : i < D.length := by simpa using hd
    have hne : X[i] ≠ x := fun e => h1 X[i] (List.getElem_mem hi') e.symm
    have ih := mfind_get h2 hi' hd'
    unfold mfind at ih ⊢
    simp only [List.getElem_cons_succ, List.zip_cons_cons, List.find?_cons, hne, decide_false]
    exact ih
theorem codA_node (x : Nd) : codA (nK x) = some [10, 3, zig x.1, 3, zig x.2] := rfl
theorem codA_bd (d : BD) : codA (.agg d.cs) = some [10, 7, zig d.a.toNat, 7, zig d.b.toNat, 7, zig d.c.toNat, 7, zig d.d.toNat] := rfl
theorem one_le_mfl (C : MC) : (1 ≤ mfl C) = True := eq_true (Nat.le_trans (by decide) (mfl_ge C))
theorem ble_mfl (C : MC) : Nat.ble 1 (mfl C) = true := Nat.ble_eq_true_of_le (Nat.le_trans (by decide) (mfl_ge C))
attribute [go_sem] one_le_mfl ble_mfl
theorem mapT_node : mapT2 Tryz.prog 338 = some (279, 37) := by kernel_rfl
theorem zOf_dig : zOf Tryz.prog 37 = some (.agg #[.int .u64 0, .int .u64 0, .int .u64 0, .int .u64 0]) := by kernel_rfl
theorem mc_snoc {X : List Nd} {D : List BD} {i : Nat} (h1 : i < X.length) (h2 : i < D.length) : mc (X.take i) (D.take i) ++ [(nK X[i], .agg D[i].cs)] = mc (X.take (i + 1)) (D.take (i + 1)) := by
  unfold mc
  rw [List.take_succ_eq_append_getElem h1, List.take_succ_eq_append_getElem h2, List.zip_append (by simp; omega), List.map_append]
  rfl
theorem c284_c (m n : Nat) (D : List BD) (h : 1 ≤ n) (h2 : n ≤ 256) (hD : D.length = (gA m n).length) : CallM Tryz.prog 284 [] [vI m, vI n, .ro 4 (D.map BD.cs)] (.mr 0 0 []) [(0, 0, one (mpR (mc (gA m n) D)))] := by
  refine use_of dcKA false Tryz.f284 ?_
  conv => enter [1]; reduce
  refine jvM Tryz.f284 36 [.tmp 6] (by kernel_rfl) (by decide +kernel) rfl ?_
  simp -implicitDefEqProofs only [go_sem]
  refine WantM.intro (c97_c m n h h2) ?_
  have hl2 := gN_len (m := m) n 0 n (by omega) (by omega)
  have hap : ((gN m n 0 n).1 ++ (gN m n 0 n).2).length ≤ maxLen ∧ ((gN m n 0 n).1 ++ (gN m n 0 n).2).length * 16 ≤ 140737488355328 := by
    simp only [List.length_append, maxLen]
    omega
  have hnd := srt_nodup (gA_srt (m := m) h)
  simp -implicitDefEqProofs only [go_sem, hap, ← List.map_append]
  unfold gA at *
  generalize hX : (gN m n 0 n).1 ++ (gN m n 0 n).2 = X at *
  have hXl : X.length ≤ 600 := by rw [← hX, List.length_append]; omega
  refine jv_lp (fun k s => ∃ i, i ≤ X.length ∧ k = X.length - i ∧ s = ⟨36, [(2, .ro 4 (D.map BD.cs)), (9, .mr 9 0 []), (21, .blk 21 0 [] 2 0 X.length), (22, vI X.length), (23, vI i)], [(9, 0, one (mpR (mc (X.take i) (D.take i)))), (21, 0, one (nRow X))], 1⟩) X.length ?_ ?_
  · simp -implicitDefEqProofs only [go_sem]
    exact ⟨0, Nat.zero_le _, rfl, rfl⟩
  · rintro k s ⟨i, hi, rfl, rfl⟩
    rcases Nat.lt_or_ge i X.length with hlt | hge
    · have hlt' : (i : Int) < (X.length : Int) := by omega
      have hld : i < D.length := by omega
      have hld' : (i : Int) < (D.length : Int) := by omega
      have hg : X[i]? = some X[i] := List.getElem?_eq_getElem hlt
      have hgd : D[i]? = some D[i] := List.getElem?_eq_getElem hld
      have hw := wrap_succ hlt (by unfold maxLen; omega)
      have hno : X[i] ∉ X.take i := fun hm => by
        obtain ⟨j, hj, e⟩ := List.getElem_of_mem hm
        rw [List.length_take] at hj
        rw [List.getElem_take] at e
        exact (List.pairwise_iff_getElem.1 hnd j i (by omega) hlt (by omega)) e
      have hf := findA_mc X[i] (X.take i) (D.take i)
      rw [mfind_none hno] at hf
      simp -implicitDefEqProofs only [go_sem, hlt', hld', hg, hgd, nC]
      refine mu_intro mapT_node (keyOK_node X[i]) hf (codA_node X[i]) (codA_bd D[i]) ?_
      simp -implicitDefEqProofs only [go_sem, hw]
      exact ⟨_, by omega, i + 1, hlt, rfl, by rw [← mc_snoc hlt hld]; rfl⟩
    · have hi : i = X.length := by omega
      subst hi
      have hlt' : ¬ ((X.length : Int) < (X.length : Int)) := by omega
      have e2 : D.take X.length = D := List.take_of_length_le (by omega)
      simp -implicitDefEqProofs only [go_sem, hlt', List.take_length, e2]
/-- What the nodes' digests come to above them. -/
def mNode (D : Nd → BD) (m : Nat) : Nat → Nat → Nat → BD
  | 0, lo, hi => D (lo, hi)
  | k + 1, lo, hi => if hi ≤ m ∨ m ≤ lo then D (lo, hi) else hPair (mNode D m k lo (lo + spl (hi - lo))) (mNode D m k (lo + spl (hi - lo)) hi)
theorem mNode_out {D : Nd → BD} {m k lo hi : Nat} (h : hi ≤ m ∨ m ≤ lo) : mNode D m (k + 1) lo hi = D (lo, hi) := by rw [mNode, if_pos h]
theorem mNode_mid {D : Nd → BD} {m k lo hi : Nat} (h : ¬ (hi ≤ m ∨ m ≤ lo)) : mNode D m (k + 1) lo hi = hPair (mNode D m k lo (lo + spl (hi - lo))) (mNode D m k (lo + spl (hi - lo)) hi) := by rw [mNode, if_neg h]
theorem c286_c (C : MC) (L : Nd → Option BD) (D : Nd → BD) (m : Nat) (hC : ∀ x, findA Tryz.prog 279 (nK x) C = some ((L x).map fun d => .agg d.cs)) (hmid : ∀ x : Nd, x.1 < m → m < x.2 → L x = none) :
    ∀ (k lo hi : Nat), lo < hi → hi ≤ 256 → hi - lo ≤ k → (∀ x, x ∈ (gN m k lo hi).1 ∨ x ∈ (gN m k lo hi).2 → L x = some (D x)) →
    CallM Tryz.prog 286 [(1000000, 0, one (mpR C))] [.mr 1000000 0 [], .agg [vI lo, vI hi]] (.agg (mNode D m k lo hi).cs) [(1000000, 0, one (mpR C))]
  | 0, lo, hi, h, h2, hk, hin => by omega
  | k + 1, lo, hi, h, h2, hk, hin => by
    have hf := hC (lo, hi)
    refine use_of dcKA false Tryz.f286 ?_
    conv => enter [1]; reduce
    refine jvM Tryz.f286 29 [.cell 4 37] (by kernel_rfl) (by decide +kernel) rfl ?_
    by_cases c : hi ≤ m ∨ m ≤ lo
    · have hx : L (lo, hi) = some (D (lo, hi)) := by
        refine hin (lo, hi) ?_
        by_cases h1 : hi ≤ m
        · rw [gN_old h1]; simp
        · rw [gN_new h1 (c.resolve_left h1)]; simp
      rw [hx] at hf
      rw [mNode_out c]
      simp -implicitDefEqProofs only [go_sem]
      refine lu_intro mapT_node zOf_dig (keyOK_node (lo, hi)) hf ?_
      generalize D (lo, hi) = d
      simp -implicitDefEqProofs only [go_sem, condJ_true]
    · have hx : L (lo, hi) = none := hmid (lo, hi) (by show lo < m; omega) (by show m < hi; omega)
      rw [hx] at hf
      rw [mNode_mid c]
      have hs := spl_bd (n := hi - lo) (by omega)
      have e := gN_mid (m := m) (k := k) (lo := lo) (hi := hi) (by omega) (by omega)
      have i1 := c286_c C L D m hC hmid k lo (lo + spl (hi - lo)) (by omega) (by omega) (by omega) (fun x hx => hin x (by
        rw [e]
        rcases hx with hx | hx
        · exact .inl (List.mem_append_left _ hx)
        · exact .inr (List.mem_append_left _ hx)))
      have i2 := c286_c C L D m hC hmid k (lo + spl (hi - lo)) hi (by omega) (by omega) (by omega) (fun x hx => hin x (by
        rw [e]
        rcases hx with hx | hx
        · exact .inl (List.mem_append_right _ hx)
        · exact .inr (List.mem_append_right _ hx)))
      simp -implicitDefEqProofs only [go_sem]
      refine lu_intro mapT_node zOf_dig (keyOK_node (lo, hi)) hf ?_
      simp -implicitDefEqProofs only [go_sem, condJ_false]
      refine Want.intro (c268_c lo hi (by omega) h2) ?_
      simp -implicitDefEqProofs only [go_sem]
      refine WantM.intro i1 ?_
      simp -implicitDefEqProofs only [go_sem]
      refine WantM.intro i2 ?_
      simp -implicitDefEqProofs only [go_sem]
      refine Want.intro (c265_c _ _) ?_
      simp -implicitDefEqProofs only [go_sem]
end Go.Proofs.YtjlhdfciklnndaaGreat.E
