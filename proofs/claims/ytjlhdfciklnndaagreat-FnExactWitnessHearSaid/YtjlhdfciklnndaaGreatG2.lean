/-
  Contracts: growths, in the reference; their proofs, in both.
-/
import Derived.Test.YtjlhdfciklnndaaGreatG1
namespace Go.Proofs.YtjlhdfciklnndaaGreat.E
open Go Go.RowKit
set_option maxHeartbeats 4000000
set_option maxRecDepth 10000
set_option linter.unusedSimpArgs false
set_option linter.unusedVariables false
set_option linter.unusedSectionVars false
def dcG2 : Dec := ⟨[(97, .cm [false, false])], [9, 10, 11], [27, 30, 44, 45, 46, 58, 68, 78, 79, 86, 101, 112, 113, 132, 174, 196, 247, 249, 351, 356], false⟩

theorem c98_c (m n : Int) : CallR Tryz.prog 98 [vI m, vI n] (vB (mIn m 0 n && decide (n ≤ 256))) [] := by
  refine use_of dcG2 false Tryz.f98 ?_
  conv => enter [1]; reduce
  refine jvR Tryz.f98 12 [.tmp 4] (by kernel_rfl) (by decide +kernel) rfl ?_
  simp -implicitDefEqProofs only [go_sem]
  refine Want.intro (c143_c _ _ _) ?_
  cases h : mIn m 0 n <;> simp -implicitDefEqProofs only [go_sem, guardP_tf, guardP_ff, guardP_ft, guardP_tt, condJ_true, condJ_false, Bool.false_and, Bool.true_and]
theorem mGrow_alt (m n : Int) : (mIn m 0 n && decide (n ≤ 256)) = mGrow m n := by
  unfold mGrow mIn
  rw [Bool.eq_iff_iff]
  simp only [Bool.and_eq_true, decide_eq_true_eq]
  omega
theorem c231_c (n : Nat) (h : 1 ≤ n) (h2 : n ≤ 1000) : CallR Tryz.prog 231 [vI n] (vI (half n)) [] := by
  refine use_of dcG2 false Tryz.f231 ?_
  conv => enter [1]; reduce
  refine jvR Tryz.f231 11 [.tmp 2] (by kernel_rfl) (by decide +kernel) rfl ?_
  simp -implicitDefEqProofs only [go_sem]
  refine jv_lp (fun m s => ∃ j : Nat, 2 ^ j ≤ n ∧ m = n - 2 ^ j ∧ s = ⟨11, [(0, vI n), (3, vI ((2 ^ j : Nat) : Int))], [], 1⟩) (n - 1) ?_ ?_
  · simp -implicitDefEqProofs only [go_sem]
    exact ⟨0, by simp; omega, rfl, rfl⟩
  · rintro m s ⟨j, hj, rfl, rfl⟩
    have e : 2 ^ (j + 1) = 2 * 2 ^ j := by rw [Nat.pow_succ]; omega
    have hp : 0 < 2 ^ j := Nat.pow_pos (by omega)
    have hS := fun h2 => half_of (n := n) (j := j) hj h2
    generalize hq : 2 ^ j = q at *
    have w1 : IntKind.i64.wrap (2 * (q : Int)) = ((2 * q : Nat) : Int) := by rw [wrS (by omega)]; omega
    rcases Nat.lt_or_ge n (2 * q) with hlt | hge
    · have hlt' : ¬ ((2 * q : Nat) : Int) ≤ (n : Int) := by omega
      simp -implicitDefEqProofs only [go_sem, w1, hlt']
      rw [hS (by omega)]
    · have hlt' : ((2 * q : Nat) : Int) ≤ (n : Int) := by omega
      simp -implicitDefEqProofs only [go_sem, w1, hlt']
      exact ⟨_, by omega, j + 1, by omega, rfl, by rw [e]⟩
def dgRow (l : List MDig) : Row := ⟨4, l.map MDig.cs, 2, false⟩
attribute [go_sem] dgRow
theorem c134_c (a b : List MDig) (ha : a.length ≤ 1000) (hb : b.length ≤ 1000) : CallR Tryz.prog 134 [.ro 4 (a.map MDig.cs), .ro 4 (b.map MDig.cs)] (.blk 0 0 [] 4 0 (a ++ b).length) [([], dgRow (a ++ b))] := by
  refine use_of dcG2 false Tryz.f134 ?_
  conv => enter [1]; reduce
  refine jvR Tryz.f134 36 [.tmp 4] (by kernel_rfl) (by decide +kernel) rfl ?_
  simp -implicitDefEqProofs only [go_sem]
  refine jv_lp (fun m s => ∃ i : Nat, i ≤ a.length ∧ m = a.length - i ∧ s = ⟨36, [(0, .ro 4 (a.map MDig.cs)), (1, .ro 4 (b.map MDig.cs)), (5, .blk 5 0 [] 4 0 (a.take i).length), (6, vI i)], [(5, 0, one (dgRow (a.take i)))], 1⟩) a.length ?_ ?_
  · simp -implicitDefEqProofs only [go_sem]
    exact ⟨0, Nat.zero_le _, rfl, rfl⟩
  · rintro m s ⟨i, hi, rfl, rfl⟩
    rcases Nat.lt_or_ge i a.length with hlt | hge
    · have hlt' : (i : Int) < (a.length : Int) := by omega
      have hg : a[i]? = some a[i] := List.getElem?_eq_getElem hlt
      have hw := wrap_succ hlt (by unfold maxLen; omega)
      have hx : ∀ x, _ := fun x => app_ok (E := MDig.cs) (l := a.take i) (xs := [x]) (b := 32) (n := 10000) (by simp; omega) (by omega) (by omega)
      simp -implicitDefEqProofs only [go_sem, hlt', hg, hw, hx]
      refine ⟨_, by omega, i + 1, hlt, rfl, ?_⟩
      rw [tk_step hlt]
      simp only [List.map_append, List.length_append, List.length_map, List.map_cons, List.map_nil, List.length_cons, List.length_nil, MDig.cs, dgRow]
      try rfl
    · have hi : i = a.length := by omega
      subst hi
      have hlt' : ¬ ((a.length : Int) < (a.length : Int)) := by omega
      simp -implicitDefEqProofs only [go_sem, hlt', List.take_length]
      refine jv_lp (fun m s => ∃ i : Nat, i ≤ b.length ∧ m = b.length - i ∧ s = ⟨36, [(1, .ro 4 (b.map MDig.cs)), (5, .blk 5 0 [] 4 0 (a ++ b.take i).length), (7, vI i)], [(5, 0, one (dgRow (a ++ b.take i)))], 1⟩) b.length ?_ ?_
      · simp -implicitDefEqProofs only [go_sem]
        exact ⟨0, Nat.zero_le _, rfl, by simp [dgRow]⟩
      · rintro m s ⟨i, hi, rfl, rfl⟩
        rcases Nat.lt_or_ge i b.length with hlt | hge
        · have hlt' : (i : Int) < (b.length : Int) := by omega
          have hg : b[i]? = some b[i] := List.getElem?_eq_getElem hlt
          have hw := wrap_succ hlt (by unfold maxLen; omega)
          have hx : ∀ x, _ := fun x => app_ok (E := MDig.cs) (l := a ++ b.take i) (xs := [x]) (b := 32) (n := 10000) (by simp; omega) (by omega) (by omega)
          simp -implicitDefEqProofs only [go_sem, hlt', hg, hw, hx]
          refine ⟨_, by omega, i + 1, hlt, rfl, ?_⟩
          rw [tk_step hlt]
          simp only [List.map_append, List.length_append, List.length_map, List.map_cons, List.map_nil, List.length_cons, List.length_nil, MDig.cs, dgRow, List.append_assoc]
        · have hi : i = b.length := by omega
          subst hi
          have hlt' : ¬ ((b.length : Int) < (b.length : Int)) := by omega
          simp -implicitDefEqProofs only [go_sem, hlt', List.take_length]
/-- The root of a run of leaves. -/
def seg (l : List ByteArray) (lo hi : Nat) : List ByteArray := (l.drop lo).take (hi - lo)
def ndR (l : List ByteArray) (x : Nd) : MDig := (mRoot (seg l x.1 x.2)).dig
theorem mLeavesOk_drop {l : List ByteArray} (h : mLeavesOk l = true) (n : Nat) : mLeavesOk (l.drop n) = true := by
  obtain ⟨h1, h2⟩ := mLeavesOk_of h
  simp only [mLeavesOk, Bool.and_eq_true, decide_eq_true_eq, leavesOk, List.all_eq_true, List.length_drop]
  exact ⟨by omega, fun b hb => h2 b (List.mem_of_mem_drop hb)⟩
theorem seg_ok {l : List ByteArray} (h : mLeavesOk l = true) (lo hi : Nat) : mLeavesOk (seg l lo hi) = true := mLO_take (mLeavesOk_drop h lo) _
theorem seg_take {l : List ByteArray} {n lo hi : Nat} (h : hi ≤ n) : seg (l.take n) lo hi = seg l lo hi := by
  unfold seg
  rw [List.drop_take, List.take_take, Nat.min_eq_left (by omega)]
theorem dg_app (l : List MDig) (h : l.length ≤ 100000) : ∀ x, (l.map MDig.cs ++ [x]).length ≤ maxLen ∧ (l.map MDig.cs ++ [x]).length * 32 ≤ 140737488355328 := fun x => app_ok (E := MDig.cs) (l := l) (xs := [x]) (b := 32) (n := 1000000) (by simp; omega) (by omega) (by omega)
theorem pks_len : ∀ (k lo m : Nat), (pks k lo m).length ≤ m - lo
  | 0, lo, m => Nat.zero_le _
  | k + 1, lo, m => by
    rw [pks]
    split
    · rename_i h
      have := half_bd (n := m - lo) (by omega)
      have := pks_len k (lo + half (m - lo)) m
      simp only [List.length_cons]
      omega
    · simp
theorem c135_c (l : List ByteArray) (h : mLeavesOk l = true) : CallR Tryz.prog 135 [.ro 1 (l.map leafCs)] (.blk 0 0 [] 4 0 ((pks l.length 0 l.length).map (ndR l)).length) [([], dgRow ((pks l.length 0 l.length).map (ndR l)))] := by
  refine use_of dcG2 false Tryz.f135 ?_
  conv => enter [1]; reduce
  refine jvR Tryz.f135 34 [.tmp 2] (by kernel_rfl) (by decide +kernel) rfl ?_
  have h256 := (mLeavesOk_of h).1
  simp -implicitDefEqProofs only [go_sem]
  refine Want.intro (c41_c l (by unfold maxLen; omega)) ?_
  simp -implicitDefEqProofs only [go_sem, h, Bool.not_true, condJ_false]
  refine jv_lp (fun k s => ∃ (at_ : Nat) (o : List Nd), at_ ≤ l.length ∧ k = l.length - at_ ∧ o ++ pks k at_ l.length = pks l.length 0 l.length ∧ o.length ≤ at_ ∧ s = ⟨34, [(0, .ro 1 (l.map leafCs)), (3, .blk 3 0 [] 4 0 (o.map (ndR l)).length), (4, vI at_)], [(3, 0, one (dgRow (o.map (ndR l))))], 1⟩) l.length ?_ ?_
  · simp -implicitDefEqProofs only [go_sem]
    exact ⟨0, [], Nat.zero_le _, rfl, rfl, Nat.le_refl _, rfl⟩
  · rintro k s ⟨at_, o, ha, rfl, ho, hol, rfl⟩
    rcases Nat.lt_or_ge at_ l.length with hlt | hge
    · have hlt' : (at_ : Int) < (l.length : Int) := by omega
      have hb := half_bd (n := l.length - at_) (by omega)
      have w1 : IntKind.i64.wrap ((l.length : Int) - (at_ : Int)) = ((l.length - at_ : Nat) : Int) := by rw [wrS (by omega)]; omega
      obtain ⟨k', hk'⟩ : ∃ k', l.length - at_ = k' + 1 := ⟨l.length - at_ - 1, by omega⟩
      have hp : pks (l.length - at_) at_ l.length = (at_, at_ + half (l.length - at_)) :: pks k' (at_ + half (l.length - at_)) l.length := by
        rw [hk', pks, if_pos hlt, ← hk']
      rw [hp] at ho
      simp -implicitDefEqProofs only [go_sem, hlt', w1]
      refine Want.intro (c231_c (l.length - at_) (by omega) (by omega)) ?_
      have hR : ndR l (at_, at_ + half (l.length - at_)) = (mRoot ((l.drop at_).take (at_ + half (l.length - at_) - at_))).dig := rfl
      have hfuel : ∀ (a b lo m : Nat), m - lo ≤ a → m - lo ≤ b → pks a lo m = pks b lo m := by
        intro a
        induction a with
        | zero => intro b lo m h1 h2; rw [pks_nil (k := b) (by omega)]; rfl
        | succ a ih =>
          intro b lo m h1 h2
          cases b with
          | zero => rw [pks_nil (k := a + 1) (by omega)]; rfl
          | succ b =>
            rw [pks, pks]
            split
            · have := half_bd (n := m - lo) (by omega)
              rw [ih b (lo + half (m - lo)) m (by omega) (by omega)]
            · rfl
      have ho' := fun j hj => hfuel k' j (at_ + half (l.length - at_)) l.length (by omega) hj
      have hdl : half (l.length - at_) ≤ l.length - at_ := hb.2.1
      have hd1 := hb.1
      clear hb hk' hp
      generalize half (l.length - at_) = d at *
      have w2 : IntKind.i64.wrap ((at_ : Int) + (d : Int)) = ((at_ + d : Nat) : Int) := by rw [wrS (by omega)]; omega
      have k1 : (at_ : Int) ≤ ((at_ + d : Nat) : Int) ∧ ((at_ + d : Nat) : Int) ≤ (l.length : Int) := by omega
      simp -implicitDefEqProofs only [go_sem, w2, k1]
      refine Want.intro (c126_c ((l.drop at_).take (at_ + d - at_)) (mLO_take (mLeavesOk_drop h _) _)) ?_
      have hx := dg_app (o.map (ndR l)) (by simp; omega)
      simp -implicitDefEqProofs only [go_sem, w2, hx]
      refine ⟨_, ?_, at_ + d, o ++ [(at_, at_ + d)], by omega, rfl, ?_, ?_, ?_⟩
      · omega
      · rw [List.append_assoc, List.singleton_append, ← ho' _ (by omega)]
        exact ho
      · simp; omega
      · rw [List.map_append, List.map_cons, List.map_nil, hR]
        simp [dgRow, MDig.cs, BD.dig, BD.cs]
    · have hlt' : ¬ (at_ : Int) < (l.length : Int) := by omega
      rw [pks_nil (by omega), List.append_nil] at ho
      rw [← ho]
      simp -implicitDefEqProofs only [go_sem, hlt']
theorem c136_n (l : List ByteArray) (hl : mLeavesOk l = true) (m : Nat) : ∀ (k lo hi : Nat), lo < hi → hi ≤ l.length → hi - lo ≤ k → CallR Tryz.prog 136 [.ro 1 (l.map leafCs), vI lo, vI hi, vI m] (.blk 0 0 [] 4 0 ((gN m k lo hi).2.map (ndR l)).length) [([], dgRow ((gN m k lo hi).2.map (ndR l)))]
  | 0, lo, hi, h, h2, hk => by omega
  | k + 1, lo, hi, h, h2, hk => by
    have h256 := (mLeavesOk_of hl).1
    refine use_of dcG2 false Tryz.f136 ?_
    conv => enter [1]; reduce
    refine jvR Tryz.f136 40 [.tmp 8] (by kernel_rfl) (by decide +kernel) rfl ?_
    by_cases c1 : hi ≤ m
    · have c1' : (hi : Int) ≤ (m : Int) := by omega
      rw [gN_old c1]
      simp -implicitDefEqProofs only [go_sem, c1', List.map_nil]
    · have c1' : ¬ (hi : Int) ≤ (m : Int) := by omega
      by_cases c2 : m ≤ lo
      · have c2' : (lo : Int) ≥ (m : Int) := by omega
        have k1 : (lo : Int) ≤ (hi : Int) ∧ (hi : Int) ≤ (l.length : Int) := by omega
        rw [gN_new c1 c2]
        simp -implicitDefEqProofs only [go_sem, c1', c2', k1]
        refine Want.intro (c126_c _ (seg_ok hl lo hi)) ?_
        have hR : ndR l (lo, hi) = (mRoot (seg l lo hi)).dig := rfl
        simp -implicitDefEqProofs only [go_sem, hR, MDig.cs, BD.dig]
        try rfl
      · have c2' : ¬ (lo : Int) ≥ (m : Int) := by omega
        have hs := spl_bd (n := hi - lo) (by omega)
        have w1 : IntKind.i64.wrap ((hi : Int) - (lo : Int)) = ((hi - lo : Nat) : Int) := by rw [wrS (by omega)]; omega
        rw [gN_mid c1 c2]
        simp only [List.map_append]
        simp -implicitDefEqProofs only [go_sem, c1', c2', w1]
        refine Want.intro (c200_c (hi - lo) (by omega) (by omega)) ?_
        have w2 : IntKind.i64.wrap ((lo : Int) + ((spl (hi - lo) : Nat) : Int)) = ((lo + spl (hi - lo) : Nat) : Int) := by rw [wrS (by omega)]; omega
        have l1 := (gN_len (m := m) k lo (lo + spl (hi - lo)) (by omega) (by omega)).2
        have l2 := (gN_len (m := m) k (lo + spl (hi - lo)) hi (by omega) (by omega)).2
        simp -implicitDefEqProofs only [go_sem, w2]
        refine Want.intro (c136_n l hl m k lo (lo + spl (hi - lo)) (by omega) (by omega) (by omega)) ?_
        simp -implicitDefEqProofs only [go_sem]
        refine Want.intro (c136_n l hl m k (lo + spl (hi - lo)) hi (by omega) (by omega) (by omega)) ?_
        simp -implicitDefEqProofs only [go_sem]
        refine Want.intro (c134_c _ _ (by rw [List.length_map]; omega) (by rw [List.length_map]; omega)) ?_
        simp -implicitDefEqProofs only [go_sem]
/-- The proof of a growth. -/
def mGr (l : List ByteArray) (m : Nat) : List MDig := if m = 0 ∨ m = l.length then [] else ((gN m l.length 0 l.length).1 ++ (gN m l.length 0 l.length).2).map (ndR l)
def mGrowOk (l : List ByteArray) (m : Int) : Bool := mLeavesOk l && mGrow m l.length
def mGrowthOf (l : List ByteArray) (m : Int) : List MDig := match mGrowOk l m with
  | true => mGr l m.toNat
  | false => []
theorem mGr_zero {l : List ByteArray} {m : Nat} (h : m = 0 ∨ m = l.length) : mGr l m = [] := by unfold mGr; rw [if_pos h]
theorem mGr_eq {l : List ByteArray} {m : Nat} (h : ¬ (m = 0 ∨ m = l.length)) (h2 : m ≤ l.length) : mGr l m = (pks m 0 m).map (ndR (l.take m)) ++ (gN m l.length 0 l.length).2.map (ndR l) := by
  have e := gN_pks (m := m) l.length m 0 l.length (by omega) (by omega) (by omega) (by omega)
  unfold mGr
  rw [if_neg h, List.map_append, e]
  congr 1
  rw [← e]
  refine List.map_congr_left fun x hx => ?_
  have hm : ∀ (k lo hi : Nat), ∀ x ∈ (gN m k lo hi).1, x.2 ≤ m := by
    intro k
    induction k with
    | zero => intro lo hi x hx; simp [gN] at hx
    | succ k ih =>
      intro lo hi x hx
      by_cases h1 : hi ≤ m
      · rw [gN_old h1] at hx
        simp at hx
        subst hx
        exact h1
      · by_cases h2 : m ≤ lo
        · rw [gN_new h1 h2] at hx; simp at hx
        · rw [gN_mid h1 h2] at hx
          rcases List.mem_append.1 hx with hx | hx
          · exact ih _ _ _ hx
          · exact ih _ _ _ hx
  unfold ndR
  rw [seg_take (hm _ _ _ x hx)]
def grRes (l : List ByteArray) (m : Int) : AV := .tup [.blk 0 0 [] 4 0 (mGrowthOf l m).length, vB (mGrowOk l m)]
def grOut (l : List ByteArray) (m : Int) : Sig := [(0, 0, one (dgRow (mGrowthOf l m)))]
attribute [go_sem] grRes grOut
theorem c46_c (l : List ByteArray) (m : Int) (hl : l.length ≤ maxLen) : CallM Tryz.prog 46 [] [.ro 1 (l.map leafCs), vI m] (grRes l m) (grOut l m) := by
  refine use_of dcG2 false Tryz.f46 ?_
  conv => enter [1]; reduce
  refine jvM Tryz.f46 36 [.tmp 4, .tmp 5] (by kernel_rfl) (by decide +kernel) rfl ?_
  unfold grRes grOut mGrowthOf mGrowOk
  simp -implicitDefEqProofs only [go_sem]
  refine Want.intro (c41_c l hl) ?_
  cases h1 : mLeavesOk l with
  | false =>
    simp -implicitDefEqProofs only [go_sem, Bool.not_false, Bool.false_and, guardP_tf, guardP_ff, guardP_ft, guardP_tt, condJ_true, condJ_false]
  | true =>
    simp -implicitDefEqProofs only [go_sem, Bool.not_true, Bool.true_and, guardP_tf, guardP_ff, guardP_ft, guardP_tt, condJ_true, condJ_false]
    refine Want.intro (c98_c _ _) ?_
    rw [mGrow_alt]
    cases h2 : mGrow m l.length with
    | false => simp -implicitDefEqProofs only [go_sem, Bool.not_false, guardP_tf, guardP_ff, guardP_ft, guardP_tt, condJ_true, condJ_false]
    | true =>
      obtain ⟨hn, hm⟩ := mGrow_nat h2
      obtain ⟨M, rfl⟩ : ∃ M : Nat, m = M := ⟨m.toNat, by omega⟩
      have hML : M ≤ l.length := by omega
      by_cases h3 : M = 0
      · subst h3
        have e := mGr_zero (l := l) (m := 0) (.inl rfl)
        simp -implicitDefEqProofs only [go_sem, Bool.not_true, e, Int.toNat_natCast, guardP_tf, guardP_ff, guardP_ft, guardP_tt, condJ_true, condJ_false, z0]
        try rfl
      · have h3' : ((M : Int) == 0) = false := by rw [beq_eq_false_iff_ne]; omega
        by_cases h4 : M = l.length
        · have h4' : ((M : Int) == (l.length : Int)) = true := by rw [beq_iff_eq]; omega
          have e := mGr_zero (l := l) (m := M) (.inr h4)
          simp -implicitDefEqProofs only [go_sem, Bool.not_true, e, h3', h4', Int.toNat_natCast, guardP_tf, guardP_ff, guardP_ft, guardP_tt, condJ_true, condJ_false]
          try rfl
        · have h4' : ((M : Int) == (l.length : Int)) = false := by rw [beq_eq_false_iff_ne]; omega
          have e := mGr_eq (l := l) (m := M) (fun h => h.elim h3 h4) hML
          have k1 : (0 : Int) ≤ (M : Int) ∧ (M : Int) ≤ (l.length : Int) := by omega
          have ht : (l.take M).length = M := by rw [List.length_take]; omega
          have hp := c135_c (l.take M) (mLO_take h1 M)
          rw [ht] at hp
          have l1 := pks_len M 0 M
          have l2 := (gN_len (m := M) l.length 0 l.length (by omega) (by omega)).2
          rw [Int.toNat_natCast, e]
          simp -implicitDefEqProofs only [go_sem, Bool.not_true, h3', h4', k1, Nat.sub_zero, List.drop_zero, guardP_tf, guardP_ff, guardP_ft, guardP_tt, condJ_true, condJ_false]
          refine Want.intro hp ?_
          simp -implicitDefEqProofs only [go_sem]
          refine Want.intro (c136_n l h1 M l.length 0 l.length (by omega) (by omega) (by omega)) ?_
          simp -implicitDefEqProofs only [go_sem]
          refine Want.intro (c134_c _ _ (by rw [List.length_map]; omega) (by rw [List.length_map]; omega)) ?_
          simp -implicitDefEqProofs only [go_sem]
theorem c203_c (l : List ByteArray) (m : Int) (hl : l.length ≤ maxLen) : CallM Tryz.prog 203 [] [.ro 1 (l.map leafCs), vI m] (grRes l m) (grOut l m) := by
  refine use_of dcG2 false Tryz.f203 ?_
  conv => enter [1]; reduce
  refine jvM Tryz.f203 57 [.tmp 4, .tmp 5] (by kernel_rfl) (by decide +kernel) rfl ?_
  unfold grRes grOut mGrowthOf mGrowOk
  simp -implicitDefEqProofs only [go_sem]
  refine Want.intro (c186_c l hl) ?_
  cases h1 : mLeavesOk l with
  | false =>
    simp -implicitDefEqProofs only [go_sem, Bool.not_false, Bool.false_and, guardP_tf, guardP_ff, guardP_ft, guardP_tt, condJ_true, condJ_false]
  | true =>
    simp -implicitDefEqProofs only [go_sem, Bool.not_true, Bool.true_and, guardP_tf, guardP_ff, guardP_ft, guardP_tt, condJ_true, condJ_false]
    refine Want.intro (c96_c _ _) ?_
    cases h2 : mGrow m l.length with
    | false => simp -implicitDefEqProofs only [go_sem, Bool.not_false, guardP_tf, guardP_ff, guardP_ft, guardP_tt, condJ_true, condJ_false]
    | true =>
      obtain ⟨hn, hm⟩ := mGrow_nat h2
      obtain ⟨M, rfl⟩ : ∃ M : Nat, m = M := ⟨m.toNat, by omega⟩
      have hML : M ≤ l.length := by omega
      by_cases h3 : M = 0
      · subst h3
        have e := mGr_zero (l := l) (m := 0) (.inl rfl)
        simp -implicitDefEqProofs only [go_sem, Bool.not_true, e, Int.toNat_natCast, guardP_tf, guardP_ff, guardP_ft, guardP_tt, condJ_true, condJ_false, z0]
        try rfl
      · have h3' : ((M : Int) == 0) = false := by rw [beq_eq_false_iff_ne]; omega
        by_cases h4 : M = l.length
        · have h4' : ((M : Int) == (l.length : Int)) = true := by rw [beq_iff_eq]; omega
          have e := mGr_zero (l := l) (m := M) (.inr h4)
          simp -implicitDefEqProofs only [go_sem, Bool.not_true, e, h3', h4', Int.toNat_natCast, guardP_tf, guardP_ff, guardP_ft, guardP_tt, condJ_true, condJ_false]
          try rfl
        · have h4' : ((M : Int) == (l.length : Int)) = false := by rw [beq_eq_false_iff_ne]; omega
          have e : mGr l M = ((gN M l.length 0 l.length).1 ++ (gN M l.length 0 l.length).2).map (ndR l) := by unfold mGr; rw [if_neg (fun h => h.elim h3 h4)]
          have hl2 := gN_len (m := M) l.length 0 l.length (by omega) (by omega)
          have hin := gN_in (m := M) l.length 0 l.length (by omega) (by omega)
          rw [Int.toNat_natCast, e]
          simp -implicitDefEqProofs only [go_sem, Bool.not_true, h3', h4', guardP_tf, guardP_ff, guardP_ft, guardP_tt, condJ_true, condJ_false]
          refine WantM.intro (c97_c M l.length (by omega) (by omega)) ?_
          have hap : ((gN M l.length 0 l.length).1 ++ (gN M l.length 0 l.length).2).length ≤ maxLen ∧ ((gN M l.length 0 l.length).1 ++ (gN M l.length 0 l.length).2).length * 16 ≤ 140737488355328 := by
            simp only [List.length_append, maxLen]
            omega
          have hin' : ∀ x ∈ (gN M l.length 0 l.length).1 ++ (gN M l.length 0 l.length).2, x.1 ≤ x.2 ∧ x.2 ≤ l.length := fun x hx => by
            have := hin x (List.mem_append.1 hx)
            omega
          simp -implicitDefEqProofs only [go_sem, hap, ← List.map_append]
          generalize hX : (gN M l.length 0 l.length).1 ++ (gN M l.length 0 l.length).2 = X at *
          have hXl : X.length ≤ 600 := by rw [← hX, List.length_append]; omega
          refine jv_lpN [(8, 4)] (fun m s => ∃ i : Nat, i ≤ X.length ∧ m = X.length - i ∧ s = ⟨57, [(0, .ro 1 (l.map leafCs)), (8, .blk 8 0 [] 4 0 ((X.take i).map (ndR l)).length), (38, .blk 38 0 [] 2 0 X.length), (39, vI X.length), (40, vI i)], [(8, 0, one (dgRow ((X.take i).map (ndR l)))), (38, 0, one (nRow X))], 1⟩) X.length ?_ ?_
          · simp -implicitDefEqProofs only [go_sem]
            exact ⟨0, Nat.zero_le _, rfl, rfl⟩
          · rintro m s ⟨i, hi, rfl, rfl⟩
            rcases Nat.lt_or_ge i X.length with hlt | hge
            · have hlt' : (i : Int) < (X.length : Int) := by omega
              have hg : X[i]? = some X[i] := List.getElem?_eq_getElem hlt
              have hw := wrap_succ hlt (by unfold maxLen; omega)
              have hxi := hin' X[i] (List.getElem_mem hlt)
              have k1 : (X[i].1 : Int) ≤ (X[i].2 : Int) ∧ (X[i].2 : Int) ≤ (l.length : Int) := by omega
              have hx := dg_app ((X.take i).map (ndR l)) (by simp; omega)
              have hR : ndR l X[i] = (mRoot (seg l X[i].1 X[i].2)).dig := rfl
              simp -implicitDefEqProofs only [go_sem, hlt', hg, nC, k1]
              refine Want.intro (c187_c _ (seg_ok h1 X[i].1 X[i].2)) ?_
              simp -implicitDefEqProofs only [go_sem, hw, hx]
              refine ⟨_, by omega, i + 1, hlt, rfl, ?_⟩
              rw [tk_step hlt, List.map_append, List.map_cons, List.map_nil, hR]
              simp only [dgRow, List.map_append, List.length_append, List.map_cons, List.map_nil, List.length_cons, List.length_nil, List.length_map, MDig.cs, BD.dig]
              try rfl
            · have hi : i = X.length := by omega
              subst hi
              have hlt' : ¬ ((X.length : Int) < (X.length : Int)) := by omega
              simp -implicitDefEqProofs only [go_sem, hlt', List.take_length]
              refine Want.intro (c112_c (X.map (ndR l)) (by rw [List.length_map]; omega)) ?_
              simp -implicitDefEqProofs only [go_sem]
end Go.Proofs.YtjlhdfciklnndaaGreat.E
