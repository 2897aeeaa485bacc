/-
  Contracts: trees.
-/
import Derived.Test.YtjlhdfciklnndaaGreatH2
namespace Go.Proofs.YtjlhdfciklnndaaGreat.E
open Go Go.RowKit
set_option maxHeartbeats 4000000
set_option maxRecDepth 10000
set_option linter.unusedSimpArgs false
set_option linter.unusedVariables false
set_option linter.unusedSectionVars false
def dcH3 : Dec := ⟨[], [9, 10, 11], [27, 30, 44, 45, 46, 58, 68, 78, 79, 86, 101, 112, 113, 132, 174, 196, 247, 249, 351, 356], false⟩

def mLeavesOk (l : List ByteArray) : Bool := decide ((l.length : Int) ≤ 256) && leavesOk l
def spl (n : Nat) : Nat := 2 ^ (n - 1).log2
theorem spl_of {n j : Nat} (h1 : 2 ^ j < n) (h2 : n ≤ 2 * 2 ^ j) : spl n = 2 ^ j := by
  unfold spl
  rw [(Nat.log2_eq_iff (k := j) (by omega)).2 ⟨by omega, by rw [Nat.pow_succ]; omega⟩]
theorem spl_bd {n : Nat} (h : 2 ≤ n) : 1 ≤ spl n ∧ spl n < n := by
  have h1 : n - 1 ≠ 0 := by omega
  have := (Nat.log2_eq_iff (k := (n - 1).log2) h1).1 rfl
  have h3 : 0 < 2 ^ (n - 1).log2 := Nat.pow_pos (by omega)
  unfold spl
  omega
theorem c264_c (n : Nat) (h : 2 ≤ n) (h2 : n ≤ 256) : CallR Tryz.prog 264 [vI n] (vI (spl n)) [] := by
  refine use_of dcH3 false Tryz.f264 ?_
  conv => enter [1]; reduce
  refine jvR Tryz.f264 14 [.tmp 2] (by kernel_rfl) (by decide +kernel) rfl ?_
  simp -implicitDefEqProofs only [go_sem]
  refine Want.intro (c108_c _ _ _) ?_
  have hin : mIn (n : Int) 2 256 = true := by simp [mIn]; omega
  simp -implicitDefEqProofs only [go_sem, hin, condJ_true, condJ_false]
  refine jv_lp (fun m s => ∃ j : Nat, 2 ^ j < n ∧ m = n - 2 ^ j ∧ s = ⟨14, [(0, vI n), (3, vI ((2 ^ j : Nat) : Int))], [], 1⟩) (n - 1) ?_ ?_
  · simp -implicitDefEqProofs only [go_sem]
    exact ⟨0, by simp; omega, rfl, rfl⟩
  · rintro m s ⟨j, hj, rfl, rfl⟩
    have e : 2 ^ (j + 1) = 2 * 2 ^ j := by rw [Nat.pow_succ]; omega
    have hp : 0 < 2 ^ j := Nat.pow_pos (by omega)
    have hS := fun h2 => spl_of (n := n) (j := j) hj h2
    generalize hq : 2 ^ j = q at *
    have w1 : IntKind.i64.wrap (2 * (q : Int)) = ((2 * q : Nat) : Int) := by rw [wrS (by omega)]; omega
    have w2 : IntKind.i64.wrap ((q : Int) * 2) = ((2 * q : Nat) : Int) := by rw [wrS (by omega)]; omega
    rcases Nat.lt_or_ge (2 * q) n with hlt | hge
    · have hlt' : ((2 * q : Nat) : Int) < (n : Int) := by omega
      simp -implicitDefEqProofs only [go_sem, w1, hlt', w2]
      exact ⟨_, by omega, j + 1, by omega, rfl, by rw [e]⟩
    · have hlt' : ¬ ((2 * q : Nat) : Int) < (n : Int) := by omega
      simp -implicitDefEqProofs only [go_sem, w1, hlt']
      rw [hS (by omega)]
theorem c200_c (n : Nat) (h : 2 ≤ n) (h2 : n ≤ 256) : CallR Tryz.prog 200 [vI n] (vI (spl n)) [] := by
  refine use_of dcH3 false Tryz.f200 ?_
  conv => enter [1]; reduce
  refine jvR Tryz.f200 14 [.tmp 2] (by kernel_rfl) (by decide +kernel) rfl ?_
  simp -implicitDefEqProofs only [go_sem]
  refine Want.intro (c143_c _ _ _) ?_
  have hin : mIn (n : Int) 2 256 = true := by simp [mIn]; omega
  simp -implicitDefEqProofs only [go_sem, hin, condJ_true, condJ_false]
  refine jv_lp (fun m s => ∃ j : Nat, 2 ^ j < n ∧ m = n - 2 ^ j ∧ s = ⟨14, [(0, vI n), (3, vI ((2 ^ j : Nat) : Int))], [], 1⟩) (n - 1) ?_ ?_
  · simp -implicitDefEqProofs only [go_sem]
    exact ⟨0, by simp; omega, rfl, rfl⟩
  · rintro m s ⟨j, hj, rfl, rfl⟩
    have e : 2 ^ (j + 1) = 2 * 2 ^ j := by rw [Nat.pow_succ]; omega
    have hp : 0 < 2 ^ j := Nat.pow_pos (by omega)
    have hS := fun h2 => spl_of (n := n) (j := j) hj h2
    generalize hq : 2 ^ j = q at *
    have w1 : IntKind.i64.wrap (2 * (q : Int)) = ((2 * q : Nat) : Int) := by rw [wrS (by omega)]; omega
    have w2 : IntKind.i64.wrap ((q : Int) * 2) = ((2 * q : Nat) : Int) := by rw [wrS (by omega)]; omega
    rcases Nat.lt_or_ge (2 * q) n with hlt | hge
    · have hlt' : ((2 * q : Nat) : Int) < (n : Int) := by omega
      simp -implicitDefEqProofs only [go_sem, w1, hlt', w2]
      exact ⟨_, by omega, j + 1, by omega, rfl, by rw [e]⟩
    · have hlt' : ¬ ((2 * q : Nat) : Int) < (n : Int) := by omega
      simp -implicitDefEqProofs only [go_sem, w1, hlt']
      rw [hS (by omega)]
def mRoot (l : List ByteArray) : BD :=
  match l with
  | [] => mHashOf []
  | [a] => hLeaf a
  | a :: b :: l => hPair (mRoot ((a :: b :: l).take (spl (l.length + 2)))) (mRoot ((a :: b :: l).drop (spl (l.length + 2))))
termination_by l.length
decreasing_by
  all_goals
    have := spl_bd (n := l.length + 2) (by omega)
    simp only [List.length_take, List.length_drop, List.length_cons]
    omega
theorem c186_c (l : List ByteArray) (hl : l.length ≤ maxLen) : CallR Tryz.prog 186 [.ro 1 (l.map leafCs)] (vB (mLeavesOk l)) [] := by
  refine use_of dcH3 false Tryz.f186 ?_
  conv => enter [1]; reduce
  refine jvR Tryz.f186 18 [.tmp 2] (by kernel_rfl) (by decide +kernel) rfl ?_
  unfold mLeavesOk
  simp -implicitDefEqProofs only [go_sem]
  refine jv_lp (fun m s => ∃ i : Nat, i ≤ l.length ∧ m = l.length - i ∧ leavesOk (l.drop i) = leavesOk l ∧ s = ⟨18, [(0, .ro 1 (l.map leafCs)), (5, .ro 1 (l.map leafCs)), (6, vI l.length), (7, vI i)], [], 1⟩) l.length ?_ ?_
  · simp -implicitDefEqProofs only [go_sem]
    exact ⟨0, Nat.zero_le _, rfl, rfl, rfl⟩
  · rintro m s ⟨i, hi, rfl, hx, rfl⟩
    rcases Nat.lt_or_ge i l.length with hlt | hge
    · have hlt' : (i : Int) < (l.length : Int) := by omega
      have hg : l[i]? = some l[i] := List.getElem?_eq_getElem hlt
      have hw := wrap_succ hlt hl
      rw [leavesOk_drop hlt] at hx
      simp -implicitDefEqProofs only [go_sem, hlt', hg]
      refine condJ_intro (fun h => ?_) (fun h => ?_)
      · simp -implicitDefEqProofs only [go_sem, h]
        have : ¬ l[i].size ≤ 40 := by have := of_decide_eq_true h; omega
        rw [← hx]
        simp [this]
      · simp -implicitDefEqProofs only [go_sem, h, hw]
        have : l[i].size ≤ 40 := by have := of_decide_eq_false h; omega
        exact ⟨_, by omega, i + 1, hlt, rfl, by rw [← hx]; simp [this], rfl⟩
    · have hi : i = l.length := by omega
      subst hi
      have hlt' : ¬ ((l.length : Int) < (l.length : Int)) := by omega
      rw [List.drop_length] at hx
      simp -implicitDefEqProofs only [go_sem, hlt']
      rw [← hx]
      simp [leavesOk]
theorem c41_c (l : List ByteArray) (hl : l.length ≤ maxLen) : CallR Tryz.prog 41 [.ro 1 (l.map leafCs)] (vB (mLeavesOk l)) [] := by
  refine use_of dcH3 false Tryz.f41 ?_
  conv => enter [1]; reduce
  refine jvR Tryz.f41 19 [.tmp 2] (by kernel_rfl) (by decide +kernel) rfl ?_
  unfold mLeavesOk
  simp -implicitDefEqProofs only [go_sem]
  refine condJ_intro (fun h => ?_) (fun h => ?_)
  · simp -implicitDefEqProofs only [go_sem, h]
    have : ¬ l.length ≤ 256 := by have := of_decide_eq_true h; omega
    simp
    omega
  · have h256 : l.length ≤ 256 := by have := of_decide_eq_false h; omega
    simp -implicitDefEqProofs only [go_sem, h]
    refine jv_lp (fun m s => ∃ i : Nat, i ≤ l.length ∧ m = l.length - i ∧ leavesOk (l.drop i) = leavesOk l ∧ s = ⟨19, [(0, .ro 1 (l.map leafCs)), (3, vI i)], [], 1⟩) l.length ?_ ?_
    · simp -implicitDefEqProofs only [go_sem]
      exact ⟨0, Nat.zero_le _, rfl, rfl, rfl⟩
    · rintro m s ⟨i, hi, rfl, hx, rfl⟩
      have h2 : (l.length : Int) ≤ 256 := by omega
      rcases Nat.lt_or_ge i l.length with hlt | hge
      · have hlt' : (i : Int) < (l.length : Int) := by omega
        have hg : l[i]? = some l[i] := List.getElem?_eq_getElem hlt
        have hw := wrap_succ hlt hl
        rw [leavesOk_drop hlt] at hx
        simp -implicitDefEqProofs only [go_sem, hlt', hg]
        refine condJ_intro (fun h => ?_) (fun h => ?_)
        · simp -implicitDefEqProofs only [go_sem, h]
          have : ¬ l[i].size ≤ 40 := by have := of_decide_eq_true h; omega
          rw [← hx]
          simp [this]
        · simp -implicitDefEqProofs only [go_sem, h, hw]
          have : l[i].size ≤ 40 := by have := of_decide_eq_false h; omega
          exact ⟨_, by omega, i + 1, hlt, rfl, by rw [← hx]; simp [this], rfl⟩
      · have hi : i = l.length := by omega
        subst hi
        have hlt' : ¬ ((l.length : Int) < (l.length : Int)) := by omega
        rw [List.drop_length] at hx
        simp -implicitDefEqProofs only [go_sem, hlt']
        rw [← hx]
        simp [leavesOk]
        omega
theorem mLeavesOk_of {l : List ByteArray} (h : mLeavesOk l = true) : l.length ≤ 256 ∧ ∀ b ∈ l, b.size ≤ 40 := by
  simp only [mLeavesOk, Bool.and_eq_true, decide_eq_true_eq, leavesOk, List.all_eq_true] at h
  exact ⟨by omega, h.2⟩
theorem mRoot_two {l : List ByteArray} (h : 2 ≤ l.length) : mRoot l = hPair (mRoot (l.take (spl l.length))) (mRoot (l.drop (spl l.length))) := by
  match l, h with
  | a :: b :: l, _ => rw [mRoot]; rfl
theorem z0 : ((0 : Nat) : Int) = 0 := rfl
theorem z1 : ((1 : Nat) : Int) = 1 := rfl
theorem c187_n : ∀ (n : Nat) (l : List ByteArray), l.length ≤ n → l.length ≤ 256 → (∀ b ∈ l, b.size ≤ 1000) → CallR Tryz.prog 187 [.ro 1 (l.map leafCs)] (.agg (mRoot l).cs) []
  | 0, l, hn, h2, hb => by
    have : l = [] := List.eq_nil_of_length_eq_zero (by omega)
    subst this
    refine use_of dcH3 false Tryz.f187 ?_
    conv => enter [1]; reduce
    refine jvR Tryz.f187 27 [.cell 2 37] (by kernel_rfl) (by decide +kernel) rfl ?_
    have h0 := c148_c ⟨#[]⟩ (by decide)
    simp -implicitDefEqProofs only [go_sem, z0]
    refine Want.intro h0 ?_
    simp -implicitDefEqProofs only [go_sem, mRoot]
    try rfl
  | n + 1, l, hn, h2, hb => by
    refine use_of dcH3 false Tryz.f187 ?_
    conv => enter [1]; reduce
    refine jvR Tryz.f187 27 [.cell 2 37] (by kernel_rfl) (by decide +kernel) rfl ?_
    match l, hn, h2, hb with
    | [], _, _, _ =>
      have h0 := c148_c ⟨#[]⟩ (by decide)
      simp -implicitDefEqProofs only [go_sem, z0]
      refine Want.intro h0 ?_
      simp -implicitDefEqProofs only [go_sem, mRoot]
      try rfl
    | [a], _, _, hb =>
      have ha := hb a (by simp)
      simp -implicitDefEqProofs only [go_sem, z1]
      refine Want.intro (c263_c a (by omega)) ?_
      simp -implicitDefEqProofs only [go_sem, mRoot]
    | a :: b :: l, hn, h2, hb =>
      obtain ⟨L, hL⟩ : ∃ L, a :: b :: l = L := ⟨_, rfl⟩
      rw [hL] at hn h2 hb ⊢
      have h3 : 2 ≤ L.length := by rw [← hL]; simp
      rw [mRoot_two h3]
      have hs := spl_bd h3
      have e0 : ((L.length : Int) == 0) = false := by rw [beq_eq_false_iff_ne]; omega
      have e1 : ((L.length : Int) == 1) = false := by rw [beq_eq_false_iff_ne]; omega
      have l1 : (L.take (spl L.length)).length ≤ n ∧ (L.take (spl L.length)).length ≤ 256 := by rw [List.length_take]; omega
      have l2 : (L.drop (spl L.length)).length ≤ n ∧ (L.drop (spl L.length)).length ≤ 256 := by rw [List.length_drop]; omega
      have hT := c187_n n (L.take (spl L.length)) l1.1 l1.2 (fun b h => hb b (List.mem_of_mem_take h))
      have hD := c187_n n (L.drop (spl L.length)) l2.1 l2.2 (fun b h => hb b (List.mem_of_mem_drop h))
      simp -implicitDefEqProofs only [go_sem, e0, e1, condJ_false]
      refine Want.intro (c264_c L.length h3 h2) ?_
      generalize spl L.length = k at *
      have k1 : (0 : Int) ≤ (k : Int) ∧ (k : Int) ≤ (L.length : Int) := by omega
      have k2 : (k : Int) ≤ (L.length : Int) ∧ (L.length : Int) ≤ (L.length : Int) := by omega
      have k3 : List.take (L.length - k) (List.drop k L) = List.drop k L := List.take_of_length_le (by simp)
      simp -implicitDefEqProofs only [go_sem, k1, k2, k3, Nat.sub_zero, List.drop_zero]
      refine Want.intro hT ?_
      simp -implicitDefEqProofs only [go_sem]
      refine Want.intro hD ?_
      simp -implicitDefEqProofs only [go_sem]
      refine Want.intro (c265_c _ _) ?_
      simp -implicitDefEqProofs only [go_sem]
theorem c187_c (l : List ByteArray) (h : mLeavesOk l = true) : CallR Tryz.prog 187 [.ro 1 (l.map leafCs)] (.agg (mRoot l).cs) [] := by
  obtain ⟨h1, h2⟩ := mLeavesOk_of h
  exact c187_n l.length l (Nat.le_refl _) h1 fun b hb => by have := h2 b hb; omega
theorem c126_n : ∀ (n : Nat) (l : List ByteArray), l.length ≤ n → l.length ≤ 256 → (∀ b ∈ l, b.size ≤ 1000) → CallR Tryz.prog 126 [.ro 1 (l.map leafCs)] (.agg (mRoot l).cs) []
  | 0, l, hn, h2, hb => by
    have : l = [] := List.eq_nil_of_length_eq_zero (by omega)
    subst this
    refine use_of dcH3 false Tryz.f126 ?_
    conv => enter [1]; reduce
    refine jvR Tryz.f126 27 [.cell 2 37] (by kernel_rfl) (by decide +kernel) rfl ?_
    have h0 := c133_c ⟨#[]⟩ (by decide)
    simp -implicitDefEqProofs only [go_sem, z0]
    refine Want.intro h0 ?_
    simp -implicitDefEqProofs only [go_sem, mRoot]
    try rfl
  | n + 1, l, hn, h2, hb => by
    refine use_of dcH3 false Tryz.f126 ?_
    conv => enter [1]; reduce
    refine jvR Tryz.f126 27 [.cell 2 37] (by kernel_rfl) (by decide +kernel) rfl ?_
    match l, hn, h2, hb with
    | [], _, _, _ =>
      have h0 := c133_c ⟨#[]⟩ (by decide)
      simp -implicitDefEqProofs only [go_sem, z0]
      refine Want.intro h0 ?_
      simp -implicitDefEqProofs only [go_sem, mRoot]
      try rfl
    | [a], _, _, hb =>
      have ha := hb a (by simp)
      simp -implicitDefEqProofs only [go_sem, z1]
      refine Want.intro (c222_c a (by omega)) ?_
      simp -implicitDefEqProofs only [go_sem, mRoot]
    | a :: b :: l, hn, h2, hb =>
      obtain ⟨L, hL⟩ : ∃ L, a :: b :: l = L := ⟨_, rfl⟩
      rw [hL] at hn h2 hb ⊢
      have h3 : 2 ≤ L.length := by rw [← hL]; simp
      rw [mRoot_two h3]
      have hs := spl_bd h3
      have e0 : ((L.length : Int) == 0) = false := by rw [beq_eq_false_iff_ne]; omega
      have e1 : ((L.length : Int) == 1) = false := by rw [beq_eq_false_iff_ne]; omega
      have l1 : (L.take (spl L.length)).length ≤ n ∧ (L.take (spl L.length)).length ≤ 256 := by rw [List.length_take]; omega
      have l2 : (L.drop (spl L.length)).length ≤ n ∧ (L.drop (spl L.length)).length ≤ 256 := by rw [List.length_drop]; omega
      have hT := c126_n n (L.take (spl L.length)) l1.1 l1.2 (fun b h => hb b (List.mem_of_mem_take h))
      have hD := c126_n n (L.drop (spl L.length)) l2.1 l2.2 (fun b h => hb b (List.mem_of_mem_drop h))
      simp -implicitDefEqProofs only [go_sem, e0, e1, condJ_false]
      refine Want.intro (c200_c L.length h3 h2) ?_
      generalize spl L.length = k at *
      have k1 : (0 : Int) ≤ (k : Int) ∧ (k : Int) ≤ (L.length : Int) := by omega
      have k2 : (k : Int) ≤ (L.length : Int) ∧ (L.length : Int) ≤ (L.length : Int) := by omega
      have k3 : List.take (L.length - k) (List.drop k L) = List.drop k L := List.take_of_length_le (by simp)
      simp -implicitDefEqProofs only [go_sem, k1, k2, k3, Nat.sub_zero, List.drop_zero]
      refine Want.intro hT ?_
      simp -implicitDefEqProofs only [go_sem]
      refine Want.intro hD ?_
      simp -implicitDefEqProofs only [go_sem]
      refine Want.intro (c223_c _ _) ?_
      simp -implicitDefEqProofs only [go_sem]
theorem c126_c (l : List ByteArray) (h : mLeavesOk l = true) : CallR Tryz.prog 126 [.ro 1 (l.map leafCs)] (.agg (mRoot l).cs) [] := by
  obtain ⟨h1, h2⟩ := mLeavesOk_of h
  exact c126_n l.length l (Nat.le_refl _) h1 fun b hb => by have := h2 b hb; omega
end Go.Proofs.YtjlhdfciklnndaaGreat.E
