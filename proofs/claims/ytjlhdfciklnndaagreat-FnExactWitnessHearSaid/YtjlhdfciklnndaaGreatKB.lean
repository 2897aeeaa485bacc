/-
  Contracts: growths checked.
-/
import Derived.Test.YtjlhdfciklnndaaGreatKA
namespace Go.Proofs.YtjlhdfciklnndaaGreat.E
open Go Go.RowKit
set_option maxHeartbeats 4000000
set_option maxRecDepth 10000
set_option linter.unusedSimpArgs false
set_option linter.unusedVariables false
set_option linter.unusedSectionVars false
def dcKB : Dec := ⟨[(284, .cm [false, false, false]), (286, .cm [true, false])], [9, 10, 11], [27, 30, 44, 45, 46, 58, 68, 78, 79, 86, 101, 112, 113, 132, 174, 196, 247, 249, 351, 356], false⟩

def bd0 : BD := ⟨0, 0, 0, 0⟩
/-- What a proof gives to a node. -/
def mD (P : List BD) (m n : Nat) (x : Nd) : BD := (mfind x (gA m n) P).getD bd0
theorem mD_at {P : List BD} {m n i : Nat} (h : 1 ≤ n) (hi : i < (gA m n).length) (hP : P.length = (gA m n).length) : mfind (gA m n)[i] (gA m n) P = some (P[i]'(by omega)) :=
  mfind_get (srt_nodup (gA_srt h)) hi (by omega)
theorem mem_place {l : List Nd} (hl : Srt l) {x : Nd} (hx : x ∈ l) : ∃ h : (l.filter fun y => decide (y.1 < x.1)).length < l.length, l[(l.filter fun y => decide (y.1 < x.1)).length] = x := by
  obtain ⟨i, hi, rfl⟩ := List.getElem_of_mem hx
  have e := srt_place hl hi
  exact ⟨by rw [e]; exact hi, by simp only [e]⟩
theorem mD_new {P : List BD} {m n : Nat} (h1 : 0 < m) (h2 : m < n) (h3 : n ≤ 256) (hP : P.length = (gA m n).length) {x : Nd} (hx : x ∈ (gN m n 0 n).2) :
    mfind x (gA m n) P = some (mD P m n x) ∧ ∃ i, i = popc 9 m + nRest m n 0 n x.1 ∧ P[i]? = some (mD P m n x) := by
  obtain ⟨hlt, he⟩ := mem_place (gN_srt (m := m) n 0 n (by omega) (by omega)).2 hx
  have e1 := popc_old h1 h2 h3
  have hg : (gA m n).length = (gN m n 0 n).1.length + (gN m n 0 n).2.length := by unfold gA; rw [List.length_append]
  obtain ⟨j, hj⟩ : ∃ j, ((gN m n 0 n).2.filter fun y => decide (y.1 < x.1)).length = j := ⟨_, rfl⟩
  simp only [hj] at hlt he
  have hi : (gN m n 0 n).1.length + j < (gA m n).length := by omega
  have hgx : (gA m n)[(gN m n 0 n).1.length + j] = x := by
    have hq : (gA m n)[(gN m n 0 n).1.length + j]? = some x := by
      show ((gN m n 0 n).1 ++ (gN m n 0 n).2)[(gN m n 0 n).1.length + j]? = some x
      rw [List.getElem?_append_right (Nat.le_add_right _ _), Nat.add_sub_cancel_left, List.getElem?_eq_getElem hlt, he]
    rw [List.getElem?_eq_getElem hi] at hq
    exact Option.some.inj hq
  have hf := mD_at (P := P) (m := m) (n := n) (by omega) hi hP
  rw [hgx] at hf
  have hd : mD P m n x = P[(gN m n 0 n).1.length + j]'(by omega) := by unfold mD; rw [hf]; rfl
  refine ⟨by rw [hf, hd], (gN m n 0 n).1.length + j, by rw [e1]; unfold nRest; rw [hj], ?_⟩
  rw [hd]
  exact List.getElem?_eq_getElem _
theorem mD_old {P : List BD} {m n : Nat} (h1 : 0 < m) (h2 : m < n) (h3 : n ≤ 256) (hP : P.length = (gA m n).length) {x : Nd} (hx : x ∈ (gN m n 0 n).1) :
    mfind x (gA m n) P = some (mD P m n x) ∧ ∃ i, i = nAhead m x.1 ∧ P[i]? = some (mD P m n x) := by
  obtain ⟨hlt, he⟩ := mem_place (gN_srt (m := m) n 0 n (by omega) (by omega)).1 hx
  have e1 := gN_pks (m := m) n m 0 n (by omega) (by omega) (by omega) (by omega)
  have hg : (gA m n).length = (gN m n 0 n).1.length + (gN m n 0 n).2.length := by unfold gA; rw [List.length_append]
  obtain ⟨j, hj⟩ : ∃ j, ((gN m n 0 n).1.filter fun y => decide (y.1 < x.1)).length = j := ⟨_, rfl⟩
  simp only [hj] at hlt he
  have hi : j < (gA m n).length := by omega
  have hgx : (gA m n)[j] = x := by
    have hq : (gA m n)[j]? = some x := by
      show ((gN m n 0 n).1 ++ (gN m n 0 n).2)[j]? = some x
      rw [List.getElem?_append_left hlt, List.getElem?_eq_getElem hlt, he]
    rw [List.getElem?_eq_getElem hi] at hq
    exact Option.some.inj hq
  have hf := mD_at (P := P) (m := m) (n := n) (by omega) hi hP
  rw [hgx] at hf
  have hd : mD P m n x = P[j]'(by omega) := by unfold mD; rw [hf]; rfl
  refine ⟨by rw [hf, hd], j, by unfold nAhead; rw [← e1, hj], ?_⟩
  rw [hd]
  exact List.getElem?_eq_getElem _
theorem gN_sub {m k lo hi : Nat} (h1 : ¬ hi ≤ m) (h2 : ¬ m ≤ lo) {A B : List Nd} (h : (∀ x ∈ (gN m (k + 1) lo hi).1, x ∈ A) ∧ (∀ x ∈ (gN m (k + 1) lo hi).2, x ∈ B)) :
    ((∀ x ∈ (gN m k lo (lo + spl (hi - lo))).1, x ∈ A) ∧ (∀ x ∈ (gN m k lo (lo + spl (hi - lo))).2, x ∈ B)) ∧ ((∀ x ∈ (gN m k (lo + spl (hi - lo)) hi).1, x ∈ A) ∧ (∀ x ∈ (gN m k (lo + spl (hi - lo)) hi).2, x ∈ B)) := by
  rw [gN_mid h1 h2] at h
  exact ⟨⟨fun x hx => h.1 x (List.mem_append_left _ hx), fun x hx => h.2 x (List.mem_append_left _ hx)⟩, ⟨fun x hx => h.1 x (List.mem_append_right _ hx), fun x hx => h.2 x (List.mem_append_right _ hx)⟩⟩
theorem nAhead_le (m at_ : Nat) : nAhead m at_ ≤ m := Nat.le_trans (List.length_filter_le _ _) (by have := pks_len m 0 m; omega)
theorem c154_c (P : List BD) (m n : Nat) (h1 : 0 < m) (h2 : m < n) (h3 : n ≤ 256) (hP : P.length = (gA m n).length) :
    ∀ (k lo hi : Nat), lo < hi → hi ≤ n → hi - lo ≤ k → ((∀ x ∈ (gN m k lo hi).1, x ∈ (gN m n 0 n).1) ∧ (∀ x ∈ (gN m k lo hi).2, x ∈ (gN m n 0 n).2)) →
    CallR Tryz.prog 154 [vI lo, vI hi, vI m, vI n, .ro 4 (P.map BD.cs)] (.agg (mNode (mD P m n) m k lo hi).cs) []
  | 0, lo, hi, h, hn, hk, hin => by omega
  | k + 1, lo, hi, h, hn, hk, hin => by
    refine use_of dcKB false Tryz.f154 ?_
    conv => enter [1]; reduce
    refine jvR Tryz.f154 53 [.cell 10 37] (by kernel_rfl) (by decide +kernel) rfl ?_
    have hpc := popc_le 9 m
    by_cases c2 : m ≤ lo
    · have c2' : (lo : Int) ≥ (m : Int) := by omega
      have hx : (lo, hi) ∈ (gN m n 0 n).2 := hin.2 _ (by rw [gN_new (by omega) c2]; simp)
      obtain ⟨-, i, hi1, hi2⟩ := mD_new h1 h2 h3 hP hx
      have hr := nRest_le (m := m) (k := n) (lo := 0) (hi := n) (at_ := lo) (by omega) (by omega)
      have w1 : IntKind.i64.wrap ((popc 9 m : Int) + (nRest m n 0 n lo : Int)) = ((i : Nat) : Int) := by rw [wrS (by omega)]; simp only [hi1]; omega
      have hlt : i < P.length := (List.getElem?_eq_some_iff.1 hi2).1
      have hlt' : (i : Int) < (P.length : Int) := by omega
      rw [mNode_out (.inr c2)]
      simp -implicitDefEqProofs only [go_sem, c2', condJ_true]
      refine Want.intro (c99_c m (by omega)) ?_
      simp -implicitDefEqProofs only [go_sem]
      refine Want.intro (c100_c m lo n 0 n (by omega) (by omega) (by omega)) ?_
      simp -implicitDefEqProofs only [go_sem, w1, hlt', hi2]
    · have c2' : ¬ (lo : Int) ≥ (m : Int) := by omega
      by_cases c1 : hi ≤ m
      · have c1' : (hi : Int) ≤ (m : Int) := by omega
        have hx : (lo, hi) ∈ (gN m n 0 n).1 := hin.1 _ (by rw [gN_old c1]; simp)
        obtain ⟨-, i, hi1, hi2⟩ := mD_old h1 h2 h3 hP hx
        have hlt : i < P.length := (List.getElem?_eq_some_iff.1 hi2).1
        have hlt' : (i : Int) < (P.length : Int) := by omega
        rw [mNode_out (.inl c1)]
        simp -implicitDefEqProofs only [go_sem, c2', c1', condJ_true, condJ_false]
        have hc := c249_c m lo (by omega) (by omega)
        rw [← show i = nAhead m lo from hi1] at hc
        refine Want.intro hc ?_
        simp -implicitDefEqProofs only [go_sem, hlt', hi2]
      · have c1' : ¬ (hi : Int) ≤ (m : Int) := by omega
        have hs := spl_bd (n := hi - lo) (by omega)
        obtain ⟨s1, s2⟩ := gN_sub c1 c2 hin
        have w1 : IntKind.i64.wrap ((hi : Int) - (lo : Int)) = ((hi - lo : Nat) : Int) := by rw [wrS (by omega)]; omega
        have w2 : IntKind.i64.wrap ((lo : Int) + ((spl (hi - lo) : Nat) : Int)) = ((lo + spl (hi - lo) : Nat) : Int) := by rw [wrS (by omega)]; omega
        rw [mNode_mid (fun h => h.elim c1 c2)]
        simp -implicitDefEqProofs only [go_sem, c2', c1', w1, condJ_false]
        refine Want.intro (c200_c (hi - lo) (by omega) (by omega)) ?_
        simp -implicitDefEqProofs only [go_sem, w2]
        refine Want.intro (c154_c P m n h1 h2 h3 hP k lo (lo + spl (hi - lo)) (by omega) (by omega) (by omega) s1) ?_
        simp -implicitDefEqProofs only [go_sem]
        refine Want.intro (c154_c P m n h1 h2 h3 hP k (lo + spl (hi - lo)) hi (by omega) (by omega) (by omega) s2) ?_
        simp -implicitDefEqProofs only [go_sem]
        refine Want.intro (c223_c _ _) ?_
        simp -implicitDefEqProofs only [go_sem]
/-- The digest of the whole tree by a proof. -/
theorem c154_t (P : List BD) (m n : Nat) (h1 : 0 < m) (h2 : m < n) (h3 : n ≤ 256) (hP : P.length = (gA m n).length) :
    CallR Tryz.prog 154 [vI 0, vI n, vI m, vI n, .ro 4 (P.map BD.cs)] (.agg (mNode (mD P m n) m n 0 n).cs) [] :=
  c154_c P m n h1 h2 h3 hP n 0 n (by omega) (Nat.le_refl _) (by omega) ⟨fun _ h => h, fun _ h => h⟩
theorem c286_t (P : List BD) (m n : Nat) (h1 : 0 < m) (h2 : m < n) (h3 : n ≤ 256) (hP : P.length = (gA m n).length) :
    CallM Tryz.prog 286 [(1000000, 0, one (mpR (mc (gA m n) P)))] [.mr 1000000 0 [], .agg [vI 0, vI n]] (.agg (mNode (mD P m n) m n 0 n).cs) [(1000000, 0, one (mpR (mc (gA m n) P)))] := by
  refine c286_c (mc (gA m n) P) (fun x => mfind x (gA m n) P) (mD P m n) m (fun x => findA_mc x _ _) (fun x hx1 hx2 => mfind_none ?_) n 0 n (by omega) h3 (by omega) ?_
  · intro hx
    have s := gN_side (m := m) n 0 n
    rcases List.mem_append.1 hx with hx | hx
    · have := s.1 x hx; omega
    · have := s.2 x hx; omega
  · rintro x (hx | hx)
    · exact (mD_old h1 h2 h3 hP hx).1
    · exact (mD_new h1 h2 h3 hP hx).1
end Go.Proofs.YtjlhdfciklnndaaGreat.E
