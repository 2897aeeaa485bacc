/-
  Contracts: parts of messages; numbers in bytes.
-/
import Derived.Test.YtjlhdfciklnndaaGreatD7
namespace Go.Proofs.YtjlhdfciklnndaaGreat.E
open Go Go.RowKit
set_option maxHeartbeats 4000000
set_option maxRecDepth 10000
set_option linter.unusedSimpArgs false
set_option linter.unusedVariables false
set_option linter.unusedSectionVars false
def dcD8 : Dec := ⟨[], [9, 10, 11], [27, 30, 44, 45, 46, 58, 68, 78, 79, 86, 101, 112, 113, 132, 174, 196, 247, 249, 351, 356], false⟩

def mPart (h : Bool) (n lo hi : Int) : Bool := if h then mIn n lo hi else n == 0
theorem c114_c (h : Bool) (n lo hi : Int) : CallR Tryz.prog 114 [vB h, vI n, vI lo, vI hi] (vB (mPart h n lo hi)) [] := by
  refine use_of dcD8 false Tryz.f114 ?_
  conv => enter [1]; reduce
  refine jvR Tryz.f114 17 [.tmp 8] (by kernel_rfl) (by decide +kernel) rfl ?_
  simp -implicitDefEqProofs only [go_sem]
  refine condJ_intro (fun h1 => ?_) (fun h1 => ?_)
  · have h2 : h = false := by simpa using h1
    subst h2
    simp -implicitDefEqProofs only [go_sem, mPart]
    try rfl
  · have h2 : h = true := by simpa using h1
    subst h2
    simp -implicitDefEqProofs only [go_sem, mPart]
    refine Want.intro (c108_c n lo hi) ?_
    simp -implicitDefEqProofs only [go_sem]
    try rfl
def leavesOk (l : List ByteArray) : Bool := l.all fun s => decide (s.size ≤ 40)
theorem leavesOk_drop {l : List ByteArray} {i : Nat} (h : i < l.length) : leavesOk (l.drop i) = (decide (l[i].size ≤ 40) && leavesOk (l.drop (i + 1))) := by
  rw [List.drop_eq_getElem_cons h]; rfl
theorem c224_c (l : List ByteArray) (hl : l.length ≤ maxLen) : CallR Tryz.prog 224 [.ro 1 (l.map leafCs)] (vB (decide (l.length ≤ 8) && leavesOk l)) [] := by
  refine use_of dcD8 false Tryz.f224 ?_
  conv => enter [1]; reduce
  refine jvR Tryz.f224 19 [.tmp 2] (by kernel_rfl) (by decide +kernel) rfl ?_
  simp -implicitDefEqProofs only [go_sem]
  refine condJ_intro (fun h => ?_) (fun h => ?_)
  · have h2 : ¬ l.length ≤ 8 := by have := of_decide_eq_true h; omega
    simp -implicitDefEqProofs only [go_sem, h]
    simp [h2]
  · have h2 : l.length ≤ 8 := by have := of_decide_eq_false h; omega
    simp -implicitDefEqProofs only [go_sem, h]
    refine jv_lp (fun k s => ∃ (i : Nat), i ≤ l.length ∧ k = l.length - i ∧ leavesOk (l.drop i) = leavesOk l ∧ s = ⟨19, [(0, .ro 1 (l.map leafCs)), (3, vI i)], [], 1⟩) l.length
      (by simp -implicitDefEqProofs only [go_sem]; exact ⟨0, Nat.zero_le _, rfl, rfl, rfl⟩) ?_
    rintro k s ⟨i, hi, rfl, hx, rfl⟩
    rcases Nat.lt_or_ge i l.length with hlt | hge
    · have hlt' : (i : Int) < (l.length : Int) := by omega
      have hg : l[i]? = some l[i] := List.getElem?_eq_getElem hlt
      have hw := wrap_succ hlt hl
      rw [leavesOk_drop hlt] at hx
      simp -implicitDefEqProofs only [go_sem, hlt', hg]
      refine condJ_intro (fun h => ?_) (fun h => ?_)
      · have h3 : ¬ l[i].size ≤ 40 := by have := of_decide_eq_true h; omega
        simp -implicitDefEqProofs only [go_sem, h]
        simp [h3] at hx
        simp [h2, ← hx]
      · have h3 : l[i].size ≤ 40 := by have := of_decide_eq_false h; omega
        simp -implicitDefEqProofs only [go_sem, h, hw]
        refine ⟨_, by omega, i + 1, hlt, rfl, ?_, rfl⟩
        rw [← hx]
        simp [h3]
    · have hi : i = l.length := by omega
      subst hi
      have hlt' : ¬ ((l.length : Int) < (l.length : Int)) := by omega
      rw [List.drop_length] at hx
      simp -implicitDefEqProofs only [go_sem, hlt']
      simp [h2, ← hx]
      try rfl
def numB (v : Nat) : Nat → ByteArray
  | 0 => ⟨#[]⟩
  | n + 1 => numB (v / 256) n ++ ⟨#[UInt8.ofNat (v % 256)]⟩
theorem numB_size (v n : Nat) : (numB v n).size = n := by
  induction n generalizing v with
  | zero => rfl
  | succ n ih => rw [numB, ByteArray.size_append, ih]; rfl
theorem c129_c : ∀ (n v : Nat), n ≤ 10 → v ≤ 1000000000 → CallR Tryz.prog 129 [vI v, vI n] (vS (numB v n)) []
  | 0, v, hn, hv => by
    refine use_of dcD8 false Tryz.f129 ?_
    conv => enter [1]; reduce
    refine jvR Tryz.f129 18 [.tmp 4] (by kernel_rfl) (by decide +kernel) rfl ?_
    simp -implicitDefEqProofs only [go_sem]
    refine condJ_intro (fun h => ?_) (fun h => ?_)
    · simp -implicitDefEqProofs only [go_sem, h]
      rfl
    · exact absurd h (by decide)
  | n + 1, v, hn, hv => by
    refine use_of dcD8 false Tryz.f129 ?_
    conv => enter [1]; reduce
    refine jvR Tryz.f129 18 [.tmp 4] (by kernel_rfl) (by decide +kernel) rfl ?_
    simp -implicitDefEqProofs only [go_sem]
    have hlt : ¬ (((n + 1 : Nat) : Int) < 1) := by omega
    have htm : ((v : Int)).tmod 256 = ((v % 256 : Nat) : Int) := by rw [Int.tmod_eq_emod_of_nonneg (by omega)]; omega
    have htd : ((v : Int)).tdiv 256 = ((v / 256 : Nat) : Int) := by rw [Int.tdiv_eq_ediv_of_nonneg (by omega)]; omega
    have w1 : IntKind.i64.wrap ((v / 256 : Nat) : Int) = ((v / 256 : Nat) : Int) := wrS (by omega)
    have w2 : IntKind.i64.wrap (((n + 1 : Nat) : Int) - 1) = (n : Int) := by rw [wrS (by omega)]; omega
    have w3 : (IntKind.u8.wrap ((v % 256 : Nat) : Int)) = ((v % 256 : Nat) : Int) := by
      have h8 : IntKind.u8.bits = 8 := rfl
      have hs : IntKind.u8.signed = false := rfl
      simp only [IntKind.wrap, h8, hs, Bool.false_and, Bool.false_eq_true, if_false]
      omega
    simp -implicitDefEqProofs only [go_sem, hlt, htm, htd, w1, w2, w3]
    refine Want.intro (c129_c n (v / 256) (by omega) (by omega)) ?_
    have hsz : ¬ ((((numB (v / 256) n).size + (#[UInt8.ofNat (v % 256)] : Array UInt8).size : Nat) : Int) > 9223372036854775807) := by
      rw [numB_size]
      simp
      omega
    simp -implicitDefEqProofs only [go_sem, hsz]
    rfl
theorem partsInt (k : Int) : CallR Tryz.prog 109 [vI k] (vS (l5P k)) [] := by
  by_cases hk : 0 ≤ k
  · obtain ⟨n, rfl⟩ : ∃ n : Nat, k = n := ⟨k.toNat, by omega⟩
    exact c109_c n
  · refine use_of dcD8 false Tryz.f109 ?_
    conv => enter [1]; reduce
    refine jvR Tryz.f109 10 [.tmp 2] (by kernel_rfl) (by decide +kernel) rfl ?_
    simp -implicitDefEqProofs only [go_sem]
    refine Want.intro (c108_c _ _ _) ?_
    have hin : mIn k 1 8 = false := by simp [mIn]; omega
    simp -implicitDefEqProofs only [go_sem, hin]
    rw [l5P, if_neg (by omega), if_neg (by omega), if_neg (by omega), if_neg (by omega), if_neg (by omega), if_neg (by omega)]
theorem l5P_size (k : Int) : (l5P k).size ≤ 3 := by
  unfold l5P
  repeat' split
  all_goals decide
theorem c115_c (k : Int) (c : Nat) : CallR Tryz.prog 115 [vI k, .sc (.int .u8 (c : Int))] (vB (mHasB (l5P k) c)) [] := by
  refine use_of dcD8 false Tryz.f115 ?_
  conv => enter [1]; reduce
  refine jvR Tryz.f115 20 [.tmp 4] (by kernel_rfl) (by decide +kernel) rfl ?_
  simp -implicitDefEqProofs only [go_sem]
  refine Want.intro (partsInt k) ?_
  have hs3 := l5P_size k
  generalize l5P k = s at *
  simp -implicitDefEqProofs only [go_sem]
  refine jv_lp (fun m z => ∃ i, i ≤ s.size ∧ m = s.size - i ∧ mHasL (s.data.toList.drop i) c = mHasB s c ∧ z = ⟨20, [(1, .sc (.int .u8 (c : Int))), (5, vS s), (6, vI i)], [], 1⟩) s.size ?_ ?_
  · simp -implicitDefEqProofs only [go_sem]
    exact ⟨0, Nat.zero_le _, rfl, rfl, rfl⟩
  · rintro m z ⟨i, hi, rfl, hx, rfl⟩
    rcases Nat.lt_or_ge i s.size with hlt | hge
    · have hlt' : (i : Int) < (s.size : Int) := by omega
      have hg := data_get (s := s) (i := i) hlt
      have w4 : IntKind.i64.wrap ((i : Int) + 1) = ((i + 1 : Nat) : Int) := by rw [wrS (by omega)]; omega
      rw [mHasB_drop hlt] at hx
      simp -implicitDefEqProofs only [go_sem, hlt', hg]
      refine condJ_intro (fun h => ?_) (fun h => ?_)
      · have h2 : bN s i = c := by have := of_decide_eq_true h; omega
        simp -implicitDefEqProofs only [go_sem, h]
        rw [← hx, h2]
        simp
      · have h2 : ¬ bN s i = c := fun e => by rw [e] at h; simp at h
        simp -implicitDefEqProofs only [go_sem, h, w4]
        refine ⟨_, by omega, i + 1, hlt, rfl, ?_, rfl⟩
        rw [← hx]
        simp [h2]
    · have hi : i = s.size := by omega
      subst hi
      have hlt' : ¬ ((s.size : Int) < (s.size : Int)) := by omega
      simp -implicitDefEqProofs only [go_sem, hlt']
      rw [← hx]
      rw [List.drop_of_length_le (by rw [Array.length_toList]; exact Nat.le_refl _)]
      rfl
end Go.Proofs.YtjlhdfciklnndaaGreat.E
