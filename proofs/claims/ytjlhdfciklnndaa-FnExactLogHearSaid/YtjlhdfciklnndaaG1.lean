/-
  Contracts: growths, in the program: what falls into old nodes and new ones.
-/
import Derived.Test.YtjlhdfciklnndaaG0
import Derived.Test.YtjlhdfciklnndaaD5
import Derived.Test.YtjlhdfciklnndaaF1
namespace Go.Proofs.Ytjlhdfciklnndaa.E
open Go Go.RowKit
set_option maxHeartbeats 4000000
set_option maxRecDepth 10000
set_option linter.unusedSimpArgs false
set_option linter.unusedVariables false
set_option linter.unusedSectionVars false
def dcG1 : Dec := ⟨[(83, .cm [false, false, true, true])], [9, 10, 11], [22, 43, 84, 88, 103], false⟩

def nC (x : Nd) : List AV := [vI x.1, vI x.2]
def nRow (l : List Nd) : Row := ⟨2, l.map nC, 2, false⟩
attribute [go_sem] nRow
theorem nd_wide (l : List Nd) : wideB 2 (l.map nC) = true := by
  induction l with
  | nil => rfl
  | cons a l ih => simp only [List.map_cons, wideB, ih, nC]; rfl
theorem nd_flat (l : List Nd) : flL (l.map nC) = 2 := by
  induction l with
  | nil => rfl
  | cons a l ih => simp only [List.map_cons, flL, ih, nC]; rfl
attribute [go_sem] nd_wide nd_flat
def mGrow (m n : Int) : Bool := mIn n 0 256 && mIn m 0 n
theorem c67_c (m n : Int) : CallR Try.prog 67 [vI m, vI n] (vB (mGrow m n)) [] := by
  refine use_of dcG1 false Try.f67 ?_
  conv => enter [1]; reduce
  refine jvR Try.f67 12 [.tmp 4] (by kernel_rfl) (by decide +kernel) rfl ?_
  unfold mGrow
  simp -implicitDefEqProofs only [go_sem]
  refine Want.intro (c37_c _ _ _) ?_
  cases h : mIn n 0 256 with
  | false => simp -implicitDefEqProofs only [go_sem, guardP_tf, guardP_ff, guardP_ft, guardP_tt, condJ_true, condJ_false, Bool.false_and]
  | true =>
    simp -implicitDefEqProofs only [go_sem, guardP_tf, guardP_ff, guardP_ft, guardP_tt, condJ_true, condJ_false, Bool.true_and]
    refine Want.intro (c37_c _ _ _) ?_
    simp -implicitDefEqProofs only [go_sem]
theorem c87_c (lo hi : Nat) (h : lo + 2 ≤ hi) (h2 : hi ≤ 256) : CallR Try.prog 87 [.agg [vI lo, vI hi]] (.tup [.agg [vI lo, vI ((lo + spl (hi - lo) : Nat) : Int)], .agg [vI ((lo + spl (hi - lo) : Nat) : Int), vI hi]]) [] := by
  refine use_of dcG1 false Try.f87 ?_
  conv => enter [1]; reduce
  refine jvR Try.f87 22 [.cell 2 92, .cell 3 92] (by kernel_rfl) (by decide +kernel) rfl ?_
  have hs := spl_bd (n := hi - lo) (by omega)
  have w1 : IntKind.i64.wrap ((hi : Int) - (lo : Int)) = ((hi - lo : Nat) : Int) := by rw [wrS (by omega)]; omega
  have w2 : IntKind.i64.wrap ((lo : Int) + ((spl (hi - lo) : Nat) : Int)) = ((lo + spl (hi - lo) : Nat) : Int) := by rw [wrS (by omega)]; omega
  simp -implicitDefEqProofs only [go_sem, w1]
  refine Want.intro (c65_c (hi - lo) (by omega) (by omega)) ?_
  simp -implicitDefEqProofs only [go_sem, w2]
def nRR (a b : List Nd) : Sig := [(1000000, 0, one (nRow a)), (1000001, 0, one (nRow b))]
def nNN (a b : List Nd) : Sig := [(0, 0, one (nRow a)), (1, 0, one (nRow b))]
attribute [go_sem] nRR nNN
theorem nd_app (l : List Nd) (h : l.length ≤ 100000) : ∀ x, (l.map nC ++ [x]).length ≤ maxLen ∧ (l.map nC ++ [x]).length * 16 ≤ 140737488355328 := fun x => app_ok (E := nC) (l := l) (xs := [x]) (b := 16) (n := 1000000) (by simp; omega) (by omega) (by omega)
theorem fall_rr (m : Nat) : ∀ (k lo hi : Nat) (a b : List Nd), lo < hi → hi ≤ 256 → hi - lo ≤ k → a.length + (hi - lo) ≤ 10000 → b.length + (hi - lo) ≤ 10000 → CallM Try.prog 83 (nRR a b) [.agg [vI lo, vI hi], vI m, .blk 1000000 0 [] 2 0 a.length, .blk 1000001 0 [] 2 0 b.length]
    (.tup [.blk 0 0 [] 2 0 (a ++ (gN m k lo hi).1).length, .blk 1 0 [] 2 0 (b ++ (gN m k lo hi).2).length]) (nNN (a ++ (gN m k lo hi).1) (b ++ (gN m k lo hi).2))
  | 0, lo, hi, a, b, h, h2, hk, ha, hb => by omega
  | k + 1, lo, hi, a, b, h, h2, hk, ha, hb => by
    have hA := nd_app a (by omega)
    have hB := nd_app b (by omega)
    refine use_of dcG1 false Try.f83 ?_
    conv => enter [1]; reduce
    refine jvM Try.f83 52 [.tmp 8, .tmp 9] (by kernel_rfl) (by decide +kernel) rfl ?_
    by_cases c1 : hi ≤ m
    · have c1' : (hi : Int) ≤ (m : Int) := by omega
      rw [gN_old c1, List.append_nil]
      simp -implicitDefEqProofs only [go_sem, c1', hA]
      simp [nC]
    · have c1' : ¬ (hi : Int) ≤ (m : Int) := by omega
      by_cases c2 : m ≤ lo
      · have c2' : (lo : Int) ≥ (m : Int) := by omega
        rw [gN_new c1 c2, List.append_nil]
        simp -implicitDefEqProofs only [go_sem, c1', c2', hB]
        simp [nC]
      · have c2' : ¬ (lo : Int) ≥ (m : Int) := by omega
        have hs := spl_bd (n := hi - lo) (by omega)
        rw [gN_mid c1 c2]
        simp -implicitDefEqProofs only [go_sem, c1', c2']
        refine Want.intro (c87_c lo hi (by omega) h2) ?_
        simp -implicitDefEqProofs only [go_sem]
        have hl := gN_len (m := m) k lo (lo + spl (hi - lo)) (by omega) (by omega)
        refine WantM.intro (fall_rr m k lo (lo + spl (hi - lo)) a b (by omega) (by omega) (by omega) (by omega) (by omega)) ?_
        simp -implicitDefEqProofs only [go_sem]
        refine WantM.intro (fall_rr m k (lo + spl (hi - lo)) hi _ _ (by omega) (by omega) (by omega) (by rw [List.length_append]; omega) (by rw [List.length_append]; omega)) ?_
        simp -implicitDefEqProofs only [go_sem, List.append_assoc]
theorem fall_nn (m : Nat) : ∀ (k lo hi : Nat), lo < hi → hi ≤ 256 → hi - lo ≤ k → CallM Try.prog 83 [] [.agg [vI lo, vI hi], vI m, .nilS, .nilS]
    (.tup [.blk 0 0 [] 2 0 (gN m k lo hi).1.length, .blk 1 0 [] 2 0 (gN m k lo hi).2.length]) (nNN (gN m k lo hi).1 (gN m k lo hi).2)
  | 0, lo, hi, h, h2, hk => by omega
  | k + 1, lo, hi, h, h2, hk => by
    have hA : 1 ≤ maxLen := by unfold maxLen; omega
    refine use_of dcG1 false Try.f83 ?_
    conv => enter [1]; reduce
    refine jvM Try.f83 52 [.tmp 8, .tmp 9] (by kernel_rfl) (by decide +kernel) rfl ?_
    by_cases c1 : hi ≤ m
    · have c1' : (hi : Int) ≤ (m : Int) := by omega
      rw [gN_old c1]
      simp -implicitDefEqProofs only [go_sem, c1', hA]
      simp [nC]
    · have c1' : ¬ (hi : Int) ≤ (m : Int) := by omega
      by_cases c2 : m ≤ lo
      · have c2' : (lo : Int) ≥ (m : Int) := by omega
        rw [gN_new c1 c2]
        simp -implicitDefEqProofs only [go_sem, c1', c2', hA]
        simp [nC]
      · have c2' : ¬ (lo : Int) ≥ (m : Int) := by omega
        have hs := spl_bd (n := hi - lo) (by omega)
        rw [gN_mid c1 c2]
        simp -implicitDefEqProofs only [go_sem, c1', c2']
        refine Want.intro (c87_c lo hi (by omega) h2) ?_
        simp -implicitDefEqProofs only [go_sem]
        have hl := gN_len (m := m) k lo (lo + spl (hi - lo)) (by omega) (by omega)
        refine WantM.intro (fall_nn m k lo (lo + spl (hi - lo)) (by omega) (by omega) (by omega)) ?_
        simp -implicitDefEqProofs only [go_sem]
        refine WantM.intro (fall_rr m k (lo + spl (hi - lo)) hi _ _ (by omega) (by omega) (by omega) (by omega) (by omega)) ?_
        simp -implicitDefEqProofs only [go_sem]
theorem c68_c (m n : Nat) (h : 1 ≤ n) (h2 : n ≤ 256) : CallM Try.prog 68 [] [vI m, vI n] (.tup [.blk 0 0 [] 2 0 (gN m n 0 n).1.length, .blk 1 0 [] 2 0 (gN m n 0 n).2.length]) (nNN (gN m n 0 n).1 (gN m n 0 n).2) := by
  refine use_of dcG1 false Try.f68 ?_
  conv => enter [1]; reduce
  refine jvM Try.f68 12 [.tmp 4, .tmp 5] (by kernel_rfl) (by decide +kernel) rfl ?_
  simp -implicitDefEqProofs only [go_sem]
  refine WantM.intro (fall_nn m n 0 n (by omega) h2 (by omega)) ?_
  simp -implicitDefEqProofs only [go_sem]
/-- How many digests show a growth. -/
def mGLen (m n : Int) : Int := if mGrow m n then (if m = 0 ∨ m = n then 0 else (((gN m.toNat n.toNat 0 n.toNat).1.length + (gN m.toNat n.toNat 0 n.toNat).2.length : Nat) : Int)) else -1
theorem mGrow_nat {m n : Int} (h : mGrow m n = true) : (0 ≤ n ∧ n ≤ 256) ∧ (0 ≤ m ∧ m ≤ n) := by
  simp only [mGrow, Bool.and_eq_true, mIn_iff] at h
  exact h
end Go.Proofs.Ytjlhdfciklnndaa.E
