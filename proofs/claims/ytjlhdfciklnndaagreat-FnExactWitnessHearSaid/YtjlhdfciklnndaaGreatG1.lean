/-
  Contracts: growths, in the program: what falls into old nodes and new ones.
-/
import Derived.Test.YtjlhdfciklnndaaGreatG0
import Derived.Test.YtjlhdfciklnndaaGreatD5
import Derived.Test.YtjlhdfciklnndaaGreatF1
namespace Go.Proofs.YtjlhdfciklnndaaGreat.E
open Go Go.RowKit
set_option maxHeartbeats 4000000
set_option maxRecDepth 10000
set_option linter.unusedSimpArgs false
set_option linter.unusedVariables false
set_option linter.unusedSectionVars false
def dcG1 : Dec := ⟨[(97, .cm [false, false]), (199, .cm [false, false, true, true])], [9, 10, 11], [27, 30, 44, 45, 46, 58, 68, 78, 79, 86, 101, 112, 113, 132, 174, 196, 247, 249, 351, 356], false⟩

def nC (x : Nd) : List AV := [vI x.1, vI x.2]
def nRow (l : List Nd) : Row := ⟨2, l.map nC, 2, false⟩
attribute [go_sem] nRow
theorem nd_wide (l : List Nd) : wideB 2 (l.map nC) = true := by
  induction l with
  | nil => rfl
  | cons a l ih => simp only [List.map_cons, wideB, ih, nC]; rfl
theorem nd_flat (l : List Nd) : flL (l.map nC) = 2 := by
  induction l with
  | nil => rfl
  | cons a l ih => simp only [List.map_cons, flL, ih, nC]; rfl
attribute [go_sem] nd_wide nd_flat
def mGrow (m n : Int) : Bool := mIn n 0 256 && mIn m 0 n
theorem c96_c (m n : Int) : CallR Tryz.prog 96 [vI m, vI n] (vB (mGrow m n)) [] := by
  refine use_of dcG1 false Tryz.f96 ?_
  conv => enter [1]; reduce
  refine jvR Tryz.f96 12 [.tmp 4] (by kernel_rfl) (by decide +kernel) rfl ?_
  unfold mGrow
  simp -implicitDefEqProofs only [go_sem]
  refine Want.intro (c108_c _ _ _) ?_
  cases h : mIn n 0 256 with
  | false => simp -implicitDefEqProofs only [go_sem, guardP_tf, guardP_ff, guardP_ft, guardP_tt, condJ_true, condJ_false, Bool.false_and]
  | true =>
    simp -implicitDefEqProofs only [go_sem, guardP_tf, guardP_ff, guardP_ft, guardP_tt, condJ_true, condJ_false, Bool.true_and]
    refine Want.intro (c108_c _ _ _) ?_
    simp -implicitDefEqProofs only [go_sem]
theorem c268_c (lo hi : Nat) (h : lo + 2 ≤ hi) (h2 : hi ≤ 256) : CallR Tryz.prog 268 [.agg [vI lo, vI hi]] (.tup [.agg [vI lo, vI ((lo + spl (hi - lo) : Nat) : Int)], .agg [vI ((lo + spl (hi - lo) : Nat) : Int), vI hi]]) [] := by
  refine use_of dcG1 false Tryz.f268 ?_
  conv => enter [1]; reduce
  refine jvR Tryz.f268 22 [.cell 2 279, .cell 3 279] (by kernel_rfl) (by decide +kernel) rfl ?_
  have hs := spl_bd (n := hi - lo) (by omega)
  have w1 : IntKind.i64.wrap ((hi : Int) - (lo : Int)) = ((hi - lo : Nat) : Int) := by rw [wrS (by omega)]; omega
  have w2 : IntKind.i64.wrap ((lo : Int) + ((spl (hi - lo) : Nat) : Int)) = ((lo + spl (hi - lo) : Nat) : Int) := by rw [wrS (by omega)]; omega
  simp -implicitDefEqProofs only [go_sem, w1]
  refine Want.intro (c264_c (hi - lo) (by omega) (by omega)) ?_
  simp -implicitDefEqProofs only [go_sem, w2]
def nRR (a b : List Nd) : Sig := [(1000000, 0, one (nRow a)), (1000001, 0, one (nRow b))]
def nNN (a b : List Nd) : Sig := [(0, 0, one (nRow a)), (1, 0, one (nRow b))]
attribute [go_sem] nRR nNN
theorem nd_app (l : List Nd) (h : l.length ≤ 100000) : ∀ x, (l.map nC ++ [x]).length ≤ maxLen ∧ (l.map nC ++ [x]).length * 16 ≤ 140737488355328 := fun x => app_ok (E := nC) (l := l) (xs := [x]) (b := 16) (n := 1000000) (by simp; omega) (by omega) (by omega)
theorem fall_rr (m : Nat) : ∀ (k lo hi : Nat) (a b : List Nd), lo < hi → hi ≤ 256 → hi - lo ≤ k → a.length + (hi - lo) ≤ 10000 → b.length + (hi - lo) ≤ 10000 → CallM Tryz.prog 199 (nRR a b) [.agg [vI lo, vI hi], vI m, .blk 1000000 0 [] 2 0 a.length, .blk 1000001 0 [] 2 0 b.length]
    (.tup [.blk 0 0 [] 2 0 (a ++ (gN m k lo hi).1).length, .blk 1 0 [] 2 0 (b ++ (gN m k lo hi).2).length]) (nNN (a ++ (gN m k lo hi).1) (b ++ (gN m k lo hi).2))
  | 0, lo, hi, a, b, h, h2, hk, ha, hb => by omega
  | k + 1, lo, hi, a, b, h, h2, hk, ha, hb => by
    have hA := nd_app a (by omega)
    have hB := nd_app b (by omega)
    refine use_of dcG1 false Tryz.f199 ?_
    conv => enter [1]; reduce
    refine jvM Tryz.f199 52 [.tmp 8, .tmp 9] (by kernel_rfl) (by decide +kernel) rfl ?_
    by_cases c1 : hi ≤ m
    · have c1' : (hi : Int) ≤ (m : Int) := by omega
      rw [gN_old c1, List.append_nil]
      simp -implicitDefEqProofs only [go_sem, c1', hA]
      simp [nC]
    · have c1' : ¬ (hi : Int) ≤ (m : Int) := by omega
      by_cases c2 : m ≤ lo
      · have c2' : (lo : Int) ≥ (m : Int) := by omega
        rw [gN_new c1 c2, List.append_nil]
        simp -implicitDefEqProofs only [go_sem, c1', c2', hB]
        simp [nC]
      · have c2' : ¬ (lo : Int) ≥ (m : Int) := by omega
        have hs := spl_bd (n := hi - lo) (by omega)
        rw [gN_mid c1 c2]
        simp -implicitDefEqProofs only [go_sem, c1', c2']
        refine Want.intro (c268_c lo hi (by omega) h2) ?_
        simp -implicitDefEqProofs only [go_sem]
        have hl := gN_len (m := m) k lo (lo + spl (hi - lo)) (by omega) (by omega)
        refine WantM.intro (fall_rr m k lo (lo + spl (hi - lo)) a b (by omega) (by omega) (by omega) (by omega) (by omega)) ?_
        simp -implicitDefEqProofs only [go_sem]
        refine WantM.intro (fall_rr m k (lo + spl (hi - lo)) hi _ _ (by omega) (by omega) (by omega) (by rw [List.length_append]; omega) (by rw [List.length_append]; omega)) ?_
        simp -implicitDefEqProofs only [go_sem, List.append_assoc]
theorem fall_nn (m : Nat) : ∀ (k lo hi : Nat), lo < hi → hi ≤ 256 → hi - lo ≤ k → CallM Tryz.prog 199 [] [.agg [vI lo, vI hi], vI m, .nilS, .nilS]
    (.tup [.blk 0 0 [] 2 0 (gN m k lo hi).1.length, .blk 1 0 [] 2 0 (gN m k lo hi).2.length]) (nNN (gN m k lo hi).1 (gN m k lo hi).2)
  | 0, lo, hi, h, h2, hk => by omega
  | k + 1, lo, hi, h, h2, hk => by
    have hA : 1 ≤ maxLen := by unfold maxLen; omega
    refine use_of dcG1 false Tryz.f199 ?_
    conv => enter [1]; reduce
    refine jvM Tryz.f199 52 [.tmp 8, .tmp 9] (by kernel_rfl) (by decide +kernel) rfl ?_
    by_cases c1 : hi ≤ m
    · have c1' : (hi : Int) ≤ (m : Int) := by omega
      rw [gN_old c1]
      simp -implicitDefEqProofs only [go_sem, c1', hA]
      simp [nC]
    · have c1' : ¬ (hi : Int) ≤ (m : Int) := by omega
      by_cases c2 : m ≤ lo
      · have c2' : (lo : Int) ≥ (m : Int) := by omega
        rw [gN_new c1 c2]
        simp -implicitDefEqProofs only [go_sem, c1', c2', hA]
        simp [nC]
      · have c2' : ¬ (lo : Int) ≥ (m : Int) := by omega
        have hs := spl_bd (n := hi - lo) (by omega)
        rw [gN_mid c1 c2]
        simp -implicitDefEqProofs only [go_sem, c1', c2']
        refine Want.intro (c268_c lo hi (by omega) h2) ?_
        simp -implicitDefEqProofs only [go_sem]
        have hl := gN_len (m := m) k lo (lo + spl (hi - lo)) (by omega) (by omega)
        refine WantM.intro (fall_nn m k lo (lo + spl (hi - lo)) (by omega) (by omega) (by omega)) ?_
        simp -implicitDefEqProofs only [go_sem]
        refine WantM.intro (fall_rr m k (lo + spl (hi - lo)) hi _ _ (by omega) (by omega) (by omega) (by omega) (by omega)) ?_
        simp -implicitDefEqProofs only [go_sem]
theorem c97_c (m n : Nat) (h : 1 ≤ n) (h2 : n ≤ 256) : CallM Tryz.prog 97 [] [vI m, vI n] (.tup [.blk 0 0 [] 2 0 (gN m n 0 n).1.length, .blk 1 0 [] 2 0 (gN m n 0 n).2.length]) (nNN (gN m n 0 n).1 (gN m n 0 n).2) := by
  refine use_of dcG1 false Tryz.f97 ?_
  conv => enter [1]; reduce
  refine jvM Tryz.f97 12 [.tmp 4, .tmp 5] (by kernel_rfl) (by decide +kernel) rfl ?_
  simp -implicitDefEqProofs only [go_sem]
  refine WantM.intro (fall_nn m n 0 n (by omega) h2 (by omega)) ?_
  simp -implicitDefEqProofs only [go_sem]
/-- How many digests show a growth. -/
def mGLen (m n : Int) : Int := if mGrow m n then (if m = 0 ∨ m = n then 0 else (((gN m.toNat n.toNat 0 n.toNat).1.length + (gN m.toNat n.toNat 0 n.toNat).2.length : Nat) : Int)) else -1
theorem mGrow_nat {m n : Int} (h : mGrow m n = true) : (0 ≤ n ∧ n ≤ 256) ∧ (0 ≤ m ∧ m ≤ n) := by
  simp only [mGrow, Bool.and_eq_true, mIn_iff] at h
  exact h
theorem c22_c (m n : Int) : CallR Tryz.prog 22 [vI m, vI n] (vI (mGLen m n)) [] := by
  refine use_of dcG1 false Tryz.f22 ?_
  conv => enter [1]; reduce
  refine jvR Tryz.f22 29 [.tmp 4] (by kernel_rfl) (by decide +kernel) rfl ?_
  unfold mGLen
  simp -implicitDefEqProofs only [go_sem]
  refine Want.intro (c96_c _ _) ?_
  cases h : mGrow m n with
  | false => simp -implicitDefEqProofs only [go_sem, Bool.not_false, condJ_true, condJ_false, Bool.false_eq_true]
  | true =>
    obtain ⟨hn, hm⟩ := mGrow_nat h
    by_cases h0 : m = 0
    · subst h0
      simp -implicitDefEqProofs only [go_sem, Bool.not_true, condJ_true, condJ_false, guardP_tf, guardP_ff, guardP_ft, guardP_tt, true_or]
    · have h0' : (m == 0) = false := by simpa using h0
      by_cases h1 : m = n
      · subst h1
        simp -implicitDefEqProofs only [go_sem, h0', Bool.not_true, condJ_true, condJ_false, guardP_tf, guardP_ff, guardP_ft, guardP_tt, or_true]
      · have h1' : (m == n) = false := by simpa using h1
        obtain ⟨M, rfl⟩ : ∃ M : Nat, m = M := ⟨m.toNat, by omega⟩
        obtain ⟨N, rfl⟩ : ∃ N : Nat, n = N := ⟨n.toNat, by omega⟩
        have hno : ¬ ((M : Int) = 0 ∨ (M : Int) = (N : Int)) := fun h => h.elim h0 h1
        have hl := gN_len (m := M) N 0 N (by omega) (by omega)
        have w1 : ∀ x y : Nat, x ≤ 1000 → y ≤ 1000 → IntKind.i64.wrap ((x : Int) + (y : Int)) = ((x + y : Nat) : Int) := fun x y _ _ => by rw [wrS (by omega)]; omega
        have w1 := w1 (gN M N 0 N).1.length (gN M N 0 N).2.length (by omega) (by omega)
        simp -implicitDefEqProofs only [go_sem, h0', h1', hno, Bool.not_true, condJ_true, condJ_false, guardP_tf, guardP_ff, guardP_ft, guardP_tt]
        refine WantM.intro (c97_c M N (by omega) (by omega)) ?_
        simp -implicitDefEqProofs only [go_sem, w1]
end Go.Proofs.YtjlhdfciklnndaaGreat.E
