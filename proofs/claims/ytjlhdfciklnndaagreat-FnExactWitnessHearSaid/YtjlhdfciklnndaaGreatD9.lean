/-
  Contracts: numbers in bytes, in the program.
-/
import Derived.Test.YtjlhdfciklnndaaGreatD8
namespace Go.Proofs.YtjlhdfciklnndaaGreat.E
open Go Go.RowKit
set_option maxHeartbeats 4000000
set_option maxRecDepth 10000
set_option linter.unusedSimpArgs false
set_option linter.unusedVariables false
set_option linter.unusedSectionVars false
def dcD9 : Dec := ⟨[], [9, 10, 11], [27, 30, 44, 45, 46, 58, 68, 78, 79, 86, 101, 112, 113, 132, 174, 196, 247, 249, 351, 356], false⟩
def low (v : Nat) : Nat → List UInt8
  | 0 => []
  | j + 1 => UInt8.ofNat (v / 256 ^ j % 256) :: low v j
theorem low_len (v j : Nat) : (low v j).length = j := by
  induction j with
  | zero => rfl
  | succ j ih => simp [low, ih]
theorem low_snoc (v n : Nat) : low v (n + 1) = low (v / 256) n ++ [UInt8.ofNat (v % 256)] := by
  induction n with
  | zero => simp [low]
  | succ n ih =>
    rw [low, ih, low]
    simp [Nat.div_div_eq_div_mul, Nat.pow_succ, Nat.mul_comm]
theorem numB_low (v n : Nat) : (numB v n).data.toList = low v n := by
  induction n generalizing v with
  | zero => rfl
  | succ n ih =>
    rw [low_snoc, numB, ByteArray.data_append, Array.toList_append, ih]
theorem tmN (q : Nat) : ((q : Int)).tmod 256 = ((q % 256 : Nat) : Int) := by rw [Int.tmod_eq_emod_of_nonneg (by omega)]; omega
theorem tdN (q : Nat) : ((q : Int)).tdiv 256 = ((q / 256 : Nat) : Int) := by rw [Int.tdiv_eq_ediv_of_nonneg (by omega)]; omega
theorem wrN {q : Nat} (h : q ≤ 1000000000) : IntKind.i64.wrap (q : Int) = (q : Int) := wrS (by omega)
def numR (v n j : Nat) : List (List AV) := List.replicate (n - j) [.sc (.int .u8 0)] ++ (low v j).map byteC
theorem numR_len {v n j : Nat} (h : j ≤ n) : (numR v n j).length = n := by simp [numR, low_len]; omega
theorem numR_get {v n j : Nat} (h : j < n) : (numR v n j)[n - 1 - j]? = some [.sc (.int .u8 0)] := by
  unfold numR
  rw [List.getElem?_append_left (by simp; omega), List.getElem?_replicate, if_pos (by omega)]
theorem numR_set {v n j : Nat} (h : j < n) : (numR v n j).set (n - 1 - j) [.sc (.int .u8 ((v / 256 ^ j % 256 : Nat) : Int))] = numR v n (j + 1) := by
  unfold numR
  obtain ⟨m, hm⟩ : ∃ m, n - j = m + 1 := ⟨n - j - 1, by omega⟩
  have h1 : n - 1 - j = m := by omega
  have h2 : n - (j + 1) = m := by omega
  rw [hm, h1, h2, List.replicate_succ', List.append_assoc, List.set_append_right _ _ (by simp)]
  simp [low, byteC]
theorem c270_c (v n : Nat) (hn : n ≤ 10) (hv : v ≤ 1000000000) : CallR Tryz.prog 270 [vI v, vI n] (.blk 0 0 [] 1 0 n) [([], ⟨1, (low v n).map byteC, 2, false⟩)] := by
  refine use_of dcD9 false Tryz.f270 ?_
  conv => enter [1]; reduce
  refine jvR Tryz.f270 24 [.tmp 4] (by kernel_rfl) (by decide +kernel) rfl ?_
  have hmk : ((1 : Nat) : Int) * (n : Int) ≤ 281474976710656 ∧ (n : Int) ≤ 9223372036854775807 := by omega
  have w1 : IntKind.i64.wrap ((n : Int) - 1) = (n : Int) - 1 := wrS (by omega)
  simp -implicitDefEqProofs only [go_sem, hmk, w1, List.length_replicate]
  refine jv_lp (fun m z => ∃ j, j ≤ n ∧ m = n - j ∧ z = ⟨24, [(0, vI ((v / 256 ^ j : Nat) : Int)), (5, .blk 5 0 [] 1 0 n), (6, vI ((n : Int) - 1 - (j : Int)))], [(5, 0, one ⟨1, numR v n j, 2, false⟩)], 1⟩) n ?_ ?_
  · simp -implicitDefEqProofs only [go_sem]
    exact ⟨0, Nat.zero_le _, rfl, by simp [numR, low]⟩
  · rintro m z ⟨j, hj, rfl, rfl⟩
    rcases Nat.lt_or_ge j n with hlt | hge
    · have hidx : (n : Int) - 1 - (j : Int) = ((n - 1 - j : Nat) : Int) := by omega
      have hge0 : ((n - 1 - j : Nat) : Int) ≥ 0 := by omega
      have hlt' : ((n - 1 - j : Nat) : Int) < (n : Int) := by omega
      have hq : v / 256 ^ j ≤ v := Nat.div_le_self _ _
      have htm : (((v / 256 ^ j : Nat) : Int)).tmod 256 = ((v / 256 ^ j % 256 : Nat) : Int) := tmN _
      have htd : (((v / 256 ^ j : Nat) : Int)).tdiv 256 = ((v / 256 ^ (j + 1) : Nat) : Int) := by
        rw [tdN, Nat.pow_succ, ← Nat.div_div_eq_div_mul]
      have hq2 : v / 256 ^ (j + 1) ≤ v := Nat.div_le_self _ _
      have w2 : IntKind.i64.wrap ((v / 256 ^ (j + 1) : Nat) : Int) = ((v / 256 ^ (j + 1) : Nat) : Int) := wrN (Nat.le_trans hq2 hv)
      have w4 : IntKind.i64.wrap (((n - 1 - j : Nat) : Int) - 1) = (n : Int) - 1 - ((j + 1 : Nat) : Int) := by rw [wrS (by omega)]; omega
      have w3 : (IntKind.u8.wrap ((v / 256 ^ j % 256 : Nat) : Int)) = ((v / 256 ^ j % 256 : Nat) : Int) := by
        have h8 : IntKind.u8.bits = 8 := rfl
        have hs : IntKind.u8.signed = false := rfl
        simp only [IntKind.wrap, h8, hs, Bool.false_and, Bool.false_eq_true, if_false]
        omega
      have hget := numR_get (v := v) hlt
      have hset := numR_set (v := v) hlt
      have hlen := numR_len (v := v) hj
      simp -implicitDefEqProofs only [go_sem, hidx, hge0, hlt', htm, htd, w2, w3, hget, hset, hlen]
      exact ⟨_, by omega, j + 1, hlt, rfl, by rw [w4]⟩
    · have hj : j = n := by omega
      subst hj
      have hge0 : ¬ ((j : Int) - 1 - (j : Int) ≥ 0) := by omega
      have hlen := numR_len (v := v) (Nat.le_refl j)
      simp -implicitDefEqProofs only [go_sem, hge0, hlen]
      simp [numR]
end Go.Proofs.YtjlhdfciklnndaaGreat.E
