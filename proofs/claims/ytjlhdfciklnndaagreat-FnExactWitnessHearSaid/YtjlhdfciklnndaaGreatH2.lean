/-
  Contracts: texts are hashed.
-/
import Derived.Test.YtjlhdfciklnndaaGreatH1
namespace Go.Proofs.YtjlhdfciklnndaaGreat.E
open Go Go.RowKit
set_option maxHeartbeats 4000000
set_option maxRecDepth 10000
set_option linter.unusedSimpArgs false
set_option linter.unusedVariables false
set_option linter.unusedSectionVars false
def dcH2 : Dec := ⟨[(240, .cm [false, true, false])], [9, 10, 11], [27, 30, 44, 45, 46, 58, 68, 78, 79, 86, 101, 112, 113, 132, 174, 196, 247, 249, 351, 356], false⟩

def bareB (b : UInt8) : Bool := ((b.toNat : Int) != 255)
def bare (l : List UInt8) : List UInt8 := l.filter bareB
def padZ (n : Nat) : Nat := (32 - (n + 9) % 32) % 32
def padded (l : List UInt8) : List UInt8 := l ++ [128] ++ List.replicate (padZ l.length) 0 ++ low l.length 8
def wAt (l : List UInt8) (a : Nat) : W64 := BitVec.ofNat 64 (wordL (l.drop a) 8)
def blkAt (l : List UInt8) (a : Nat) : BD := ⟨wAt l a, wAt l (a + 8), wAt l (a + 16), wAt l (a + 24)⟩
def runH (s : BD) (l : List UInt8) : Nat → BD
  | 0 => s
  | k + 1 => mBlk (runH s l k) (blkAt l (32 * k))
def H0 : BD := ⟨13971524466476933880#64, 3286059910148148165#64, 8210247237615983910#64, 11412903256176698835#64⟩
def hashL (l : List UInt8) : BD := runH H0 (padded (bare l)) ((padded (bare l)).length / 32)
def mHashOf (l : List UInt8) : BD := if 20000 < l.length then ⟨0#64, 0#64, 0#64, 0#64⟩ else hashL l
theorem wordL_lt (l : List UInt8) : ∀ k, wordL l k < 256 ^ k
  | 0 => by simp [wordL]
  | k + 1 => by
    have := bL_lt l k
    have := wordL_lt l k
    simp only [wordL, Nat.pow_succ]
    omega
theorem wAt_nat (l : List UInt8) (a : Nat) : (wAt l a).toNat = wordL (l.drop a) 8 := by
  unfold wAt
  rw [BitVec.toNat_ofNat, Nat.mod_eq_of_lt (wordL_lt _ 8)]
theorem bL_take (l : List UInt8) (n : Nat) {i : Nat} (h : i < n) : bL (l.take n) i = bL l i := by
  unfold bL
  rw [List.getD_eq_getElem?_getD, List.getD_eq_getElem?_getD, List.getElem?_take_of_lt h]
theorem wordL_take (l : List UInt8) (n : Nat) : ∀ {k : Nat}, k ≤ n → wordL (l.take n) k = wordL l k
  | 0, _ => rfl
  | k + 1, h => by simp only [wordL]; rw [wordL_take l n (by omega), bL_take l n (by omega)]
theorem digL_blk (l : List UInt8) (a : Nat) : (digL ((l.drop a).take 32)).cs = (blkAt l a).cs := by
  have h : ∀ j, j + 8 ≤ 32 → wordL (((l.drop a).take 32).drop j) 8 = (wAt l (a + j)).toNat := by
    intro j hj
    rw [wAt_nat, List.drop_take, List.drop_drop, wordL_take _ _ (by omega)]
  have h0 := h 0 (by omega)
  simp only [List.drop_zero, Nat.add_zero] at h0
  simp only [digL, MDig.cs, BD.cs, blkAt, h0, h 8 (by omega), h 16 (by omega), h 24 (by omega)]
theorem digB_c (l : List UInt8) (a : Nat) (h : a + 32 ≤ l.length) : CallR Tryz.prog 242 [.ro 1 (((l.drop a).take 32).map byteC)] (.agg (blkAt l a).cs) [] := by
  have := c242_c ((l.drop a).take 32) (by simp; omega)
  rw [digL_blk] at this
  exact this
theorem bare_len (l : List UInt8) : (bare l).length ≤ l.length := List.length_filter_le _ _
theorem bare_take {l : List UInt8} {i : Nat} (h : i < l.length) : bare (l.take (i + 1)) = bare (l.take i) ++ (if bareB l[i] then [l[i]] else []) := by
  unfold bare
  rw [List.take_succ_eq_append_getElem h, List.filter_append]
  cases hb : bareB l[i] <;> simp [List.filter, hb]
theorem padZ_lt (n : Nat) : padZ n < 32 := Nat.mod_lt _ (by decide)
theorem padded_len (l : List UInt8) : (padded l).length = l.length + 9 + padZ l.length := by simp [padded, low_len]; omega
theorem padded_32 (l : List UInt8) : (padded l).length = 32 * ((padded l).length / 32) := by rw [padded_len]; unfold padZ; omega
theorem str_get {t : ByteArray} {i : Nat} (h : i < t.data.toList.length) : (t.data[i]?).map (fun b => AV.sc (.int .u8 (b.toNat : Int))) = some (.sc (.int .u8 ((t.data.toList[i].toNat : Nat) : Int))) := by
  rw [← Array.getElem?_toList, List.getElem?_eq_getElem h]; rfl
theorem str_len (t : ByteArray) : t.data.toList.length = t.size := by rw [Array.length_toList]; rfl
theorem byteC_one (l : List UInt8) (b : UInt8) : l.map byteC ++ [[.sc (.int .u8 ((b.toNat : Nat) : Int))]] = (l ++ [b]).map byteC := by simp [byteC]
theorem c227_c (t : ByteArray) (ht : t.size ≤ 1000000) : CallR Tryz.prog 227 [vS t] (vS (bA (bare t.data.toList))) [] := by
  refine use_of dcH2 false Tryz.f227 ?_
  conv => enter [1]; reduce
  refine jvR Tryz.f227 24 [.tmp 2] (by kernel_rfl) (by decide +kernel) rfl ?_
  have hL := str_len t
  simp -implicitDefEqProofs only [go_sem]
  refine jv_lp (fun m z => ∃ i : Nat, i ≤ t.size ∧ m = t.size - i ∧ z = ⟨24, [(0, vS t), (3, .blk 3 0 [] 1 0 (bare (t.data.toList.take i)).length), (4, vI i)], [(3, 0, one ⟨1, (bare (t.data.toList.take i)).map byteC, 2, false⟩)], 1⟩) t.size ?_ ?_
  · simp -implicitDefEqProofs only [go_sem]
    exact ⟨0, Nat.zero_le _, rfl, rfl⟩
  · rintro m z ⟨i, hi, rfl, rfl⟩
    rcases Nat.lt_or_ge i t.size with hlt | hge
    · have hlt' : (i : Int) < (t.size : Int) := by omega
      have hg := str_get (t := t) (i := i) (by omega)
      have hs := bare_take (l := t.data.toList) (i := i) (by omega)
      have hb := bare_len (t.data.toList.take i)
      rw [List.length_take] at hb
      have w4 : IntKind.i64.wrap ((i : Int) + 1) = ((i + 1 : Nat) : Int) := by rw [wrS (by omega)]; omega
      have ha : ∀ x, _ := fun x => app_ok (E := byteC) (l := bare (t.data.toList.take i)) (xs := [x]) (b := 1) (n := 10000000) (by simp; omega) (by omega) (by omega)
      generalize t.data.toList[i] = b at *
      simp -implicitDefEqProofs only [go_sem, hlt', hg]
      refine condJ_intro (fun h => ?_) (fun h => ?_)
      · rw [show bareB b = true from h, if_pos rfl] at hs
        simp -implicitDefEqProofs only [go_sem, w4, hg, hlt', ha]
        exact ⟨_, by omega, i + 1, hlt, rfl, by rw [hs, byteC_one]; simp⟩
      · rw [show bareB b = false from h, if_neg (by simp), List.append_nil] at hs
        simp -implicitDefEqProofs only [go_sem, w4]
        exact ⟨_, by omega, i + 1, hlt, rfl, by rw [hs]⟩
    · have hi : i = t.size := by omega
      subst hi
      have hlt' : ¬ ((t.size : Int) < (t.size : Int)) := by omega
      simp -implicitDefEqProofs only [go_sem, hlt', bytes_back]
      rw [← hL, List.take_length]
      rfl
theorem c228_c (n : Nat) (hn : n ≤ 1000) : CallR Tryz.prog 228 [vI n] (vS (bA (List.replicate n 0))) [] := by
  refine use_of dcH2 false Tryz.f228 ?_
  conv => enter [1]; reduce
  refine jvR Tryz.f228 16 [.tmp 2] (by kernel_rfl) (by decide +kernel) rfl ?_
  simp -implicitDefEqProofs only [go_sem]
  refine jv_lp (fun m z => ∃ i : Nat, i ≤ n ∧ m = n - i ∧ z = ⟨16, [(0, vI n), (3, .blk 3 0 [] 1 0 (List.replicate i (0 : UInt8)).length), (4, vI i)], [(3, 0, one ⟨1, (List.replicate i (0 : UInt8)).map byteC, 2, false⟩)], 1⟩) n ?_ ?_
  · simp -implicitDefEqProofs only [go_sem]
    exact ⟨0, Nat.zero_le _, rfl, rfl⟩
  · rintro m z ⟨i, hi, rfl, rfl⟩
    have hs : List.replicate (i + 1) (0 : UInt8) = List.replicate i 0 ++ [0] := List.replicate_succ'
    obtain ⟨X, hX0⟩ : ∃ X, List.replicate i (0 : UInt8) = X := ⟨_, rfl⟩
    have hX : X.length = i := by rw [← hX0]; exact List.length_replicate
    rw [hX0] at hs ⊢
    rcases Nat.lt_or_ge i n with hlt | hge
    · have hlt' : (i : Int) < (n : Int) := by omega
      have w4 : IntKind.i64.wrap ((i : Int) + 1) = ((i + 1 : Nat) : Int) := by rw [wrS (by omega)]; omega
      have ha : ∀ x, _ := fun x => app_ok (E := byteC) (l := X) (xs := [x]) (b := 1) (n := 10000000) (by simp; omega) (by omega) (by omega)
      simp -implicitDefEqProofs only [go_sem, hlt', w4, ha]
      exact ⟨_, by omega, i + 1, hlt, rfl, by rw [hs]; simp [byteC]⟩
    · have hi : i = n := by omega
      have hlt' : ¬ ((i : Int) < (n : Int)) := by omega
      simp -implicitDefEqProofs only [go_sem, hlt', bytes_back]
      rw [← hX0, hi]
      rfl
theorem H0_cs : H0.cs = [.sc (.int .u64 13971524466476933880), .sc (.int .u64 3286059910148148165), .sc (.int .u64 8210247237615983910), .sc (.int .u64 11412903256176698835)] := rfl
theorem c148_c (t : ByteArray) (ht : t.size ≤ 1000000000) : CallR Tryz.prog 148 [vS t] (.agg (mHashOf t.data.toList).cs) [] := by
  refine use_of dcH2 false Tryz.f148 ?_
  conv => enter [1]; reduce
  refine jvR Tryz.f148 61 [.cell 2 37] (by kernel_rfl) (by decide +kernel) rfl ?_
  have hL := str_len t
  simp -implicitDefEqProofs only [go_sem]
  refine condJ_intro (fun h => ?_) (fun h => ?_)
  · have h' : 20000 < t.data.toList.length := by have := of_decide_eq_true h; omega
    simp -implicitDefEqProofs only [go_sem, h, mHashOf, h']
    rfl
  · have h' : ¬ 20000 < t.data.toList.length := by have := of_decide_eq_false h; omega
    simp -implicitDefEqProofs only [go_sem, h]
    refine jv_lpN [(3, 1)] (fun m z => ∃ i : Nat, i ≤ t.size ∧ m = t.size - i ∧ z = ⟨61, [(0, vS t), (2, .ptr 2 0 [] 4 0 0), (3, .blk 3 0 [] 1 0 (bare (t.data.toList.take i)).length), (4, vI i)], [(2, 0, one ⟨4, [zDg], 0, false⟩), (3, 0, one ⟨1, (bare (t.data.toList.take i)).map byteC, 2, false⟩)], 1⟩) t.size ?_ ?_
    · simp -implicitDefEqProofs only [go_sem]
      exact ⟨0, Nat.zero_le _, rfl, rfl⟩
    · rintro m z ⟨i, hi, rfl, rfl⟩
      have hb := bare_len (t.data.toList.take i)
      rw [List.length_take] at hb
      have ha : ∀ x, _ := fun x => app_ok (E := byteC) (l := bare (t.data.toList.take i)) (xs := [x]) (b := 1) (n := 10000000) (by simp; omega) (by omega) (by omega)
      rcases Nat.lt_or_ge i t.size with hlt | hge
      · have hlt' : (i : Int) < (t.size : Int) := by omega
        have hg := str_get (t := t) (i := i) (by omega)
        have hs := bare_take (l := t.data.toList) (i := i) (by omega)
        have w4 : IntKind.i64.wrap ((i : Int) + 1) = ((i + 1 : Nat) : Int) := by rw [wrS (by omega)]; omega
        generalize t.data.toList[i] = b at *
        simp -implicitDefEqProofs only [go_sem, hlt', hg]
        refine condJ_intro (fun h => ?_) (fun h => ?_)
        · rw [show bareB b = true from h, if_pos rfl] at hs
          simp -implicitDefEqProofs only [go_sem, w4, hg, hlt', ha]
          exact ⟨_, by omega, i + 1, hlt, rfl, by rw [hs, byteC_one]; simp⟩
        · rw [show bareB b = false from h, if_neg (by simp), List.append_nil] at hs
          simp -implicitDefEqProofs only [go_sem, w4]
          exact ⟨_, by omega, i + 1, hlt, rfl, by rw [hs]⟩
      · have hi : i = t.size := by omega
        subst hi
        have hlt' : ¬ ((t.size : Int) < (t.size : Int)) := by omega
        have hT : t.data.toList.take t.size = t.data.toList := by rw [← hL, List.take_length]
        rw [hT] at ha hb ⊢
        have hm : mHashOf t.data.toList = hashL t.data.toList := if_neg h'
        unfold hashL at hm
        rw [hm]
        clear hT hm
        generalize bare t.data.toList = B at *
        have wv : IntKind.u64.wrap (B.length : Int) = (B.length : Int) := u64_wrap _ (by omega)
        simp -implicitDefEqProofs only [go_sem, hlt', ha, wv]
        refine jv_lp (fun m z => ∃ (j : Nat) (X : List UInt8), j ≤ padZ B.length ∧ X = B ++ [128] ++ List.replicate j 0 ∧ m = padZ B.length - j ∧ z = ⟨61, [(2, .ptr 2 0 [] 4 0 0), (3, .blk 3 0 [] 1 0 X.length), (5, .sc (.int .u64 B.length))], [(2, 0, one ⟨4, [zDg], 0, false⟩), (3, 0, one ⟨1, X.map byteC, 2, false⟩)], 1⟩) (padZ B.length) ?_ ?_
        · simp -implicitDefEqProofs only [go_sem]
          exact ⟨0, B ++ [128], Nat.zero_le _, by simp, rfl, by simp [byteC]⟩
        · rintro m z ⟨j, X, hj, hX, rfl, rfl⟩
          have hXl : X.length = B.length + 1 + j := by rw [hX]; simp; omega
          have hz := padZ_lt B.length
          have ha : ∀ x, _ := fun x => app_ok (E := byteC) (l := X) (xs := [x]) (b := 1) (n := 10000000) (by simp; omega) (by omega) (by omega)
          have tm : ((X.length : Nat) : Int).tmod 32 = ((X.length % 32 : Nat) : Int) := by rw [Int.tmod_eq_emod_of_nonneg (by omega)]; omega
          rcases Nat.lt_or_ge j (padZ B.length) with hlt | hge
          · have hne : (((X.length % 32 : Nat) : Int) != 24) = true := by rw [bne_iff_ne]; unfold padZ at hlt; omega
            simp -implicitDefEqProofs only [go_sem, tm, hne, ha]
            exact ⟨_, by omega, j + 1, X ++ [0], by omega, by rw [hX, List.replicate_succ', List.append_assoc], rfl, by simp [byteC]⟩
          · have hj : j = padZ B.length := by omega
            have hne : (((X.length % 32 : Nat) : Int) != 24) = false := by rw [bne_eq_false_iff_eq]; unfold padZ at hj; omega
            simp -implicitDefEqProofs only [go_sem, tm, hne]
            refine WantM.intro (c240_c X B.length (by omega)) ?_
            have hP : X ++ low B.length 8 = padded B := by rw [hX, hj]; rfl
            have hPl := padded_32 B
            have hPm := padded_len B
            rw [hP]
            generalize padded B = P at *
            obtain ⟨n, hn⟩ : ∃ n, P.length / 32 = n := ⟨_, rfl⟩
            rw [hn] at hPl ⊢
            have hd := fun k (hk : k < n) => digB_c P (32 * k) (by omega)
            simp -implicitDefEqProofs only [go_sem]
            refine jv_lp (fun m z => ∃ k : Nat, k ≤ n ∧ m = n - k ∧ z = ⟨61, [(2, .ptr 2 0 [] 4 0 0), (3, .blk 3 0 [] 1 0 P.length), (6, .ptr 6 0 [] 4 0 0), (7, vI ((32 * k : Nat) : Int))], [(2, 0, one ⟨4, [zDg], 0, false⟩), (3, 0, one ⟨1, P.map byteC, 2, false⟩), (6, 0, one ⟨4, [(runH H0 P k).cs], 0, false⟩)], 1⟩) n ?_ ?_
            · simp -implicitDefEqProofs only [go_sem]
              exact ⟨0, Nat.zero_le _, rfl, rfl⟩
            · rintro m z ⟨k, hk, rfl, rfl⟩
              rcases Nat.lt_or_ge k n with hlt | hge
              · have hlt' : ((32 * k : Nat) : Int) < (P.length : Int) := by omega
                have w4 : IntKind.i64.wrap (((32 * k : Nat) : Int) + 32) = ((32 * (k + 1) : Nat) : Int) := by rw [wrS (by omega)]; omega
                have hsl : ((32 * k : Nat) : Int) ≤ ((32 * (k + 1) : Nat) : Int) ∧ ((32 * (k + 1) : Nat) : Int) ≤ (P.length : Int) := by omega
                have h32 : 32 * (k + 1) - 32 * k = 32 := by omega
                have hif : ∀ (x : Option (Sig × AV)), ifLe (32 * k + 32) P.length x = x := fun x => ifLe_pos (by omega)
                simp -implicitDefEqProofs only [go_sem, hlt', w4, hsl, h32, hif]
                refine Want.intro (hd k hlt) ?_
                simp -implicitDefEqProofs only [go_sem]
                refine Want.intro (c241_c _ _) ?_
                simp -implicitDefEqProofs only [go_sem, w4]
                exact ⟨_, by omega, k + 1, hlt, rfl, rfl⟩
              · have hk : k = n := by omega
                subst hk
                have hlt' : ¬ ((32 * k : Nat) : Int) < (P.length : Int) := by omega
                simp -implicitDefEqProofs only [go_sem, hlt']
theorem numB_h (v : Nat) (h : v < 18446744073709551616) : CallR Tryz.prog 225 [vU v] (vS (bA (low v 8))) [] := by
  have := c225_c v h
  rw [numB_bA] at this
  exact this
theorem word_h (l : List UInt8) (a : Nat) (h : a + 8 ≤ l.length) (hl : l.length ≤ 1000000) : CallR Tryz.prog 230 [vS (bA l), vI a] (vW (wAt l a)) [] := by
  have := c230_c (bA l) a (by rw [bA_size]; omega) (by rw [bA_size]; omega)
  rw [wordN_L, bA_list, ← wAt_nat] at this
  exact this
theorem b128 : (⟨#[128]⟩ : ByteArray) = bA [128] := rfl
theorem c133_c (t : ByteArray) (ht : t.size ≤ 1000000000) : CallR Tryz.prog 133 [vS t] (.agg (mHashOf t.data.toList).cs) [] := by
  refine use_of dcH2 false Tryz.f133 ?_
  conv => enter [1]; reduce
  refine jvR Tryz.f133 57 [.cell 2 37] (by kernel_rfl) (by decide +kernel) rfl ?_
  have hL := str_len t
  simp -implicitDefEqProofs only [go_sem]
  refine condJ_intro (fun h => ?_) (fun h => ?_)
  · have h' : 20000 < t.data.toList.length := by have := of_decide_eq_true h; omega
    simp -implicitDefEqProofs only [go_sem, h, mHashOf, h']
    rfl
  · have h' : ¬ 20000 < t.data.toList.length := by have := of_decide_eq_false h; omega
    simp -implicitDefEqProofs only [go_sem, h]
    refine Want.intro (c227_c t (by omega)) ?_
    have hb := bare_len t.data.toList
    have hm : mHashOf t.data.toList = hashL t.data.toList := if_neg h'
    unfold hashL at hm
    rw [hm]
    generalize bare t.data.toList = B at *
    have hz := padZ_lt B.length
    have w1 : IntKind.i64.wrap ((B.length : Int) + 9) = ((B.length + 9 : Nat) : Int) := by rw [wrS (by omega)]; rfl
    have w2 : ((B.length + 9 : Nat) : Int).tmod 32 = (((B.length + 9) % 32 : Nat) : Int) := by rw [Int.tmod_eq_emod_of_nonneg (by omega)]; omega
    have w3 : IntKind.i64.wrap (32 - (((B.length + 9) % 32 : Nat) : Int)) = ((32 - (B.length + 9) % 32 : Nat) : Int) := by rw [wrS (by omega)]; omega
    have w4 : ((32 - (B.length + 9) % 32 : Nat) : Int).tmod 32 = ((padZ B.length : Nat) : Int) := by rw [Int.tmod_eq_emod_of_nonneg (by omega)]; unfold padZ; omega
    have wv : IntKind.u64.wrap (B.length : Int) = (B.length : Int) := u64_wrap _ (by omega)
    have w5 : IntKind.i64.wrap (((32 - (B.length + 9) % 32 : Nat) : Int)) = ((32 - (B.length + 9) % 32 : Nat) : Int) := wrS (by omega)
    have hs1 : decide (((B.length + 1 : Nat) : Int) > 9223372036854775807) = false := by simp; omega
    have hs2 : decide (((B.length + 1 + padZ B.length : Nat) : Int) > 9223372036854775807) = false := by simp; omega
    have hs3 : decide (((B.length + 1 + padZ B.length + 8 : Nat) : Int) > 9223372036854775807) = false := by simp; omega
    simp -implicitDefEqProofs only [go_sem, bA_size, w1, w2, w3, w4, hs1, b128, bA_app, wv]
    refine Want.intro (c228_c (padZ B.length) (by omega)) ?_
    simp -implicitDefEqProofs only [go_sem, bA_size, hs2, bA_app, wv, List.length_append, List.length_replicate]
    refine Want.intro (numB_h B.length (by omega)) ?_
    simp -implicitDefEqProofs only [go_sem, bA_size, hs3, bA_app, wv, List.length_append, List.length_replicate, low8]
    have hP : B ++ [128] ++ List.replicate (padZ B.length) 0 ++ low B.length 8 = padded B := rfl
    have hPl := padded_32 B
    have hPm := padded_len B
    rw [hP]
    generalize padded B = P at *
    obtain ⟨n, hn⟩ : ∃ n, P.length / 32 = n := ⟨_, rfl⟩
    rw [hn] at hPl ⊢
    refine jv_lp (fun m z => ∃ k : Nat, k ≤ n ∧ m = n - k ∧ z = ⟨57, [(2, .ptr 2 0 [] 4 0 0), (4, vS (bA P)), (5, .ptr 5 0 [] 4 0 0), (6, vI ((32 * k : Nat) : Int))], [(2, 0, one ⟨4, [zDg], 0, false⟩), (5, 0, one ⟨4, [(runH H0 P k).cs], 0, false⟩)], 1⟩) n ?_ ?_
    · simp -implicitDefEqProofs only [go_sem]
      exact ⟨0, Nat.zero_le _, rfl, rfl⟩
    · rintro m z ⟨k, hk, rfl, rfl⟩
      rcases Nat.lt_or_ge k n with hlt | hge
      · have hlt' : ((32 * k : Nat) : Int) < (P.length : Int) := by omega
        have w6 : IntKind.i64.wrap (((32 * k : Nat) : Int) + 32) = ((32 * (k + 1) : Nat) : Int) := by rw [wrS (by omega)]; omega
        have w7 : IntKind.i64.wrap (((32 * k : Nat) : Int) + 8) = ((32 * k + 8 : Nat) : Int) := by rw [wrS (by omega)]; omega
        have w8 : IntKind.i64.wrap (((32 * k : Nat) : Int) + 16) = ((32 * k + 16 : Nat) : Int) := by rw [wrS (by omega)]; omega
        have w9 : IntKind.i64.wrap (((32 * k : Nat) : Int) + 24) = ((32 * k + 24 : Nat) : Int) := by rw [wrS (by omega)]; omega
        simp -implicitDefEqProofs only [go_sem, bA_size, hlt', w6, w7, w8, w9]
        repeat' first | (refine Want.intro (by first | exact word_h P _ (by omega) (by omega) | exact c229_c _ (blkAt P (32 * k))) ?_; try simp -implicitDefEqProofs only [go_sem, w6]) | (refine WantM.intro (by first | exact word_h P _ (by omega) (by omega) | exact c229_c _ (blkAt P (32 * k))) ?_; try simp -implicitDefEqProofs only [go_sem, w6]) | (refine guardP_intro (fun h => ?_) (fun h => ?_) <;> try simp -implicitDefEqProofs only [go_sem, w6, h]) | (refine condJ_intro (fun h => ?_) (fun h => ?_) <;> try simp -implicitDefEqProofs only [go_sem, w6, h])
        exact ⟨_, by omega, k + 1, hlt, rfl, rfl⟩
      · have hk : k = n := by omega
        subst hk
        have hlt' : ¬ ((32 * k : Nat) : Int) < (P.length : Int) := by omega
        simp -implicitDefEqProofs only [go_sem, bA_size, hlt']
theorem c300_c (t : ByteArray) (ht : t.size ≤ 1000000) : CallR Tryz.prog 300 [vS t] (vS (bA (0 :: t.data.toList))) [] := by
  refine use_of dcH2 false Tryz.f300 ?_
  conv => enter [1]; reduce
  refine jvR Tryz.f300 5 [.tmp 2] (by kernel_rfl) (by decide +kernel) rfl ?_
  have hs : decide ((((#[0] : Array UInt8).size + t.size : Nat) : Int) > 9223372036854775807) = false := by simp; omega
  have e : (⟨#[0]⟩ : ByteArray) ++ t = bA (0 :: t.data.toList) := bA_ext (by simp [bA, ByteArray.data_append])
  simp -implicitDefEqProofs only [go_sem, hs, e]
theorem c292_c (t : ByteArray) (ht : t.size ≤ 1000000) : CallR Tryz.prog 292 [vS t] (vS (bA (0 :: t.data.toList))) [] := by
  refine use_of dcH2 false Tryz.f292 ?_
  conv => enter [1]; reduce
  refine jvR Tryz.f292 7 [.tmp 2] (by kernel_rfl) (by decide +kernel) rfl ?_
  have hs : decide ((((#[0] : Array UInt8).size + t.size : Nat) : Int) > 9223372036854775807) = false := by simp; omega
  have e : (⟨#[0]⟩ : ByteArray) ++ t = bA (0 :: t.data.toList) := bA_ext (by simp [bA, ByteArray.data_append])
  simp -implicitDefEqProofs only [go_sem, hs, e]
def hLeaf (b : ByteArray) : BD := mHashOf (0 :: b.data.toList)
def hPair (x y : BD) : BD := mHashOf (1 :: (x.dig.bl ++ y.dig.bl))
theorem c263_c (t : ByteArray) (ht : t.size ≤ 1000000) : CallR Tryz.prog 263 [vS t] (.agg (hLeaf t).cs) [] := by
  refine use_of dcH2 false Tryz.f263 ?_
  conv => enter [1]; reduce
  refine jvR Tryz.f263 6 [.cell 2 37] (by kernel_rfl) (by decide +kernel) rfl ?_
  have hh := c148_c (bA (0 :: t.data.toList)) (by rw [bA_size, List.length_cons, str_len]; omega)
  rw [bA_list] at hh
  simp -implicitDefEqProofs only [go_sem]
  refine Want.intro (c300_c t ht) ?_
  simp -implicitDefEqProofs only [go_sem]
  refine Want.intro hh ?_
  simp -implicitDefEqProofs only [go_sem, hLeaf]
theorem c222_c (t : ByteArray) (ht : t.size ≤ 1000000) : CallR Tryz.prog 222 [vS t] (.agg (hLeaf t).cs) [] := by
  refine use_of dcH2 false Tryz.f222 ?_
  conv => enter [1]; reduce
  refine jvR Tryz.f222 6 [.cell 2 37] (by kernel_rfl) (by decide +kernel) rfl ?_
  have hh := c133_c (bA (0 :: t.data.toList)) (by rw [bA_size, List.length_cons, str_len]; omega)
  rw [bA_list] at hh
  simp -implicitDefEqProofs only [go_sem]
  refine Want.intro (c292_c t ht) ?_
  simp -implicitDefEqProofs only [go_sem]
  refine Want.intro hh ?_
  simp -implicitDefEqProofs only [go_sem, hLeaf]
theorem hashI (x : BD) : CallR Tryz.prog 271 [.agg x.cs] (vS (bA x.dig.bl)) [] := by
  have := c271_c x.dig
  rw [bytes_bA] at this
  exact this
theorem hashS (x : BD) : CallR Tryz.prog 131 [.agg x.cs] (vS (bA x.dig.bl)) [] := hashB x.dig x.dig_ok
theorem c301_c (x y : BD) : CallR Tryz.prog 301 [.agg x.cs, .agg y.cs] (vS (bA (1 :: (x.dig.bl ++ y.dig.bl)))) [] := by
  refine use_of dcH2 false Tryz.f301 ?_
  conv => enter [1]; reduce
  refine jvR Tryz.f301 11 [.tmp 4] (by kernel_rfl) (by decide +kernel) rfl ?_
  have b1 : (⟨#[1]⟩ : ByteArray) = bA [1] := rfl
  have s1 : decide ((((#[1] : Array UInt8).size + 32 : Nat) : Int) > 9223372036854775807) = false := rfl
  have s2 : decide (((1 + 32 : Nat) : Int) > 9223372036854775807) = false := rfl
  have s3 : decide (((1 + 32 + 32 : Nat) : Int) > 9223372036854775807) = false := rfl
  simp -implicitDefEqProofs only [go_sem, b1]
  refine Want.intro (hashI x) ?_
  simp -implicitDefEqProofs only [go_sem, b1, bA_size, bl_len, s1, s2, bA_app, List.singleton_append]
  refine Want.intro (hashI y) ?_
  simp -implicitDefEqProofs only [go_sem, b1, bA_size, bl_len, s3, bA_app]
theorem c293_c (x y : BD) : CallR Tryz.prog 293 [.agg x.cs, .agg y.cs] (vS (bA (1 :: (x.dig.bl ++ y.dig.bl)))) [] := by
  refine use_of dcH2 false Tryz.f293 ?_
  conv => enter [1]; reduce
  refine jvR Tryz.f293 13 [.tmp 4] (by kernel_rfl) (by decide +kernel) rfl ?_
  have b1 : (⟨#[1]⟩ : ByteArray) = bA [1] := rfl
  have s1 : decide ((((#[1] : Array UInt8).size + 32 : Nat) : Int) > 9223372036854775807) = false := rfl
  have s2 : decide (((1 + 32 : Nat) : Int) > 9223372036854775807) = false := rfl
  have s3 : decide (((1 + 32 + 32 : Nat) : Int) > 9223372036854775807) = false := rfl
  simp -implicitDefEqProofs only [go_sem, b1]
  refine Want.intro (hashS x) ?_
  simp -implicitDefEqProofs only [go_sem, b1, bA_size, bl_len, s1, s2, bA_app, List.singleton_append]
  refine Want.intro (hashS y) ?_
  simp -implicitDefEqProofs only [go_sem, b1, bA_size, bl_len, s3, bA_app]
theorem c265_c (x y : BD) : CallR Tryz.prog 265 [.agg x.cs, .agg y.cs] (.agg (hPair x y).cs) [] := by
  refine use_of dcH2 false Tryz.f265 ?_
  conv => enter [1]; reduce
  refine jvR Tryz.f265 9 [.cell 4 37] (by kernel_rfl) (by decide +kernel) rfl ?_
  have hh := c148_c (bA (1 :: (x.dig.bl ++ y.dig.bl))) (by rw [bA_size]; simp [bl_len])
  rw [bA_list] at hh
  simp -implicitDefEqProofs only [go_sem]
  refine Want.intro (c301_c x y) ?_
  simp -implicitDefEqProofs only [go_sem]
  refine Want.intro hh ?_
  simp -implicitDefEqProofs only [go_sem, hPair]
theorem c223_c (x y : BD) : CallR Tryz.prog 223 [.agg x.cs, .agg y.cs] (.agg (hPair x y).cs) [] := by
  refine use_of dcH2 false Tryz.f223 ?_
  conv => enter [1]; reduce
  refine jvR Tryz.f223 9 [.cell 4 37] (by kernel_rfl) (by decide +kernel) rfl ?_
  have hh := c133_c (bA (1 :: (x.dig.bl ++ y.dig.bl))) (by rw [bA_size]; simp [bl_len])
  rw [bA_list] at hh
  simp -implicitDefEqProofs only [go_sem]
  refine Want.intro (c293_c x y) ?_
  simp -implicitDefEqProofs only [go_sem]
  refine Want.intro hh ?_
  simp -implicitDefEqProofs only [go_sem, hPair]
end Go.Proofs.YtjlhdfciklnndaaGreat.E
