/-
  Contracts: words of eight bytes.
-/
import Derived.Test.YtjlhdfciklnndaaGreatE3
import Derived.Test.YtjlhdfciklnndaaGreatProg
import Derived.Test.YtjlhdfciklnndaaGreatET
import Derived.KernelRfl
namespace Go.Proofs.YtjlhdfciklnndaaGreat.E
open Go Go.RowKit
set_option maxHeartbeats 4000000
set_option maxRecDepth 10000
set_option linter.unusedSimpArgs false
set_option linter.unusedVariables false
set_option linter.unusedSectionVars false
def dcD1 : Dec := ⟨[], [9, 10, 11], [27, 30, 44, 45, 46, 58, 68, 78, 79, 86, 101, 112, 113, 132, 174, 196, 247, 249, 351, 356], false⟩
attribute [go_sem] TT
theorem follows_any : Tryz.prog.follows .mixedOrders = true := by kernel_rfl
attribute [go_sem] follows_any
abbrev vI (a : Int) : AV := .sc (.int .i64 a)
abbrev vB (b : Bool) : AV := .sc (.bool b)
abbrev vU (n : Nat) : AV := .sc (.int .u64 (n : Int))
abbrev vS (b : ByteArray) : AV := .sc (.string b)

theorem wrS {a : Int} (h : -9223372036854775808 ≤ a ∧ a < 9223372036854775808) : IntKind.i64.wrap a = a := by
  have h8 : IntKind.i64.bits = 64 := rfl
  have hs : IntKind.i64.signed = true := rfl
  simp only [IntKind.wrap, h8, hs, Bool.true_and, decide_eq_true_eq]
  split <;> omega
def bN (s : ByteArray) (i : Nat) : Nat := (s.get! i).toNat
def wordN (s : ByteArray) (a : Nat) : Nat → Nat
  | 0 => 0
  | k + 1 => wordN s a k * 256 + bN s (a + k)
theorem bN_lt (s : ByteArray) (i : Nat) : bN s i < 256 := (s.get! i).toNat_lt
theorem wordN_lt (s : ByteArray) (a k : Nat) : wordN s a k < 256 ^ k := by
  induction k with
  | zero => simp [wordN]
  | succ k ih =>
    have := bN_lt s (a + k)
    simp only [wordN, Nat.pow_succ]
    omega
theorem wordN_lt8 (s : ByteArray) (a : Nat) {k : Nat} (h : k ≤ 8) : wordN s a k < 18446744073709551616 := Nat.lt_of_lt_of_le (wordN_lt s a k) (by
  have : 256 ^ k ≤ 256 ^ 8 := Nat.pow_le_pow_right (by omega) h
  omega)
theorem u64_wrap (n : Nat) (h : n < 18446744073709551616) : IntKind.u64.wrap (n : Int) = (n : Int) := by
  have h8 : IntKind.u64.bits = 64 := rfl
  have hs : IntKind.u64.signed = false := rfl
  simp only [IntKind.wrap, h8, hs, Bool.false_and, Bool.false_eq_true, if_false]
  omega
theorem data_get {s : ByteArray} {i : Nat} (h : i < s.size) : (s.data[i]?).map (fun b => AV.sc (.int .u8 (b.toNat : Int))) = some (.sc (.int .u8 (bN s i : Int))) := by
  have h' : i < s.data.size := h
  rw [Array.getElem?_eq_getElem h']
  show some (AV.sc (Value.int IntKind.u8 ((s.data[i]'h').toNat : Int))) = some (AV.sc (Value.int IntKind.u8 ((s.data[i]!).toNat : Int)))
  rw [getElem!_pos s.data i h']
theorem or_disj {x y k : Nat} (hx : x * 2 ^ k + y < 18446744073709551616) (hy : y < 2 ^ k) : (BitVec.ofInt 64 ((x * 2 ^ k : Nat) : Int) ||| BitVec.ofInt 64 ((y : Nat) : Int)).toNat = x * 2 ^ k + y := by
  rw [BitVec.ofInt_natCast, BitVec.ofInt_natCast, BitVec.toNat_or, BitVec.toNat_ofNat, BitVec.toNat_ofNat, Nat.mod_eq_of_lt (by omega), Nat.mod_eq_of_lt (by omega), Nat.mul_comm, Nat.two_pow_add_eq_or_of_lt hy]
theorem or_u64 {x y k : Nat} (hx : x * 2 ^ k + y < 18446744073709551616) (hy : y < 2 ^ k) : orI .u64 ((x * 2 ^ k : Nat) : Int) (y : Int) = ((x * 2 ^ k + y : Nat) : Int) := by
  unfold orI
  rw [show IntKind.u64.bits = 64 from rfl, or_disj hx hy]
  exact u64_wrap _ hx
theorem c230_c (s : ByteArray) (a : Nat) (ha : a + 8 ≤ s.size) (hs : s.size ≤ 9000000000000000000) : CallR Tryz.prog 230 [vS s, vI a] (vU (wordN s a 8)) [] := by
  refine use_of dcD1 false Tryz.f230 ?_
  conv => enter [1]; reduce
  refine jvR Tryz.f230 22 [.tmp 4] (by kernel_rfl) (by decide +kernel) rfl ?_
  simp -implicitDefEqProofs only [go_sem]
  refine jv_lp (fun m z => ∃ k, k ≤ 8 ∧ m = 8 - k ∧ z = ⟨22, [(0, vS s), (1, vI a), (5, vU (wordN s a k)), (6, vI ((a + k : Nat) : Int))], [], 1⟩) 8 ?_ ?_
  · simp -implicitDefEqProofs only [go_sem]
    exact ⟨0, by omega, rfl, rfl⟩
  · rintro m z ⟨k, hk, rfl, rfl⟩
    have hw1 : IntKind.i64.wrap ((a : Int) + 8) = (a : Int) + 8 := wrS (by omega)
    rcases Nat.lt_or_ge k 8 with hlt | hge
    · have hlt' : ((a + k : Nat) : Int) < (a : Int) + 8 := by omega
      have hg := data_get (s := s) (i := a + k) (by omega)
      have hl8 := wordN_lt8 s a (k := k) (by omega)
      have hl9 := wordN_lt8 s a (k := k + 1) (by omega)
      simp only [wordN] at hl9
      have hbl := bN_lt s (a + k)
      have hsh : IntKind.u64.wrap ((wordN s a k : Int) * 2 ^ 8) = ((wordN s a k * 256 : Nat) : Int) := by
        rw [show ((wordN s a k : Int) * 2 ^ 8) = ((wordN s a k * 256 : Nat) : Int) by omega]
        exact u64_wrap _ (Nat.lt_of_le_of_lt (Nat.le_add_right _ _) hl9)
      have hb : IntKind.u64.wrap (bN s (a + k) : Int) = (bN s (a + k) : Int) := u64_wrap _ (Nat.lt_of_lt_of_le hbl (by decide))
      have hor := or_u64 (x := wordN s a k) (y := bN s (a + k)) (k := 8) (by omega) (by omega)
      simp only [show 2 ^ 8 = 256 from rfl] at hor
      simp -implicitDefEqProofs only [go_sem, hw1, hlt', hg, hsh, hb, hor]
      exact ⟨_, by omega, k + 1, by omega, rfl, by rw [wrS (by omega)]; rfl⟩
    · have hk : k = 8 := by omega
      subst hk
      have hlt' : ¬ ((a + 8 : Nat) : Int) < (a : Int) + 8 := by omega
      simp -implicitDefEqProofs only [go_sem, hw1, hlt']
theorem orI_comm (k : IntKind) (x y : Int) : orI k x y = orI k y x := by unfold orI; rw [BitVec.or_comm]
theorem or_shift {x b k : Nat} (hx : x < 2 ^ k) (hb : b < 256) (hk : k ≤ 56) : orI .u64 (x : Int) (IntKind.u64.wrap (IntKind.u64.wrap (b : Int) * 2 ^ k)) = ((b * 2 ^ k + x : Nat) : Int) := by
  have hp : 2 ^ k ≤ 2 ^ 56 := Nat.pow_le_pow_right (by omega) hk
  have h1 : (b + 1) * 2 ^ k ≤ 256 * 2 ^ 56 := Nat.mul_le_mul (by omega) hp
  rw [Nat.add_mul, Nat.one_mul] at h1
  rw [u64_wrap b (by omega), show ((b : Int) * 2 ^ k) = ((b * 2 ^ k : Nat) : Int) by simp, u64_wrap _ (by omega), orI_comm]
  exact or_u64 (by omega) hx
def bL (l : List UInt8) (i : Nat) : Nat := (l.getD i 0).toNat
theorem bL_lt (l : List UInt8) (i : Nat) : bL l i < 256 := (l.getD i 0).toNat_lt
def wordL (l : List UInt8) : Nat → Nat
  | 0 => 0
  | k + 1 => wordL l k * 256 + bL l k
theorem byte_get {l : List UInt8} {i : Nat} (h : i < l.length) : (l[i]?).map byteC = some [.sc (.int .u8 (bL l i : Int))] := by
  rw [List.getElem?_eq_getElem h]
  simp [byteC, bL, h]
theorem c297_c (l : List UInt8) (h : 8 ≤ l.length) : CallR Tryz.prog 297 [.agg [], .ro 1 (l.map byteC)] (vU (wordL l 8)) [] := by
  refine use_of dcD1 false Tryz.f297 ?_
  conv => enter [1]; reduce
  refine jvR Tryz.f297 54 [.tmp 4] (by kernel_rfl) (by decide +kernel) rfl ?_
  have h0 : (0 : Int) < (l.length : Int) := by omega
  have h1 : (1 : Int) < (l.length : Int) := by omega
  have h2 : (2 : Int) < (l.length : Int) := by omega
  have h3 : (3 : Int) < (l.length : Int) := by omega
  have h4 : (4 : Int) < (l.length : Int) := by omega
  have h5 : (5 : Int) < (l.length : Int) := by omega
  have h6 : (6 : Int) < (l.length : Int) := by omega
  have h7 : (7 : Int) < (l.length : Int) := by omega
  have g0 := byte_get (l := l) (i := 0) (by omega)
  have g1 := byte_get (l := l) (i := 1) (by omega)
  have g2 := byte_get (l := l) (i := 2) (by omega)
  have g3 := byte_get (l := l) (i := 3) (by omega)
  have g4 := byte_get (l := l) (i := 4) (by omega)
  have g5 := byte_get (l := l) (i := 5) (by omega)
  have g6 := byte_get (l := l) (i := 6) (by omega)
  have g7 := byte_get (l := l) (i := 7) (by omega)
  simp -implicitDefEqProofs only [go_sem, h0, h1, h2, h3, h4, h5, h6, h7, g0, g1, g2, g3, g4, g5, g6, g7]
  have b0 := bL_lt l 0
  have b1 := bL_lt l 1
  have b2 := bL_lt l 2
  have b3 := bL_lt l 3
  have b4 := bL_lt l 4
  have b5 := bL_lt l 5
  have b6 := bL_lt l 6
  have b7 := bL_lt l 7
  rw [u64_wrap (bL l 7) (by omega), or_shift (k := 8) (by omega) b6 (by omega), or_shift (k := 16) (by omega) b5 (by omega), or_shift (k := 24) (by omega) b4 (by omega), or_shift (k := 32) (by omega) b3 (by omega), or_shift (k := 40) (by omega) b2 (by omega), or_shift (k := 48) (by omega) b1 (by omega), or_shift (k := 56) (by omega) b0 (by omega)]
  exact congrArg (fun n : Nat => vU n) (by simp only [wordL]; omega)
structure MDig where
  a : Nat
  b : Nat
  c : Nat
  d : Nat
def MDig.cs (d : MDig) : List AV := [vU d.a, vU d.b, vU d.c, vU d.d]
attribute [go_sem] MDig.cs
def digL (l : List UInt8) : MDig := ⟨wordL l 8, wordL (l.drop 8) 8, wordL (l.drop 16) 8, wordL (l.drop 24) 8⟩
theorem c242_c (l : List UInt8) (h : l.length = 32) : CallR Tryz.prog 242 [.ro 1 (l.map byteC)] (.agg (digL l).cs) [] := by
  refine use_of dcD1 false Tryz.f242 ?_
  conv => enter [1]; reduce
  refine jvR Tryz.f242 22 [.cell 2 37] (by kernel_rfl) (by decide +kernel) rfl ?_
  have e8 : (8 : Int) ≤ (l.length : Int) ∧ (l.length : Int) ≤ (l.length : Int) := by omega
  have e16 : (16 : Int) ≤ (l.length : Int) ∧ (l.length : Int) ≤ (l.length : Int) := by omega
  have e24 : (24 : Int) ≤ (l.length : Int) ∧ (l.length : Int) ≤ (l.length : Int) := by omega
  have t8 : List.take (l.length - 8) (List.drop 8 l) = List.drop 8 l := List.take_of_length_le (by simp)
  have t16 : List.take (l.length - 16) (List.drop 16 l) = List.drop 16 l := List.take_of_length_le (by simp)
  have t24 : List.take (l.length - 24) (List.drop 24 l) = List.drop 24 l := List.take_of_length_le (by simp)
  simp -implicitDefEqProofs only [go_sem, Option.getD_none, e8, e16, e24, t8, t16, t24]
  refine Want.intro (c297_c l (by omega)) ?_
  simp -implicitDefEqProofs only [go_sem]
  refine Want.intro (c297_c (l.drop 8) (by simp; omega)) ?_
  simp -implicitDefEqProofs only [go_sem]
  refine Want.intro (c297_c (l.drop 16) (by simp; omega)) ?_
  simp -implicitDefEqProofs only [go_sem]
  refine Want.intro (c297_c (l.drop 24) (by simp; omega)) ?_
  simp -implicitDefEqProofs only [go_sem]
  rfl
theorem bN_bL (s : ByteArray) (a i : Nat) : bN s (a + i) = bL (s.data.toList.drop a) i := by
  unfold bN bL
  rw [List.getD_eq_getElem?_getD, List.getElem?_drop, Array.getElem?_toList]
  show (s.data[a + i]!).toNat = _
  rw [getElem!_def]
  cases s.data[a + i]? <;> rfl
theorem wordN_L (s : ByteArray) (a k : Nat) : wordN s a k = wordL (s.data.toList.drop a) k := by
  induction k with
  | zero => rfl
  | succ k ih => simp only [wordN, wordL, ih, bN_bL]
def mHashBack (s : ByteArray) : MDig × Bool := if s.size = 32 then (digL s.data.toList, true) else (⟨0, 0, 0, 0⟩, false)
theorem c250_c (s : ByteArray) (hs : s.size ≤ 9000000000000000000) : CallR Tryz.prog 250 [vS s] (.tup [.agg (mHashBack s).1.cs, vB (mHashBack s).2]) [] := by
  refine use_of dcD1 false Tryz.f250 ?_
  conv => enter [1]; reduce
  refine jvR Tryz.f250 17 [.cell 2 37, .tmp 3] (by kernel_rfl) (by decide +kernel) rfl ?_
  simp -implicitDefEqProofs only [go_sem]
  refine condJ_intro (fun h => ?_) (fun h => ?_)
  · have h' : s.size ≠ 32 := by have := bne_iff_ne.1 h; omega
    simp -implicitDefEqProofs only [go_sem, h, mHashBack, h']
    rfl
  · have h' : s.size = 32 := by have := bne_eq_false_iff_eq.1 h; omega
    simp -implicitDefEqProofs only [go_sem, h]
    repeat' first | (refine Want.intro (by first | exact c230_c s 0 (by omega) hs | exact c230_c s 8 (by omega) hs | exact c230_c s 16 (by omega) hs | exact c230_c s 24 (by omega) hs) ?_; try simp -implicitDefEqProofs only [go_sem]) | (refine WantM.intro (by first | exact c230_c s 0 (by omega) hs | exact c230_c s 8 (by omega) hs | exact c230_c s 16 (by omega) hs | exact c230_c s 24 (by omega) hs) ?_; try simp -implicitDefEqProofs only [go_sem]) | (refine guardP_intro (fun h => ?_) (fun h => ?_) <;> try simp -implicitDefEqProofs only [go_sem, h]) | (refine condJ_intro (fun h => ?_) (fun h => ?_) <;> try simp -implicitDefEqProofs only [go_sem, h])
    simp only [mHashBack, h', if_true, digL, wordN_L, List.drop_zero]
theorem c205_c (s : ByteArray) (hs : s.size ≤ 9000000000000000000) : CallR Tryz.prog 205 [vS s] (.tup [.agg (mHashBack s).1.cs, vB (mHashBack s).2]) [] := by
  refine use_of dcD1 false Tryz.f205 ?_
  conv => enter [1]; reduce
  refine jvR Tryz.f205 11 [.cell 2 37, .tmp 3] (by kernel_rfl) (by decide +kernel) rfl ?_
  simp -implicitDefEqProofs only [go_sem]
  refine condJ_intro (fun h => ?_) (fun h => ?_)
  · have h' : s.size ≠ 32 := by have := bne_iff_ne.1 h; omega
    simp -implicitDefEqProofs only [go_sem, h, mHashBack, h']
    rfl
  · have h' : s.size = 32 := by have := bne_eq_false_iff_eq.1 h; omega
    simp -implicitDefEqProofs only [go_sem, h]
    refine Want.intro (c242_c s.data.toList (by rw [Array.length_toList]; exact h')) ?_
    simp -implicitDefEqProofs only [go_sem]
    simp only [mHashBack, h', if_true]
end Go.Proofs.YtjlhdfciklnndaaGreat.E
