/-
  Contracts: blocks are hashed.
-/
import Derived.Test.YtjlhdfciklnndaaGreatD13
namespace Go.Proofs.YtjlhdfciklnndaaGreat.E
open Go Go.RowKit
set_option maxHeartbeats 4000000
set_option maxRecDepth 10000
set_option linter.unusedSimpArgs false
set_option linter.unusedVariables false
set_option linter.unusedSectionVars false
def dcH1 : Dec := ⟨[], [9, 10, 11], [27, 30, 44, 45, 46, 58, 68, 78, 79, 86, 101, 112, 113, 132, 174, 196, 247, 249, 351, 356], false⟩

abbrev W64 := BitVec 64
abbrev vW (x : W64) : AV := vU x.toNat
structure BD where
  a : W64
  b : W64
  c : W64
  d : W64
def BD.cs (s : BD) : List AV := [vW s.a, vW s.b, vW s.c, vW s.d]
def BD.dig (s : BD) : MDig := ⟨s.a.toNat, s.b.toNat, s.c.toNat, s.d.toNat⟩
theorem BD.dig_ok (s : BD) : s.dig.ok := ⟨s.a.isLt, s.b.isLt, s.c.isLt, s.d.isLt⟩
theorem BD.dig_cs (s : BD) : s.dig.cs = s.cs := rfl
attribute [go_sem] BD.cs
theorem wU (n : Int) : IntKind.u64.wrap n = n % 18446744073709551616 := by
  have h8 : IntKind.u64.bits = 64 := rfl
  have hs : IntKind.u64.signed = false := rfl
  simp only [IntKind.wrap, h8, hs, Bool.false_and, Bool.false_eq_true, if_false]
  rfl
theorem w_id (x : W64) : IntKind.u64.wrap (x.toNat : Int) = (x.toNat : Int) := u64_wrap _ x.isLt
theorem w_xor (x y : W64) : xorI .u64 (x.toNat : Int) (y.toNat : Int) = ((x ^^^ y).toNat : Int) := by
  unfold xorI
  rw [show IntKind.u64.bits = 64 from rfl, BitVec.ofInt_natCast, BitVec.ofInt_natCast, BitVec.ofNat_toNat, BitVec.ofNat_toNat, BitVec.setWidth_eq, BitVec.setWidth_eq]
  exact w_id _
theorem w_or (x y : W64) : orI .u64 (x.toNat : Int) (y.toNat : Int) = ((x ||| y).toNat : Int) := by
  unfold orI
  rw [show IntKind.u64.bits = 64 from rfl, BitVec.ofInt_natCast, BitVec.ofInt_natCast, BitVec.ofNat_toNat, BitVec.ofNat_toNat, BitVec.setWidth_eq, BitVec.setWidth_eq]
  exact w_id _
theorem w_add (x y : W64) : IntKind.u64.wrap ((x.toNat : Int) + (y.toNat : Int)) = ((x + y).toNat : Int) := by
  rw [wU, BitVec.toNat_add]
  omega
theorem w_shl (x : W64) (n : Nat) : IntKind.u64.wrap ((x.toNat : Int) * 2 ^ n) = ((x <<< n).toNat : Int) := by
  rw [wU, BitVec.toNat_shiftLeft, Nat.shiftLeft_eq]
  have : ((x.toNat : Int) * 2 ^ n) = ((x.toNat * 2 ^ n : Nat) : Int) := by simp
  rw [this]
  omega
theorem w_shr (x : W64) (n : Nat) : (x.toNat : Int).fdiv (2 ^ n) = ((x >>> n).toNat : Int) := by
  rw [BitVec.toNat_ushiftRight, Nat.shiftRight_eq_div_pow, Int.fdiv_eq_ediv_of_nonneg _ (Int.pow_nonneg (by decide))]
  simp
def rot (x : W64) (n m : Nat) : W64 := x <<< n ||| x >>> m
theorem rl39 (x : W64) : CallR Tryz.prog 296 [vW x, vI 39] (vW (rot x 39 25)) [] := by
  refine use_of dcH1 false Tryz.f296 ?_
  conv => enter [1]; reduce
  refine jvR Tryz.f296 17 [.tmp 4] (by kernel_rfl) (by decide +kernel) rfl ?_
  have e1 : andI IntKind.u64 (IntKind.u64.wrap 39) 63 = 39 := rfl
  have e2 : IntKind.u64.wrap (64 - 39) = 25 := rfl
  simp -implicitDefEqProofs only [go_sem, e1, e2]
  rw [w_shl, w_shr, w_or]
  rfl
theorem tn39 (x : W64) : CallR Tryz.prog 294 [vW x, vI 39] (vW (rot x 39 25)) [] := by
  refine use_of dcH1 false Tryz.f294 ?_
  conv => enter [1]; reduce
  refine jvR Tryz.f294 15 [.tmp 4] (by kernel_rfl) (by decide +kernel) rfl ?_
  have e1 : IntKind.u64.wrap 39 = 39 := rfl
  have e2 : IntKind.i64.wrap (64 - 39) = 25 := rfl
  have e3 : IntKind.u64.wrap 25 = 25 := rfl
  simp -implicitDefEqProofs only [go_sem, e1, e2, e3]
  rw [w_shl, w_shr, w_or]
  rfl
theorem rl21 (x : W64) : CallR Tryz.prog 296 [vW x, vI 21] (vW (rot x 21 43)) [] := by
  refine use_of dcH1 false Tryz.f296 ?_
  conv => enter [1]; reduce
  refine jvR Tryz.f296 17 [.tmp 4] (by kernel_rfl) (by decide +kernel) rfl ?_
  have e1 : andI IntKind.u64 (IntKind.u64.wrap 21) 63 = 21 := rfl
  have e2 : IntKind.u64.wrap (64 - 21) = 43 := rfl
  simp -implicitDefEqProofs only [go_sem, e1, e2]
  rw [w_shl, w_shr, w_or]
  rfl
theorem tn21 (x : W64) : CallR Tryz.prog 294 [vW x, vI 21] (vW (rot x 21 43)) [] := by
  refine use_of dcH1 false Tryz.f294 ?_
  conv => enter [1]; reduce
  refine jvR Tryz.f294 15 [.tmp 4] (by kernel_rfl) (by decide +kernel) rfl ?_
  have e1 : IntKind.u64.wrap 21 = 21 := rfl
  have e2 : IntKind.i64.wrap (64 - 21) = 43 := rfl
  have e3 : IntKind.u64.wrap 43 = 43 := rfl
  simp -implicitDefEqProofs only [go_sem, e1, e2, e3]
  rw [w_shl, w_shr, w_or]
  rfl
structure RS where
  a : W64
  b : W64
  c : W64
  d : W64
  k : W64
def C0 : W64 := 12620524952350641003#64
def RS.nx (s : RS) : RS :=
  let k := s.k + C0
  let a := s.a + s.b + k
  let d := rot (s.d ^^^ a) 39 25
  let c := s.c + d
  let b := rot (s.b ^^^ c) 21 43
  ⟨b, c, d, a, k⟩
def rnds (s : RS) : Nat → RS
  | 0 => s
  | n + 1 => (rnds s n).nx
def mBlk (s b : BD) : BD :=
  let r := rnds ⟨s.a ^^^ b.a, s.b ^^^ b.b, s.c ^^^ b.c, s.d ^^^ b.d, 0#64⟩ 10
  ⟨r.a ^^^ s.a, r.b ^^^ s.b, r.c ^^^ s.c, r.d ^^^ s.d⟩
theorem w_addC (x : W64) : IntKind.u64.wrap ((x.toNat : Int) + 12620524952350641003) = ((x + C0).toNat : Int) := w_add x C0
def zDg : List AV := [.sc (.int .u64 0), .sc (.int .u64 0), .sc (.int .u64 0), .sc (.int .u64 0)]
attribute [go_sem] zDg
theorem c241_c (s b : BD) : CallR Tryz.prog 241 [.agg s.cs, .agg b.cs] (.agg (mBlk s b).cs) [] := by
  refine use_of dcH1 false Tryz.f241 ?_
  conv => enter [1]; reduce
  refine jvR Tryz.f241 74 [.cell 4 37] (by kernel_rfl) (by decide +kernel) rfl ?_
  simp -implicitDefEqProofs only [go_sem, w_xor]
  generalize hR : (⟨s.a ^^^ b.a, s.b ^^^ b.b, s.c ^^^ b.c, s.d ^^^ b.d, 0#64⟩ : RS) = R
  refine jv_lp (fun m z => ∃ i : Nat, i ≤ 10 ∧ m = 10 - i ∧ z = ⟨74, [(2, .ptr 2 0 [] 4 0 0), (4, .ptr 4 0 [] 4 0 0), (5, vW (rnds R i).a), (6, vW (rnds R i).b), (7, vW (rnds R i).c), (8, vW (rnds R i).d), (9, vW (rnds R i).k), (10, vI i)], [(2, 0, one ⟨4, [s.cs], 0, false⟩), (4, 0, one ⟨4, [zDg], 0, false⟩)], 1⟩) 10 ?_ ?_
  · simp -implicitDefEqProofs only [go_sem]
    exact ⟨0, by omega, rfl, by subst hR; rfl⟩
  · rintro m z ⟨i, hi, rfl, rfl⟩
    rcases Nat.lt_or_ge i 10 with hlt | hge
    · have hlt' : (i : Int) < 10 := by omega
      have w4 : IntKind.i64.wrap ((i : Int) + 1) = ((i + 1 : Nat) : Int) := by rw [wrS (by omega)]; omega
      simp -implicitDefEqProofs only [go_sem, hlt', w_addC, w_add, w_xor]
      refine Want.intro (rl39 _) ?_
      simp -implicitDefEqProofs only [go_sem, w_addC, w_add, w_xor]
      refine Want.intro (rl21 _) ?_
      simp -implicitDefEqProofs only [go_sem, w4]
      refine ⟨_, by omega, i + 1, hlt, rfl, ?_⟩
      simp only [rnds, RS.nx, BitVec.add_assoc]
    · have hi : i = 10 := by omega
      subst hi
      have hlt' : ¬ (((10 : Nat) : Int) < 10) := by omega
      simp -implicitDefEqProofs only [go_sem, hlt', w_xor]
      subst hR
      rfl
theorem c229_c (s b : BD) : CallR Tryz.prog 229 [.agg s.cs, .agg b.cs] (.agg (mBlk s b).cs) [] := by
  refine use_of dcH1 false Tryz.f229 ?_
  conv => enter [1]; reduce
  refine jvR Tryz.f229 76 [.cell 4 37] (by kernel_rfl) (by decide +kernel) rfl ?_
  simp -implicitDefEqProofs only [go_sem, w_xor]
  generalize hR : (⟨s.a ^^^ b.a, s.b ^^^ b.b, s.c ^^^ b.c, s.d ^^^ b.d, 0#64⟩ : RS) = R
  refine jv_lp (fun m z => ∃ i : Nat, i ≤ 10 ∧ m = 10 - i ∧ z = ⟨76, [(2, .ptr 2 0 [] 4 0 0), (4, .ptr 4 0 [] 4 0 0), (5, vW (rnds R i).a), (6, vW (rnds R i).b), (7, vW (rnds R i).c), (8, vW (rnds R i).d), (9, vW (rnds R i).k), (10, vI i)], [(2, 0, one ⟨4, [s.cs], 0, false⟩), (4, 0, one ⟨4, [zDg], 0, false⟩)], 1⟩) 10 ?_ ?_
  · simp -implicitDefEqProofs only [go_sem]
    exact ⟨0, by omega, rfl, by subst hR; rfl⟩
  · rintro m z ⟨i, hi, rfl, rfl⟩
    rcases Nat.lt_or_ge i 10 with hlt | hge
    · have hlt' : (i : Int) < 10 := by omega
      have w4 : IntKind.i64.wrap ((i : Int) + 1) = ((i + 1 : Nat) : Int) := by rw [wrS (by omega)]; omega
      simp -implicitDefEqProofs only [go_sem, hlt', w_addC, w_add, w_xor]
      refine Want.intro (tn39 _) ?_
      simp -implicitDefEqProofs only [go_sem, w_addC, w_add, w_xor]
      refine Want.intro (tn21 _) ?_
      simp -implicitDefEqProofs only [go_sem, w4]
      exact ⟨_, by omega, i + 1, hlt, rfl, rfl⟩
    · have hi : i = 10 := by omega
      subst hi
      have hlt' : ¬ (((10 : Nat) : Int) < 10) := by omega
      simp -implicitDefEqProofs only [go_sem, hlt', w_xor]
      subst hR
      rfl
end Go.Proofs.YtjlhdfciklnndaaGreat.E
