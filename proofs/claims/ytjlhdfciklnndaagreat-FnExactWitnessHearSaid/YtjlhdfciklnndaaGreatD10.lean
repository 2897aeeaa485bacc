/-
  Contracts: digests in bytes.
-/
import Derived.Test.YtjlhdfciklnndaaGreatD9
namespace Go.Proofs.YtjlhdfciklnndaaGreat.E
open Go Go.RowKit
set_option maxHeartbeats 4000000
set_option maxRecDepth 10000
set_option linter.unusedSimpArgs false
set_option linter.unusedVariables false
set_option linter.unusedSectionVars false
def dcD10 : Dec := ⟨[(240, .cm [false, true, false])], [9, 10, 11], [27, 30, 44, 45, 46, 58, 68, 78, 79, 86, 101, 112, 113, 132, 174, 196, 247, 249, 351, 356], false⟩

theorem bytes_back (l : List UInt8) : bytesOf (l.map byteC) = some l := by
  induction l with
  | nil => rfl
  | cons a l ih => simp [bytesOf, byteC, ih]
theorem c225_c (v : Nat) (hv : v < 18446744073709551616) : CallR Tryz.prog 225 [vU v] (vS (numB v 8)) [] := by
  refine use_of dcD10 false Tryz.f225 ?_
  conv => enter [1]; reduce
  refine jvR Tryz.f225 21 [.tmp 2] (by kernel_rfl) (by decide +kernel) rfl ?_
  simp -implicitDefEqProofs only [go_sem]
  refine jv_lp (fun m z => ∃ j, j ≤ 8 ∧ m = 8 - j ∧ z = ⟨21, [(0, vU v), (3, .blk 3 0 [] 1 0 (low (v / 256 ^ (8 - j)) j).length), (4, vI (7 - (j : Int)))], [(3, 0, one ⟨1, (low (v / 256 ^ (8 - j)) j).map byteC, 2, false⟩)], 1⟩) 8 ?_ ?_
  · simp -implicitDefEqProofs only [go_sem]
    exact ⟨0, by omega, rfl, rfl⟩
  · rintro m z ⟨j, hj, rfl, rfl⟩
    rcases Nat.lt_or_ge j 8 with hlt | hge
    · have hge0 : 7 - (j : Int) ≥ 0 := by omega
      have e1 : IntKind.i64.wrap (8 * (7 - (j : Int))) = ((8 * (7 - j) : Nat) : Int) := by rw [wrS (by omega)]; omega
      have e2 : IntKind.u64.wrap ((8 * (7 - j) : Nat) : Int) = ((8 * (7 - j) : Nat) : Int) := u64_wrap _ (by omega)
      have e3 : ¬ (((8 * (7 - j) : Nat) : Int) < 0) := by omega
      have e4 : 8 * (7 - j) ≤ 64 := by omega
      have e5 : ((v : Int)).fdiv (2 ^ (8 * (7 - j))) = ((v / 256 ^ (7 - j) : Nat) : Int) := by
        have hp : (2 : Int) ^ (8 * (7 - j)) = ((256 ^ (7 - j) : Nat) : Int) := by
          rw [Int.pow_mul]
          simp
        rw [hp, Int.fdiv_eq_ediv_of_nonneg _ (Int.natCast_nonneg _)]
        rfl
      have e6 : IntKind.u8.wrap ((v / 256 ^ (7 - j) : Nat) : Int) = ((v / 256 ^ (7 - j) % 256 : Nat) : Int) := by
        generalize v / 256 ^ (7 - j) = q
        have h8 : IntKind.u8.bits = 8 := rfl
        have hs : IntKind.u8.signed = false := rfl
        simp only [IntKind.wrap, h8, hs, Bool.false_and, Bool.false_eq_true, if_false]
        omega
      have e7 : IntKind.i64.wrap (7 - (j : Int) - 1) = 7 - ((j + 1 : Nat) : Int) := by rw [wrS (by omega)]; omega
      have ha : ∀ x, _ := fun x => app_ok (E := byteC) (l := low (v / 256 ^ (8 - j)) j) (xs := [x]) (b := 1) (n := 100) (by simp [low_len]; omega) (by omega) (by omega)
      simp -implicitDefEqProofs only [go_sem, hge0, e1, e2, e3, e4, e5, e6, e7, ha]
      have hst : low (v / 256 ^ (8 - (j + 1))) (j + 1) = low (v / 256 ^ (8 - j)) j ++ [UInt8.ofNat (v / 256 ^ (7 - j) % 256)] := by
        rw [show 8 - (j + 1) = 7 - j by omega, low_snoc, Nat.div_div_eq_div_mul, ← Nat.pow_succ, show (7 - j).succ = 8 - j by omega]
      exact ⟨_, by omega, j + 1, hlt, rfl, by rw [hst]; simp [byteC]⟩
    · have hj : j = 8 := by omega
      subst hj
      have hge0 : ¬ (7 - ((8 : Nat) : Int) ≥ 0) := by omega
      simp -implicitDefEqProofs only [go_sem, hge0, bytes_back]
      have e : (⟨(low (v / 256 ^ 0) 8).toArray⟩ : ByteArray) = numB v 8 := by
        have := numB_low v 8
        rw [show v / 256 ^ 0 = v by simp, ← this]
      rw [e]
structure MDig.ok (d : MDig) : Prop where
  a : d.a < 18446744073709551616
  b : d.b < 18446744073709551616
  c : d.c < 18446744073709551616
  d : d.d < 18446744073709551616
def MDig.bytes (d : MDig) : ByteArray := numB d.a 8 ++ numB d.b 8 ++ numB d.c 8 ++ numB d.d 8
theorem u8_mod (q : Nat) : IntKind.u8.wrap (q : Int) = ((q % 256 : Nat) : Int) := by
  have h8 : IntKind.u8.bits = 8 := rfl
  have hs : IntKind.u8.signed = false := rfl
  simp only [IntKind.wrap, h8, hs, Bool.false_and, Bool.false_eq_true, if_false]
  omega
theorem u8_shr (v : Nat) {m : Nat} (j : Nat) (h : m = 8 * j) : IntKind.u8.wrap ((v : Int).fdiv (2 ^ m)) = ((v / 256 ^ j % 256 : Nat) : Int) := by
  subst h
  have hp : (2 : Int) ^ (8 * j) = ((256 ^ j : Nat) : Int) := by
    rw [Int.pow_mul]
    simp
  rw [hp, Int.fdiv_eq_ediv_of_nonneg _ (Int.natCast_nonneg _)]
  exact u8_mod _
theorem c131_c (d : MDig) (h : d.ok) : CallR Tryz.prog 131 [.agg d.cs] (vS d.bytes) [] := by
  refine use_of dcD10 false Tryz.f131 ?_
  conv => enter [1]; reduce
  refine jvR Tryz.f131 18 [.tmp 2] (by kernel_rfl) (by decide +kernel) rfl ?_
  have hs : ∀ v, (numB v 8).size = 8 := fun v => numB_size v 8
  have hsz : ∀ a b c d : Nat, ¬ ((((numB a 8).size + (numB b 8).size : Nat) : Int) > 9223372036854775807) ∧ ¬ ((((numB a 8).size + (numB b 8).size + (numB c 8).size : Nat) : Int) > 9223372036854775807) ∧ ¬ ((((numB a 8).size + (numB b 8).size + (numB c 8).size + (numB d 8).size : Nat) : Int) > 9223372036854775807) := by
    intro a b c d
    simp only [hs]
    omega
  simp -implicitDefEqProofs only [go_sem]
  repeat' first | (refine Want.intro (by first | exact c225_c _ h.a | exact c225_c _ h.b | exact c225_c _ h.c | exact c225_c _ h.d) ?_; try simp -implicitDefEqProofs only [go_sem, (hsz d.a d.b d.c d.d).1, (hsz d.a d.b d.c d.d).2.1, (hsz d.a d.b d.c d.d).2.2]) | (refine WantM.intro (by first | exact c225_c _ h.a | exact c225_c _ h.b | exact c225_c _ h.c | exact c225_c _ h.d) ?_; try simp -implicitDefEqProofs only [go_sem, (hsz d.a d.b d.c d.d).1, (hsz d.a d.b d.c d.d).2.1, (hsz d.a d.b d.c d.d).2.2]) | (refine guardP_intro (fun h => ?_) (fun h => ?_) <;> try simp -implicitDefEqProofs only [go_sem, (hsz d.a d.b d.c d.d).1, (hsz d.a d.b d.c d.d).2.1, (hsz d.a d.b d.c d.d).2.2, h]) | (refine condJ_intro (fun h => ?_) (fun h => ?_) <;> try simp -implicitDefEqProofs only [go_sem, (hsz d.a d.b d.c d.d).1, (hsz d.a d.b d.c d.d).2.1, (hsz d.a d.b d.c d.d).2.2, h])
  rfl
theorem c240_c (l : List UInt8) (v : Nat) (hl : l.length ≤ 1000000) : CallM Tryz.prog 240 [(1000000, 0, one ⟨1, l.map byteC, 2, false⟩)] [.agg [], .blk 1000000 0 [] 1 0 l.length, vU v] (.blk 0 0 [] 1 0 (l ++ low v 8).length) [(0, 0, one ⟨1, (l ++ low v 8).map byteC, 2, false⟩)] := by
  refine use_of dcD10 false Tryz.f240 ?_
  conv => enter [1]; reduce
  refine jvM Tryz.f240 33 [.tmp 6] (by kernel_rfl) (by decide +kernel) rfl ?_
  have e0 := u8_mod v
  have e7 := u8_shr v (m := 56) 7 rfl
  have e6 := u8_shr v (m := 48) 6 rfl
  have e5 := u8_shr v (m := 40) 5 rfl
  have e4 := u8_shr v (m := 32) 4 rfl
  have e3 := u8_shr v (m := 24) 3 rfl
  have e2 := u8_shr v (m := 16) 2 rfl
  have e1 := u8_shr v (m := 8) 1 rfl
  have ha : ∀ x0 x1 x2 x3 x4 x5 x6 x7, _ := fun x0 x1 x2 x3 x4 x5 x6 x7 => app_ok (E := byteC) (l := l) (xs := [x0, x1, x2, x3, x4, x5, x6, x7]) (b := 1) (n := 10000000) (by simp; omega) (by omega) (by omega)
  simp -implicitDefEqProofs only [go_sem, e0, e1, e2, e3, e4, e5, e6, e7, ha]
  simp [low, byteC]
def MDig.bk (d : MDig) : Nat → List UInt8
  | 0 => []
  | 1 => low d.a 8
  | 2 => low d.a 8 ++ low d.b 8
  | 3 => low d.a 8 ++ low d.b 8 ++ low d.c 8
  | _ => low d.a 8 ++ low d.b 8 ++ low d.c 8 ++ low d.d 8
theorem MDig.bytes_bk (d : MDig) : d.bytes = ⟨(d.bk 4).toArray⟩ := by
  unfold MDig.bytes MDig.bk
  apply ByteArray.ext
  apply Array.toList_inj.1
  simp [ByteArray.data_append, Array.toList_append, numB_low]
theorem low8 (v : Nat) : (low v 8).length = 8 := low_len v 8
theorem MDig.bk_len (d : MDig) {i : Nat} (h : i ≤ 4) : (d.bk i).length = 8 * i := by
  have hi' : i = 0 ∨ i = 1 ∨ i = 2 ∨ i = 3 ∨ i = 4 := by omega
  rcases hi' with rfl | rfl | rfl | rfl | rfl <;> simp [MDig.bk, low8]
theorem c271_c (d : MDig) : CallR Tryz.prog 271 [.agg d.cs] (vS d.bytes) [] := by
  refine use_of dcD10 false Tryz.f271 ?_
  conv => enter [1]; reduce
  refine jvR Tryz.f271 27 [.tmp 2] (by kernel_rfl) (by decide +kernel) rfl ?_
  simp -implicitDefEqProofs only [go_sem]
  refine jv_lpN [(3, 1)] (fun m s => ∃ i, i ≤ 4 ∧ m = 4 - i ∧ s = ⟨27, [(3, .blk 3 0 [] 1 0 (d.bk i).length), (14, .blk 14 0 [] 1 0 4), (15, vI 4), (16, vI i)], [(3, 0, one ⟨1, (d.bk i).map byteC, 2, false⟩), (14, 0, one ⟨1, [[vU d.a], [vU d.b], [vU d.c], [vU d.d]], 2, false⟩)], 1⟩) 4 ?_ ?_
  · simp -implicitDefEqProofs only [go_sem]
    exact ⟨0, by omega, rfl, rfl⟩
  · rintro m s ⟨i, hi, rfl, rfl⟩
    rcases Nat.lt_or_ge i 4 with hlt | hge
    · have hlt' : (i : Int) < 4 := by omega
      have w4 : IntKind.i64.wrap ((i : Int) + 1) = ((i + 1 : Nat) : Int) := by rw [wrS (by omega)]; omega
      obtain ⟨w, hg, hk⟩ : ∃ w, ([[vU d.a], [vU d.b], [vU d.c], [vU d.d]] : List (List AV))[i]? = some [vU w] ∧ d.bk (i + 1) = d.bk i ++ low w 8 := by
        have hi' : i = 0 ∨ i = 1 ∨ i = 2 ∨ i = 3 := by omega
        rcases hi' with rfl | rfl | rfl | rfl
        · exact ⟨d.a, rfl, rfl⟩
        · exact ⟨d.b, rfl, rfl⟩
        · exact ⟨d.c, rfl, rfl⟩
        · exact ⟨d.d, rfl, rfl⟩
      have hb := d.bk_len (i := i) (by omega)
      simp -implicitDefEqProofs only [go_sem, hlt', Int.cast_ofNat_Int, hg]
      refine WantM.intro (c240_c (d.bk i) w (by omega)) ?_
      simp -implicitDefEqProofs only [go_sem, w4]
      exact ⟨_, by omega, i + 1, hlt, rfl, by rw [hk]⟩
    · have hi4 : i = 4 := by omega
      subst hi4
      have hlt' : ¬ (((4 : Nat) : Int) < 4) := by omega
      simp -implicitDefEqProofs only [go_sem, hlt', bytes_back]
      rw [d.bytes_bk]
end Go.Proofs.YtjlhdfciklnndaaGreat.E
