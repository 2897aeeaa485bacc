/-
  Contracts: digests in bytes.
-/
import Derived.Test.YtkhemolkhegppaaD9
namespace Go.Proofs.Ytkhemolkhegppaa.E
open Go Go.RowKit
set_option maxHeartbeats 4000000
set_option maxRecDepth 10000
set_option linter.unusedSimpArgs false
set_option linter.unusedVariables false
set_option linter.unusedSectionVars false
@[go_sem] def c106 : SC J := .sq [0] (.reg [.p (.as 2 (.const (.string { data := #[] })))])
 (.sq [0, 3] (.reg [.p (.bs 5 22 0 []), .p (.as 3 (.tmp 5))])
  (.sq [3] (.sq [0, 3, 4] (.reg [.p (.as 4 (.const (.int .i64 7)))])
    (.block 0 (.lp [0, 3, 4] (.sq [0, 3, 4] (.sq [0, 3, 4, 7] (.reg [.p (.mv 6 (.tmp 4)), .p (.bn 7 .geq 3 (.tmp 6) (.const (.int .i64 0)) 3)])
        (.cond (.tmp 7)
         (.skip)
         (.exit 0)))
       (.sq [0, 3, 4] (.block 1 (.reg [.p (.mv 10 (.tmp 3)), .p (.mv 11 (.tmp 0)), .p (.mv 12 (.tmp 4)), .p (.bn 13 .mul 3 (.const (.int .i64 8)) (.tmp 12) 3), .p (.cv 14 3 170 (.tmp 13)), .p (.bn 15 .shr 23 (.tmp 11) (.tmp 14) 170), .p (.cv 16 23 5 (.tmp 15)), .p (.bs 17 22 1 [(0, .tmp 16)]), .p (.ap (some 18) 22 22 (.tmp 10) (.tmp 17)), .p (.as 3 (.tmp 18))]))
        (.reg [.p (.mv 8 (.tmp 4)), .p (.bn 9 .sub 3 (.tmp 8) (.const (.int .i64 1)) 3), .p (.as 4 (.tmp 9))]))))))
   (.sq [2] (.reg [.p (.mv 19 (.tmp 3)), .p (.cv 20 22 9 (.tmp 19)), .p (.as 2 (.tmp 20))])
    (.ret))))
theorem b106 : BodyOK Try.prog 106 c106 21 [.tmp 2] := ⟨Try.f106, by kernel_rfl, by kernel_rfl, by kernel_rfl, by kernel_rfl, by kernel_rfl⟩

@[go_sem] def c57 : SC J := .sq [1] (.reg [.p (.bx 1 25 (.tmp 0)), .p (.as 2 (.const (.string { data := #[] })))])
 (.sq [2] (.dr (.pu 0 (.pu 1 (.pu 3 (.pu 4 (.pu 7 (.pu 8 (.pu 11 (.pu 12 (.ef 2 [4, 8, 12] (.ef 5 [8, 12] (.pu 6 (.ef 9 [12] (.pu 10 (.ef 13 [] (.pu 14 (.pu 15 (.nil))))))))))))))))) [[], [0], [0, 1], [], [3], [0, 1, 2, 3, 4], [0, 1, 2, 3, 4, 5], [], [7], [0, 1, 2, 3, 4, 5, 7, 8], [0, 1, 2, 3, 4, 5, 6, 7, 8, 9], [], [11], [0, 1, 2, 3, 4, 5, 7, 8, 9, 11, 12], [0, 1, 2, 3, 4, 5, 6, 7, 8, 9, 10, 11, 12, 13], [0, 1, 2, 3, 4, 5, 6, 7, 8, 9, 10, 11, 12, 13, 14]] [.p (.fa 3 25 (.tmp 1) 0), .p (.ld 4 23 (.tmp 3)), .p (.cl (some 5) 106 [.tmp 4] [23]), .p (.fa 6 25 (.tmp 1) 1), .p (.ld 7 23 (.tmp 6)), .p (.cl (some 8) 106 [.tmp 7] [23]), .p (.bn 9 .add 9 (.tmp 5) (.tmp 8) 9), .p (.fa 10 25 (.tmp 1) 2), .p (.ld 11 23 (.tmp 10)), .p (.cl (some 12) 106 [.tmp 11] [23]), .p (.bn 13 .add 9 (.tmp 9) (.tmp 12) 9), .p (.fa 14 25 (.tmp 1) 3), .p (.ld 15 23 (.tmp 14)), .p (.cl (some 16) 106 [.tmp 15] [23]), .p (.bn 17 .add 9 (.tmp 13) (.tmp 16) 9), .p (.as 2 (.tmp 17))] [[], [0], [1], [], [3], [4, 2], [2, 5], [], [7], [8, 5], [6, 9], [], [11], [12, 9], [10, 13], [14, 13, 0, 1, 2, 3, 4, 5, 6, 7, 8, 9, 10, 11, 12, 13, 14]])
  (.ret))
theorem b57 : BodyOK Try.prog 57 c57 18 [.tmp 2] := ⟨Try.f57, by kernel_rfl, by kernel_rfl, by kernel_rfl, by kernel_rfl, by kernel_rfl⟩
set_option maxRecDepth 100000 in
@[go_sem] theorem k57_0 : chkT (.pu 0 (.pu 1 (.pu 3 (.pu 4 (.pu 7 (.pu 8 (.pu 11 (.pu 12 (.ef 2 [4, 8, 12] (.ef 5 [8, 12] (.pu 6 (.ef 9 [12] (.pu 10 (.ef 13 [] (.pu 14 (.pu 15 (.nil))))))))))))))))) [[], [0], [0, 1], [], [3], [0, 1, 2, 3, 4], [0, 1, 2, 3, 4, 5], [], [7], [0, 1, 2, 3, 4, 5, 7, 8], [0, 1, 2, 3, 4, 5, 6, 7, 8, 9], [], [11], [0, 1, 2, 3, 4, 5, 7, 8, 9, 11, 12], [0, 1, 2, 3, 4, 5, 6, 7, 8, 9, 10, 11, 12, 13], [0, 1, 2, 3, 4, 5, 6, 7, 8, 9, 10, 11, 12, 13, 14]] (soI [.p (.fa 3 25 (.tmp 1) 0), .p (.ld 4 23 (.tmp 3)), .p (.cl (some 5) 106 [.tmp 4] [23]), .p (.fa 6 25 (.tmp 1) 1), .p (.ld 7 23 (.tmp 6)), .p (.cl (some 8) 106 [.tmp 7] [23]), .p (.bn 9 .add 9 (.tmp 5) (.tmp 8) 9), .p (.fa 10 25 (.tmp 1) 2), .p (.ld 11 23 (.tmp 10)), .p (.cl (some 12) 106 [.tmp 11] [23]), .p (.bn 13 .add 9 (.tmp 9) (.tmp 12) 9), .p (.fa 14 25 (.tmp 1) 3), .p (.ld 15 23 (.tmp 14)), .p (.cl (some 16) 106 [.tmp 15] [23]), .p (.bn 17 .add 9 (.tmp 13) (.tmp 16) 9), .p (.as 2 (.tmp 17))]) [[], [0], [1], [], [3], [4, 2], [2, 5], [], [7], [8, 5], [6, 9], [], [11], [12, 9], [10, 13], [14, 13, 0, 1, 2, 3, 4, 5, 6, 7, 8, 9, 10, 11, 12, 13, 14]] = true := by kernel_rfl

@[go_sem] def c157 : SC J := .sq [1, 2] (.reg [.p (.bx 3 190 (.tmp 0)), .p (.as 6 (.const (.slice none 0 0)))])
 (.sq [6] (.reg [.p (.mv 7 (.tmp 1)), .p (.mv 8 (.tmp 2)), .p (.bn 9 .shr 23 (.tmp 8) (.const (.int .u64 56)) 170), .p (.cv 10 23 5 (.tmp 9)), .p (.mv 11 (.tmp 2)), .p (.bn 12 .shr 23 (.tmp 11) (.const (.int .u64 48)) 170), .p (.cv 13 23 5 (.tmp 12)), .p (.mv 14 (.tmp 2)), .p (.bn 15 .shr 23 (.tmp 14) (.const (.int .u64 40)) 170), .p (.cv 16 23 5 (.tmp 15)), .p (.mv 17 (.tmp 2)), .p (.bn 18 .shr 23 (.tmp 17) (.const (.int .u64 32)) 170), .p (.cv 19 23 5 (.tmp 18)), .p (.mv 20 (.tmp 2)), .p (.bn 21 .shr 23 (.tmp 20) (.const (.int .u64 24)) 170), .p (.cv 22 23 5 (.tmp 21)), .p (.mv 23 (.tmp 2)), .p (.bn 24 .shr 23 (.tmp 23) (.const (.int .u64 16)) 170), .p (.cv 25 23 5 (.tmp 24)), .p (.mv 26 (.tmp 2)), .p (.bn 27 .shr 23 (.tmp 26) (.const (.int .u64 8)) 170), .p (.cv 28 23 5 (.tmp 27)), .p (.mv 29 (.tmp 2)), .p (.cv 30 23 5 (.tmp 29)), .p (.bs 31 22 8 [(0, .tmp 10), (1, .tmp 13), (2, .tmp 16), (3, .tmp 19), (4, .tmp 22), (5, .tmp 25), (6, .tmp 28), (7, .tmp 30)]), .p (.ap (some 32) 22 22 (.tmp 7) (.tmp 31)), .p (.as 6 (.tmp 32))])
  (.ret))
theorem b157 : BodyOK Try.prog 157 c157 33 [.tmp 6] := ⟨Try.f157, by kernel_rfl, by kernel_rfl, by kernel_rfl, by kernel_rfl, by kernel_rfl⟩

@[go_sem] def c148 : SC J := .sq [1] (.reg [.p (.bx 1 25 (.tmp 0)), .p (.as 2 (.const (.string { data := #[] })))])
 (.sq [1, 3] (.reg [.p (.as 3 (.const (.slice none 0 0)))])
  (.sq [3] (.sq [3, 14, 15, 16] (.reg [.p (.fa 6 25 (.tmp 1) 0), .p (.ld 7 23 (.tmp 6)), .p (.fa 8 25 (.tmp 1) 1), .p (.ld 9 23 (.tmp 8)), .p (.fa 10 25 (.tmp 1) 2), .p (.ld 11 23 (.tmp 10)), .p (.fa 12 25 (.tmp 1) 3), .p (.ld 13 23 (.tmp 12)), .p (.bs 14 193 4 [(0, .tmp 7), (1, .tmp 9), (2, .tmp 11), (3, .tmp 13)]), .p (.ln 15 193 (.tmp 14)), .p (.mv 16 (.const (.int .i64 0)))])
    (.block 0 (.lp [3, 14, 15, 16] (.sq [3, 14, 15, 16, 17] (.reg [.p (.bn 17 .lss 3 (.tmp 16) (.tmp 15) 3)])
       (.sq [3, 14, 15, 16] (.cond (.tmp 17)
         (.skip)
         (.exit 0))
        (.sq [3, 14, 15, 16] (.block 1 (.sq [3, 5, 14, 15, 16] (.reg [.p (.ia 18 193 (.tmp 14) (.tmp 16)), .p (.ld 19 23 (.tmp 18)), .p (.as 5 (.tmp 19))])
           (.reg [.p (.lz 20 190 0), .p (.mv 21 (.tmp 3)), .p (.mv 22 (.tmp 5)), .p (.cm (some 23) 157 [false, true, false] [.tmp 20, .tmp 21, .tmp 22] [190, 22, 23]), .p (.as 3 (.tmp 23))])))
         (.reg [.p (.bn 24 .add 3 (.tmp 16) (.const (.int .i64 1)) 3), .p (.mv 16 (.tmp 24))])))))))
   (.sq [2] (.reg [.p (.mv 25 (.tmp 3)), .p (.cv 26 22 9 (.tmp 25)), .p (.as 2 (.tmp 26))])
    (.ret))))
theorem b148 : BodyOK Try.prog 148 c148 27 [.tmp 2] := ⟨Try.f148, by kernel_rfl, by kernel_rfl, by kernel_rfl, by kernel_rfl, by kernel_rfl⟩

theorem bytes_back (l : List UInt8) : bytesOf (l.map byteC) = some l := by
  induction l with
  | nil => rfl
  | cons a l ih => simp [bytesOf, byteC, ih]
theorem c106_c (v : Nat) (hv : v < 18446744073709551616) : CallR Try.prog 106 [vU v] (vS (numB v 8)) [] := by
  refine callR_of_jv b106 rfl ?_
  simp -implicitDefEqProofs only [go_sem]
  refine jv_lp (fun m z => ∃ j, j ≤ 8 ∧ m = 8 - j ∧ z = ⟨21, [(0, vU v), (3, .blk 3 0 [] 1 0 (low (v / 256 ^ (8 - j)) j).length), (4, vI (7 - (j : Int)))], [(3, 0, one ⟨1, (low (v / 256 ^ (8 - j)) j).map byteC, 2, false⟩)], 1⟩) 8 ?_ ?_
  · simp -implicitDefEqProofs only [go_sem]
    exact ⟨0, by omega, rfl, rfl⟩
  · rintro m z ⟨j, hj, rfl, rfl⟩
    rcases Nat.lt_or_ge j 8 with hlt | hge
    · have hge0 : 7 - (j : Int) ≥ 0 := by omega
      have e1 : IntKind.i64.wrap (8 * (7 - (j : Int))) = ((8 * (7 - j) : Nat) : Int) := by rw [wrS (by omega)]; omega
      have e2 : IntKind.u64.wrap ((8 * (7 - j) : Nat) : Int) = ((8 * (7 - j) : Nat) : Int) := u64_wrap _ (by omega)
      have e3 : ¬ (((8 * (7 - j) : Nat) : Int) < 0) := by omega
      have e4 : 8 * (7 - j) ≤ 64 := by omega
      have e5 : ((v : Int)).fdiv (2 ^ (8 * (7 - j))) = ((v / 256 ^ (7 - j) : Nat) : Int) := by
        have hp : (2 : Int) ^ (8 * (7 - j)) = ((256 ^ (7 - j) : Nat) : Int) := by
          rw [Int.pow_mul]
          simp
        rw [hp, Int.fdiv_eq_ediv_of_nonneg _ (Int.natCast_nonneg _)]
        rfl
      have e6 : IntKind.u8.wrap ((v / 256 ^ (7 - j) : Nat) : Int) = ((v / 256 ^ (7 - j) % 256 : Nat) : Int) := by
        generalize v / 256 ^ (7 - j) = q
        have h8 : IntKind.u8.bits = 8 := rfl
        have hs : IntKind.u8.signed = false := rfl
        simp only [IntKind.wrap, h8, hs, Bool.false_and, Bool.false_eq_true, if_false]
        omega
      have e7 : IntKind.i64.wrap (7 - (j : Int) - 1) = 7 - ((j + 1 : Nat) : Int) := by rw [wrS (by omega)]; omega
      have ha : ∀ x, _ := fun x => app_ok (E := byteC) (l := low (v / 256 ^ (8 - j)) j) (xs := [x]) (b := 1) (n := 100) (by simp [low_len]; omega) (by omega) (by omega)
      simp -implicitDefEqProofs only [go_sem, hge0, e1, e2, e3, e4, e5, e6, e7, ha]
      have hst : low (v / 256 ^ (8 - (j + 1))) (j + 1) = low (v / 256 ^ (8 - j)) j ++ [UInt8.ofNat (v / 256 ^ (7 - j) % 256)] := by
        rw [show 8 - (j + 1) = 7 - j by omega, low_snoc, Nat.div_div_eq_div_mul, ← Nat.pow_succ, show (7 - j).succ = 8 - j by omega]
      exact ⟨_, by omega, j + 1, hlt, rfl, by rw [hst]; simp [byteC]⟩
    · have hj : j = 8 := by omega
      subst hj
      have hge0 : ¬ (7 - ((8 : Nat) : Int) ≥ 0) := by omega
      simp -implicitDefEqProofs only [go_sem, hge0, bytes_back]
      have e : (⟨(low (v / 256 ^ 0) 8).toArray⟩ : ByteArray) = numB v 8 := by
        have := numB_low v 8
        rw [show v / 256 ^ 0 = v by simp, ← this]
      rw [e]
structure MDig.ok (d : MDig) : Prop where
  a : d.a < 18446744073709551616
  b : d.b < 18446744073709551616
  c : d.c < 18446744073709551616
  d : d.d < 18446744073709551616
def MDig.bytes (d : MDig) : ByteArray := numB d.a 8 ++ numB d.b 8 ++ numB d.c 8 ++ numB d.d 8
theorem u8_mod (q : Nat) : IntKind.u8.wrap (q : Int) = ((q % 256 : Nat) : Int) := by
  have h8 : IntKind.u8.bits = 8 := rfl
  have hs : IntKind.u8.signed = false := rfl
  simp only [IntKind.wrap, h8, hs, Bool.false_and, Bool.false_eq_true, if_false]
  omega
theorem u8_shr (v : Nat) {m : Nat} (j : Nat) (h : m = 8 * j) : IntKind.u8.wrap ((v : Int).fdiv (2 ^ m)) = ((v / 256 ^ j % 256 : Nat) : Int) := by
  subst h
  have hp : (2 : Int) ^ (8 * j) = ((256 ^ j : Nat) : Int) := by
    rw [Int.pow_mul]
    simp
  rw [hp, Int.fdiv_eq_ediv_of_nonneg _ (Int.natCast_nonneg _)]
  exact u8_mod _
theorem c57_c (d : MDig) (h : d.ok) : CallR Try.prog 57 [.agg d.cs] (vS d.bytes) [] := by
  refine callR_of_jv b57 rfl ?_
  have hs : ∀ v, (numB v 8).size = 8 := fun v => numB_size v 8
  have hsz : ∀ a b c d : Nat, ¬ ((((numB a 8).size + (numB b 8).size : Nat) : Int) > 9223372036854775807) ∧ ¬ ((((numB a 8).size + (numB b 8).size + (numB c 8).size : Nat) : Int) > 9223372036854775807) ∧ ¬ ((((numB a 8).size + (numB b 8).size + (numB c 8).size + (numB d 8).size : Nat) : Int) > 9223372036854775807) := by
    intro a b c d
    simp only [hs]
    omega
  simp -implicitDefEqProofs only [go_sem]
  repeat' first | (refine Want.intro (by first | exact c106_c _ h.a | exact c106_c _ h.b | exact c106_c _ h.c | exact c106_c _ h.d) ?_; try simp -implicitDefEqProofs only [go_sem, (hsz d.a d.b d.c d.d).1, (hsz d.a d.b d.c d.d).2.1, (hsz d.a d.b d.c d.d).2.2]) | (refine WantM.intro (by first | exact c106_c _ h.a | exact c106_c _ h.b | exact c106_c _ h.c | exact c106_c _ h.d) ?_; try simp -implicitDefEqProofs only [go_sem, (hsz d.a d.b d.c d.d).1, (hsz d.a d.b d.c d.d).2.1, (hsz d.a d.b d.c d.d).2.2]) | (refine guardP_intro (fun h => ?_) (fun h => ?_) <;> try simp -implicitDefEqProofs only [go_sem, (hsz d.a d.b d.c d.d).1, (hsz d.a d.b d.c d.d).2.1, (hsz d.a d.b d.c d.d).2.2, h]) | (refine condJ_intro (fun h => ?_) (fun h => ?_) <;> try simp -implicitDefEqProofs only [go_sem, (hsz d.a d.b d.c d.d).1, (hsz d.a d.b d.c d.d).2.1, (hsz d.a d.b d.c d.d).2.2, h])
  rfl
theorem c157_c (l : List UInt8) (v : Nat) (hl : l.length ≤ 1000000) : CallM Try.prog 157 [(1000000, 0, one ⟨1, l.map byteC, 2, false⟩)] [.agg [], .blk 1000000 0 [] 1 0 l.length, vU v] (.blk 0 0 [] 1 0 (l ++ low v 8).length) [(0, 0, one ⟨1, (l ++ low v 8).map byteC, 2, false⟩)] := by
  refine callM_of_jv b157 rfl ?_
  have e0 := u8_mod v
  have e7 := u8_shr v (m := 56) 7 rfl
  have e6 := u8_shr v (m := 48) 6 rfl
  have e5 := u8_shr v (m := 40) 5 rfl
  have e4 := u8_shr v (m := 32) 4 rfl
  have e3 := u8_shr v (m := 24) 3 rfl
  have e2 := u8_shr v (m := 16) 2 rfl
  have e1 := u8_shr v (m := 8) 1 rfl
  have ha : ∀ x0 x1 x2 x3 x4 x5 x6 x7, _ := fun x0 x1 x2 x3 x4 x5 x6 x7 => app_ok (E := byteC) (l := l) (xs := [x0, x1, x2, x3, x4, x5, x6, x7]) (b := 1) (n := 10000000) (by simp; omega) (by omega) (by omega)
  simp -implicitDefEqProofs only [go_sem, e0, e1, e2, e3, e4, e5, e6, e7, ha]
  simp [low, byteC]
def MDig.bk (d : MDig) : Nat → List UInt8
  | 0 => []
  | 1 => low d.a 8
  | 2 => low d.a 8 ++ low d.b 8
  | 3 => low d.a 8 ++ low d.b 8 ++ low d.c 8
  | _ => low d.a 8 ++ low d.b 8 ++ low d.c 8 ++ low d.d 8
theorem MDig.bytes_bk (d : MDig) : d.bytes = ⟨(d.bk 4).toArray⟩ := by
  unfold MDig.bytes MDig.bk
  apply ByteArray.ext
  apply Array.toList_inj.1
  simp [ByteArray.data_append, Array.toList_append, numB_low]
theorem low8 (v : Nat) : (low v 8).length = 8 := low_len v 8
theorem MDig.bk_len (d : MDig) {i : Nat} (h : i ≤ 4) : (d.bk i).length = 8 * i := by
  have hi' : i = 0 ∨ i = 1 ∨ i = 2 ∨ i = 3 ∨ i = 4 := by omega
  rcases hi' with rfl | rfl | rfl | rfl | rfl <;> simp [MDig.bk, low8]
theorem c148_c (d : MDig) : CallR Try.prog 148 [.agg d.cs] (vS d.bytes) [] := by
  refine callR_of_jv b148 rfl ?_
  simp -implicitDefEqProofs only [go_sem]
  refine jv_lpN [(3, 1)] (fun m s => ∃ i, i ≤ 4 ∧ m = 4 - i ∧ s = ⟨27, [(3, .blk 3 0 [] 1 0 (d.bk i).length), (14, .blk 14 0 [] 1 0 4), (15, vI 4), (16, vI i)], [(3, 0, one ⟨1, (d.bk i).map byteC, 2, false⟩), (14, 0, one ⟨1, [[vU d.a], [vU d.b], [vU d.c], [vU d.d]], 2, false⟩)], 1⟩) 4 ?_ ?_
  · simp -implicitDefEqProofs only [go_sem]
    exact ⟨0, by omega, rfl, rfl⟩
  · rintro m s ⟨i, hi, rfl, rfl⟩
    rcases Nat.lt_or_ge i 4 with hlt | hge
    · have hlt' : (i : Int) < 4 := by omega
      have w4 : IntKind.i64.wrap ((i : Int) + 1) = ((i + 1 : Nat) : Int) := by rw [wrS (by omega)]; omega
      obtain ⟨w, hg, hk⟩ : ∃ w, ([[vU d.a], [vU d.b], [vU d.c], [vU d.d]] : List (List AV))[i]? = some [vU w] ∧ d.bk (i + 1) = d.bk i ++ low w 8 := by
        have hi' : i = 0 ∨ i = 1 ∨ i = 2 ∨ i = 3 := by omega
        rcases hi' with rfl | rfl | rfl | rfl
        · exact ⟨d.a, rfl, rfl⟩
        · exact ⟨d.b, rfl, rfl⟩
        · exact ⟨d.c, rfl, rfl⟩
        · exact ⟨d.d, rfl, rfl⟩
      have hb := d.bk_len (i := i) (by omega)
      simp -implicitDefEqProofs only [go_sem, hlt', Int.cast_ofNat_Int, hg]
      refine WantM.intro (c157_c (d.bk i) w (by omega)) ?_
      simp -implicitDefEqProofs only [go_sem, w4]
      exact ⟨_, by omega, i + 1, hlt, rfl, by rw [hk]⟩
    · have hi4 : i = 4 := by omega
      subst hi4
      have hlt' : ¬ (((4 : Nat) : Int) < 4) := by omega
      simp -implicitDefEqProofs only [go_sem, hlt', bytes_back]
      rw [d.bytes_bk]
end Go.Proofs.Ytkhemolkhegppaa.E
