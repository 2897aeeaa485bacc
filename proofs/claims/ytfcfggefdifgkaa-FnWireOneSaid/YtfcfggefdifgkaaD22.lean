/-
  The law of WireOne.
-/
import Derived.Test.YtfcfggefdifgkaaD20
import Derived.Test.YtfcfggefdifgkaaD21
namespace Go.Proofs.Ytfcfggefdifgkaa.E
open Go Go.RowKit
set_option maxHeartbeats 4000000
set_option maxRecDepth 10000
set_option linter.unusedSimpArgs false
set_option linter.unusedVariables false
set_option linter.unusedSectionVars false
@[go_sem] def c31 : SC J := .sq [0] (.reg [.p (.as 2 (.const (.string { data := #[] })))])
 (.sq [0] (.sq [0, 5] (.reg [.p (.mv 3 (.tmp 0)), .p (.cl (some 4) 55 [.tmp 3, .const (.int .i64 1), .const (.int .i64 8)] [3, 3, 3]), .p (.un 5 .not 4 (.tmp 4))])
   (.cond (.tmp 5)
    (.sq [2] (.reg [.p (.as 2 (.const (.string { data := #[] })))])
     (.ret))
    (.skip)))
  (.sq [2] (.reg [.p (.bs 6 26 9 [(0, .const (.string { data := #[] })), (1, .const (.string { data := #[97, 115, 107] })), (2, .const (.string { data := #[104, 101, 97, 100] })), (3, .const (.string { data := #[118, 111, 117, 99, 104] })), (4, .const (.string { data := #[112, 114, 111, 118, 101] })), (5, .const (.string { data := #[103, 114, 111, 119, 116, 104] })), (6, .const (.string { data := #[97, 99, 107] })), (7, .const (.string { data := #[102, 101, 116, 99, 104] })), (8, .const (.string { data := #[114, 97, 110, 103, 101] }))]), .p (.mv 7 (.tmp 0)), .p (.ia 8 26 (.tmp 6) (.tmp 7)), .p (.ld 9 9 (.tmp 8)), .p (.as 2 (.tmp 9))])
   (.ret)))
theorem b31 : BodyOK Try.prog 31 c31 10 [.tmp 2] := ⟨Try.f31, by kernel_rfl, by kernel_rfl, by kernel_rfl, by kernel_rfl, by kernel_rfl⟩

@[go_sem] def c7 : SC J := .sq [0] (.reg [.p (.as 2 (.const (.bool false)))])
 (.sq [0] (.sq [0, 10] (.reg [.p (.mv 8 (.tmp 0)), .p (.ln 9 37 (.tmp 8)), .p (.bn 10 .gtr 3 (.tmp 9) (.const (.int .i64 1048576)) 3)])
   (.cond (.tmp 10)
    (.sq [2] (.reg [.p (.as 2 (.const (.bool true)))])
     (.ret))
    (.skip)))
  (.sq [3] (.reg [.p (.mv 11 (.tmp 0)), .p (.cm (some 12) 30 [false] [.tmp 11] [37]), .p (.as 3 (.tmp 12))])
   (.sq [3, 4, 5] (.reg [.p (.mv 14 (.tmp 3)), .p (.cm (some 15) 12 [false] [.tmp 14] [9]), .p (.mv 13 (.tmp 15)), .p (.ex 16 (.tmp 13) 0), .p (.ex 17 (.tmp 13) 1), .p (.al 4 28), .p (.al 5 30), .p (.st 28 (.tmp 4) (.tmp 16)), .p (.st 30 (.tmp 5) (.tmp 17))])
    (.sq [3, 4, 5, 7] (.reg [.p (.mv 19 (.tmp 3)), .p (.cl (some 20) 11 [.tmp 19] [9]), .p (.mv 18 (.tmp 20)), .p (.ex 21 (.tmp 18) 0), .p (.ex 22 (.tmp 18) 1), .p (.al 6 28), .p (.al 7 30), .p (.st 28 (.tmp 6) (.tmp 21)), .p (.st 30 (.tmp 7) (.tmp 22))])
     (.sq [3, 4, 5] (.sq [3, 4, 5, 25] (.reg [.p (.ld 23 30 (.tmp 5)), .p (.ld 24 30 (.tmp 7)), .p (.bn 25 .neq 30 (.tmp 23) (.tmp 24) 30)])
       (.cond (.tmp 25)
        (.sq [2] (.reg [.p (.as 2 (.const (.bool false)))])
         (.ret))
        (.skip)))
      (.sq [3, 4] (.sq [3, 4, 28] (.reg [.p (.fa 26 30 (.tmp 5) 0), .p (.ld 27 3 (.tmp 26)), .p (.bn 28 .neq 3 (.tmp 27) (.const (.int .i64 0)) 3)])
        (.cond (.tmp 28)
         (.sq [2] (.reg [.p (.ld 29 28 (.tmp 4)), .p (.bd 30 28 []), .p (.cl (some 31) 21 [.tmp 29, .tmp 30] [28, 28]), .p (.as 2 (.tmp 31))])
          (.ret))
         (.skip)))
       (.sq [2] (.reg [.p (.ld 32 28 (.tmp 4)), .p (.cl (some 33) 20 [.tmp 32] [28]), .p (.mv 34 (.tmp 33)), .g 34 true (.ld 35 28 (.tmp 4)), .g 34 true (.cl (some 36) 18 [.tmp 35] [28]), .g 34 true (.mv 37 (.tmp 3)), .g 34 true (.bn 38 .eql 9 (.tmp 36) (.tmp 37) 9), .p (.pk 39 (.tmp 34) (.tmp 38) (.const (.bool false))), .p (.mv 40 (.tmp 39)), .g 40 true (.fa 41 28 (.tmp 4) 0), .g 40 true (.ld 42 3 (.tmp 41)), .g 40 true (.cl (some 43) 31 [.tmp 42] [3]), .g 40 true (.bn 44 .neq 9 (.tmp 43) (.const (.string { data := #[] })) 9), .p (.pk 45 (.tmp 40) (.tmp 44) (.const (.bool false))), .p (.as 2 (.tmp 45))])
        (.ret))))))))
theorem b7 : BodyOK Try.prog 7 c7 46 [.tmp 2] := ⟨Try.f7, by kernel_rfl, by kernel_rfl, by kernel_rfl, by kernel_rfl, by kernel_rfl⟩

theorem sameD0 : CallR Try.prog 77 [.ro 4 [], .nilS] (vB true) [] := by
  refine callR_of_jv b77 rfl ?_
  have h0 : (((0 : Nat) : Int) != ((0 : Nat) : Int)) = false := rfl
  have h1 : ((0 : Int) != (0 : Int)) = false := rfl
  have h2 : (((0 : Nat) : Int) != (0 : Int)) = false := rfl
  have hlt' : ¬ ((0 : Int) < ((0 : Nat) : Int)) := by omega
  simp -implicitDefEqProofs only [go_sem, Nat.reduceBEq, Nat.reduceAdd, Nat.reduceSub, Nat.reduceMul, Nat.reduceMod, Nat.reduceDiv, Nat.reduceLT, Nat.reduceLeDiff, Int.reduceEq, Int.reduceLT, Int.reduceLE, Int.reduceToNat, Int.reduceBNe, Int.reduceBEq, reduceCtorEq, h0, h1, h2, condJ_false]
  refine jv_lp (fun m s => m = 0 ∧ s = ⟨26, [(0, .ro 4 []), (1, .nilS), (5, vI 0)], [], 1⟩) 0 ?_ ?_
  · simp -implicitDefEqProofs only [go_sem, Nat.reduceBEq, Nat.reduceAdd, Nat.reduceSub, Nat.reduceMul, Nat.reduceMod, Nat.reduceDiv, Nat.reduceLT, Nat.reduceLeDiff, Int.reduceEq, Int.reduceLT, Int.reduceLE, Int.reduceToNat, Int.reduceBNe, Int.reduceBEq, reduceCtorEq]
  · rintro m s ⟨rfl, rfl⟩
    simp -implicitDefEqProofs only [go_sem, Nat.reduceBEq, Nat.reduceAdd, Nat.reduceSub, Nat.reduceMul, Nat.reduceMod, Nat.reduceDiv, Nat.reduceLT, Nat.reduceLeDiff, Int.reduceEq, Int.reduceLT, Int.reduceLE, Int.reduceToNat, Int.reduceBNe, Int.reduceBEq, reduceCtorEq, hlt']
theorem sameT0 : CallR Try.prog 78 [.ro 1 [], .nilS] (vB true) [] := by
  refine callR_of_jv b78 rfl ?_
  have h0 : (((0 : Nat) : Int) != ((0 : Nat) : Int)) = false := rfl
  have h1 : ((0 : Int) != (0 : Int)) = false := rfl
  have h2 : (((0 : Nat) : Int) != (0 : Int)) = false := rfl
  have hlt' : ¬ ((0 : Int) < ((0 : Nat) : Int)) := by omega
  simp -implicitDefEqProofs only [go_sem, Nat.reduceBEq, Nat.reduceAdd, Nat.reduceSub, Nat.reduceMul, Nat.reduceMod, Nat.reduceDiv, Nat.reduceLT, Nat.reduceLeDiff, Int.reduceEq, Int.reduceLT, Int.reduceLE, Int.reduceToNat, Int.reduceBNe, Int.reduceBEq, reduceCtorEq, h0, h1, h2, condJ_false]
  refine jv_lp (fun m s => m = 0 ∧ s = ⟨26, [(0, .ro 1 []), (1, .nilS), (5, vI 0)], [], 1⟩) 0 ?_ ?_
  · simp -implicitDefEqProofs only [go_sem, Nat.reduceBEq, Nat.reduceAdd, Nat.reduceSub, Nat.reduceMul, Nat.reduceMod, Nat.reduceDiv, Nat.reduceLT, Nat.reduceLeDiff, Int.reduceEq, Int.reduceLT, Int.reduceLE, Int.reduceToNat, Int.reduceBNe, Int.reduceBEq, reduceCtorEq]
  · rintro m s ⟨rfl, rfl⟩
    simp -implicitDefEqProofs only [go_sem, Nat.reduceBEq, Nat.reduceAdd, Nat.reduceSub, Nat.reduceMul, Nat.reduceMod, Nat.reduceDiv, Nat.reduceLT, Nat.reduceLeDiff, Int.reduceEq, Int.reduceLT, Int.reduceLE, Int.reduceToNat, Int.reduceBNe, Int.reduceBEq, reduceCtorEq, hlt']
def zAg : AV := .agg [vI 0, vI 0, vI 0, vI 0, .sc (.int .u64 0), .sc (.int .u64 0), .sc (.int .u64 0), .sc (.int .u64 0), vI 0, .nilS, .nilS]
attribute [go_sem] zAg
theorem sameZ : CallR Try.prog 21 [MMsg.zero.ro, zAg] (vB true) [] := by
  refine callR_of_jv b21 rfl ?_
  have h1 : (((0 : Nat) : Int) == 0) = true := rfl
  simp -implicitDefEqProofs only [go_sem, Nat.reduceBEq, Nat.reduceAdd, Nat.reduceSub, Nat.reduceMul, Nat.reduceMod, Nat.reduceDiv, Nat.reduceLT, Nat.reduceLeDiff, Int.reduceEq, Int.reduceLT, Int.reduceLE, Int.reduceToNat, Int.reduceBNe, Int.reduceBEq, reduceCtorEq, MMsg.zero, h1]
  refine Want.intro sameD0 ?_
  simp -implicitDefEqProofs only [go_sem, Nat.reduceBEq, Nat.reduceAdd, Nat.reduceSub, Nat.reduceMul, Nat.reduceMod, Nat.reduceDiv, Nat.reduceLT, Nat.reduceLeDiff, Int.reduceEq, Int.reduceLT, Int.reduceLE, Int.reduceToNat, Int.reduceBNe, Int.reduceBEq, reduceCtorEq]
  refine Want.intro sameT0 ?_
  simp -implicitDefEqProofs only [go_sem, Nat.reduceBEq, Nat.reduceAdd, Nat.reduceSub, Nat.reduceMul, Nat.reduceMod, Nat.reduceDiv, Nat.reduceLT, Nat.reduceLeDiff, Int.reduceEq, Int.reduceLT, Int.reduceLE, Int.reduceToNat, Int.reduceBNe, Int.reduceBEq, reduceCtorEq]
theorem toL_loop (s : ByteArray) : ∀ (n i : Nat) (r : List UInt8), s.size - i = n → ByteArray.toList.loop s i r = r.reverse ++ s.data.toList.drop i
  | 0, i, r, h => by
    rw [ByteArray.toList.loop, if_neg (by omega), List.drop_of_length_le (by rw [Array.length_toList]; show s.size ≤ i; omega), List.append_nil]
  | n + 1, i, r, h => by
    have hi : i < s.data.toList.length := by rw [Array.length_toList]; show i < s.size; omega
    have hi' : i < s.data.size := by show i < s.size; omega
    rw [ByteArray.toList.loop, if_pos (by omega), toL_loop s n (i + 1) _ (by omega), List.drop_eq_getElem_cons hi]
    have : s.get! i = s.data.toList[i] := by
      show s.data[i]! = _
      rw [getElem!_pos s.data i hi']
      simp
    rw [this]
    simp
theorem toL (s : ByteArray) : s.toList = s.data.toList := by
  have := toL_loop s _ 0 [] rfl
  simpa [ByteArray.toList] using this
theorem tlL {s : ByteArray} (h : 0 < s.size) : (s.toList == []) = false := by
  rw [toL]
  have : 0 < s.data.toList.length := by rw [Array.length_toList]; exact h
  cases hs : s.data.toList with
  | nil => rw [hs] at this; simp at this
  | cons a l => rfl
theorem wireName (k : Int) (h : mIn k 1 8 = true) : ∃ s : ByteArray, (s.toList == []) = false ∧ CallR Try.prog 31 [vI k] (vS s) [] := by
  have hs : ∀ i : Nat, i < 9 → (i : Int) < ((9 : Nat) : Int) := fun i h => by omega
  rcases kinds k with rfl | rfl | rfl | rfl | rfl | rfl | rfl | rfl | ⟨h1, h2, h3, h4, h5, h6, h7, h8⟩
  case inr.inr.inr.inr.inr.inr.inr.inr => simp [mIn] at h; omega
  · refine ⟨⟨#[97, 115, 107]⟩, tlL (by decide), callR_of_jv b31 rfl ?_⟩
    simp -implicitDefEqProofs only [go_sem, Nat.reduceBEq, Nat.reduceAdd, Nat.reduceSub, Nat.reduceMul, Nat.reduceMod, Nat.reduceDiv, Nat.reduceLT, Nat.reduceLeDiff, Int.reduceEq, Int.reduceLT, Int.reduceLE, Int.reduceToNat, Int.reduceBNe, Int.reduceBEq, reduceCtorEq]
    refine Want.intro (c55_c _ _ _) ?_
    simp -implicitDefEqProofs only [go_sem, Nat.reduceBEq, Nat.reduceAdd, Nat.reduceSub, Nat.reduceMul, Nat.reduceMod, Nat.reduceDiv, Nat.reduceLT, Nat.reduceLeDiff, Int.reduceEq, Int.reduceLT, Int.reduceLE, Int.reduceToNat, Int.reduceBNe, Int.reduceBEq, reduceCtorEq, h, condJ_false, Int.cast_ofNat_Int]
  · refine ⟨⟨#[104, 101, 97, 100]⟩, tlL (by decide), callR_of_jv b31 rfl ?_⟩
    simp -implicitDefEqProofs only [go_sem, Nat.reduceBEq, Nat.reduceAdd, Nat.reduceSub, Nat.reduceMul, Nat.reduceMod, Nat.reduceDiv, Nat.reduceLT, Nat.reduceLeDiff, Int.reduceEq, Int.reduceLT, Int.reduceLE, Int.reduceToNat, Int.reduceBNe, Int.reduceBEq, reduceCtorEq]
    refine Want.intro (c55_c _ _ _) ?_
    simp -implicitDefEqProofs only [go_sem, Nat.reduceBEq, Nat.reduceAdd, Nat.reduceSub, Nat.reduceMul, Nat.reduceMod, Nat.reduceDiv, Nat.reduceLT, Nat.reduceLeDiff, Int.reduceEq, Int.reduceLT, Int.reduceLE, Int.reduceToNat, Int.reduceBNe, Int.reduceBEq, reduceCtorEq, h, condJ_false, Int.cast_ofNat_Int]
  · refine ⟨⟨#[118, 111, 117, 99, 104]⟩, tlL (by decide), callR_of_jv b31 rfl ?_⟩
    simp -implicitDefEqProofs only [go_sem, Nat.reduceBEq, Nat.reduceAdd, Nat.reduceSub, Nat.reduceMul, Nat.reduceMod, Nat.reduceDiv, Nat.reduceLT, Nat.reduceLeDiff, Int.reduceEq, Int.reduceLT, Int.reduceLE, Int.reduceToNat, Int.reduceBNe, Int.reduceBEq, reduceCtorEq]
    refine Want.intro (c55_c _ _ _) ?_
    simp -implicitDefEqProofs only [go_sem, Nat.reduceBEq, Nat.reduceAdd, Nat.reduceSub, Nat.reduceMul, Nat.reduceMod, Nat.reduceDiv, Nat.reduceLT, Nat.reduceLeDiff, Int.reduceEq, Int.reduceLT, Int.reduceLE, Int.reduceToNat, Int.reduceBNe, Int.reduceBEq, reduceCtorEq, h, condJ_false, Int.cast_ofNat_Int]
  · refine ⟨⟨#[112, 114, 111, 118, 101]⟩, tlL (by decide), callR_of_jv b31 rfl ?_⟩
    simp -implicitDefEqProofs only [go_sem, Nat.reduceBEq, Nat.reduceAdd, Nat.reduceSub, Nat.reduceMul, Nat.reduceMod, Nat.reduceDiv, Nat.reduceLT, Nat.reduceLeDiff, Int.reduceEq, Int.reduceLT, Int.reduceLE, Int.reduceToNat, Int.reduceBNe, Int.reduceBEq, reduceCtorEq]
    refine Want.intro (c55_c _ _ _) ?_
    simp -implicitDefEqProofs only [go_sem, Nat.reduceBEq, Nat.reduceAdd, Nat.reduceSub, Nat.reduceMul, Nat.reduceMod, Nat.reduceDiv, Nat.reduceLT, Nat.reduceLeDiff, Int.reduceEq, Int.reduceLT, Int.reduceLE, Int.reduceToNat, Int.reduceBNe, Int.reduceBEq, reduceCtorEq, h, condJ_false, Int.cast_ofNat_Int]
  · refine ⟨⟨#[103, 114, 111, 119, 116, 104]⟩, tlL (by decide), callR_of_jv b31 rfl ?_⟩
    simp -implicitDefEqProofs only [go_sem, Nat.reduceBEq, Nat.reduceAdd, Nat.reduceSub, Nat.reduceMul, Nat.reduceMod, Nat.reduceDiv, Nat.reduceLT, Nat.reduceLeDiff, Int.reduceEq, Int.reduceLT, Int.reduceLE, Int.reduceToNat, Int.reduceBNe, Int.reduceBEq, reduceCtorEq]
    refine Want.intro (c55_c _ _ _) ?_
    simp -implicitDefEqProofs only [go_sem, Nat.reduceBEq, Nat.reduceAdd, Nat.reduceSub, Nat.reduceMul, Nat.reduceMod, Nat.reduceDiv, Nat.reduceLT, Nat.reduceLeDiff, Int.reduceEq, Int.reduceLT, Int.reduceLE, Int.reduceToNat, Int.reduceBNe, Int.reduceBEq, reduceCtorEq, h, condJ_false, Int.cast_ofNat_Int]
  · refine ⟨⟨#[97, 99, 107]⟩, tlL (by decide), callR_of_jv b31 rfl ?_⟩
    simp -implicitDefEqProofs only [go_sem, Nat.reduceBEq, Nat.reduceAdd, Nat.reduceSub, Nat.reduceMul, Nat.reduceMod, Nat.reduceDiv, Nat.reduceLT, Nat.reduceLeDiff, Int.reduceEq, Int.reduceLT, Int.reduceLE, Int.reduceToNat, Int.reduceBNe, Int.reduceBEq, reduceCtorEq]
    refine Want.intro (c55_c _ _ _) ?_
    simp -implicitDefEqProofs only [go_sem, Nat.reduceBEq, Nat.reduceAdd, Nat.reduceSub, Nat.reduceMul, Nat.reduceMod, Nat.reduceDiv, Nat.reduceLT, Nat.reduceLeDiff, Int.reduceEq, Int.reduceLT, Int.reduceLE, Int.reduceToNat, Int.reduceBNe, Int.reduceBEq, reduceCtorEq, h, condJ_false, Int.cast_ofNat_Int]
  · refine ⟨⟨#[102, 101, 116, 99, 104]⟩, tlL (by decide), callR_of_jv b31 rfl ?_⟩
    simp -implicitDefEqProofs only [go_sem, Nat.reduceBEq, Nat.reduceAdd, Nat.reduceSub, Nat.reduceMul, Nat.reduceMod, Nat.reduceDiv, Nat.reduceLT, Nat.reduceLeDiff, Int.reduceEq, Int.reduceLT, Int.reduceLE, Int.reduceToNat, Int.reduceBNe, Int.reduceBEq, reduceCtorEq]
    refine Want.intro (c55_c _ _ _) ?_
    simp -implicitDefEqProofs only [go_sem, Nat.reduceBEq, Nat.reduceAdd, Nat.reduceSub, Nat.reduceMul, Nat.reduceMod, Nat.reduceDiv, Nat.reduceLT, Nat.reduceLeDiff, Int.reduceEq, Int.reduceLT, Int.reduceLE, Int.reduceToNat, Int.reduceBNe, Int.reduceBEq, reduceCtorEq, h, condJ_false, Int.cast_ofNat_Int]
  · refine ⟨⟨#[114, 97, 110, 103, 101]⟩, tlL (by decide), callR_of_jv b31 rfl ?_⟩
    simp -implicitDefEqProofs only [go_sem, Nat.reduceBEq, Nat.reduceAdd, Nat.reduceSub, Nat.reduceMul, Nat.reduceMod, Nat.reduceDiv, Nat.reduceLT, Nat.reduceLeDiff, Int.reduceEq, Int.reduceLT, Int.reduceLE, Int.reduceToNat, Int.reduceBNe, Int.reduceBEq, reduceCtorEq]
    refine Want.intro (c55_c _ _ _) ?_
    simp -implicitDefEqProofs only [go_sem, Nat.reduceBEq, Nat.reduceAdd, Nat.reduceSub, Nat.reduceMul, Nat.reduceMod, Nat.reduceDiv, Nat.reduceLT, Nat.reduceLeDiff, Int.reduceEq, Int.reduceLT, Int.reduceLE, Int.reduceToNat, Int.reduceBNe, Int.reduceBEq, reduceCtorEq, h, condJ_false, Int.cast_ofNat_Int]
theorem wire_bad {s : ByteArray} {m : MMsg} {c a : Int} (h : mWireRead s = (m, c, a)) (hc : ¬ c = 0) : m = .zero := by
  unfold mWireRead at h
  split at h
  · cases h; rfl
  · split at h
    · unfold mEnd at h
      split at h
      · split at h
        · cases h; rfl
        · cases h; exact absurd rfl hc
      · cases h; rfl
    · cases h; rfl
theorem c7_c (l : List UInt8) (hl : l.length ≤ maxLen) : CallR Try.prog 7 [.ro 1 (l.map byteC)] (vB true) [] := by
  refine callR_of_jv b7 rfl ?_
  simp -implicitDefEqProofs only [go_sem, Nat.reduceBEq, Nat.reduceAdd, Nat.reduceSub, Nat.reduceMul, Nat.reduceMod, Nat.reduceDiv, Nat.reduceLT, Nat.reduceLeDiff, Int.reduceEq, Int.reduceLT, Int.reduceLE, Int.reduceToNat, Int.reduceBNe, Int.reduceBEq, reduceCtorEq]
  refine condJ_intro (fun h => ?_) (fun h => ?_)
  · simp -implicitDefEqProofs only [go_sem, Nat.reduceBEq, Nat.reduceAdd, Nat.reduceSub, Nat.reduceMul, Nat.reduceMod, Nat.reduceDiv, Nat.reduceLT, Nat.reduceLeDiff, Int.reduceEq, Int.reduceLT, Int.reduceLE, Int.reduceToNat, Int.reduceBNe, Int.reduceBEq, reduceCtorEq, h]
  · simp -implicitDefEqProofs only [go_sem, Nat.reduceBEq, Nat.reduceAdd, Nat.reduceSub, Nat.reduceMul, Nat.reduceMod, Nat.reduceDiv, Nat.reduceLT, Nat.reduceLeDiff, Int.reduceEq, Int.reduceLT, Int.reduceLE, Int.reduceToNat, Int.reduceBNe, Int.reduceBEq, reduceCtorEq, h]
    obtain ⟨res, σ, ⟨s, ⟨rfl, rfl⟩, hs⟩, hc⟩ := c30_c l hl
    refine WantM.intro hc ?_
    have hI := c12_c s (by omega)
    have hS := c11_c s (by omega)
    have hlen := mWire_len s
    have hinv := wire_inv s
    generalize hW : mWireRead s = W at *
    obtain ⟨m, c, a⟩ := W
    simp only at hlen hinv
    simp -implicitDefEqProofs only [go_sem, Nat.reduceBEq, Nat.reduceAdd, Nat.reduceSub, Nat.reduceMul, Nat.reduceMod, Nat.reduceDiv, Nat.reduceLT, Nat.reduceLeDiff, Int.reduceEq, Int.reduceLT, Int.reduceLE, Int.reduceToNat, Int.reduceBNe, Int.reduceBEq, reduceCtorEq]
    refine WantM.intro hI ?_
    simp -implicitDefEqProofs only [go_sem, Nat.reduceBEq, Nat.reduceAdd, Nat.reduceSub, Nat.reduceMul, Nat.reduceMod, Nat.reduceDiv, Nat.reduceLT, Nat.reduceLeDiff, Int.reduceEq, Int.reduceLT, Int.reduceLE, Int.reduceToNat, Int.reduceBNe, Int.reduceBEq, reduceCtorEq]
    refine Want.intro hS ?_
    simp -implicitDefEqProofs only [go_sem, Nat.reduceBEq, Nat.reduceAdd, Nat.reduceSub, Nat.reduceMul, Nat.reduceMod, Nat.reduceDiv, Nat.reduceLT, Nat.reduceLeDiff, Int.reduceEq, Int.reduceLT, Int.reduceLE, Int.reduceToNat, Int.reduceBNe, Int.reduceBEq, reduceCtorEq, bne_self_eq_false, condJ_false]
    by_cases hc0 : c = 0
    · have k0 : (c != 0) = false := by simpa using hc0
      obtain ⟨i1, i2, i3, i4⟩ := hinv hc0
      obtain ⟨nm, hnm, hcall⟩ := wireName m.kind (WOk.of i1).k
      simp -implicitDefEqProofs only [go_sem, Nat.reduceBEq, Nat.reduceAdd, Nat.reduceSub, Nat.reduceMul, Nat.reduceMod, Nat.reduceDiv, Nat.reduceLT, Nat.reduceLeDiff, Int.reduceEq, Int.reduceLT, Int.reduceLE, Int.reduceToNat, Int.reduceBNe, Int.reduceBEq, reduceCtorEq, k0, condJ_false]
      refine Want.intro (c20_c m (by unfold maxLen; omega)) ?_
      simp -implicitDefEqProofs only [go_sem, Nat.reduceBEq, Nat.reduceAdd, Nat.reduceSub, Nat.reduceMul, Nat.reduceMod, Nat.reduceDiv, Nat.reduceLT, Nat.reduceLeDiff, Int.reduceEq, Int.reduceLT, Int.reduceLE, Int.reduceToNat, Int.reduceBNe, Int.reduceBEq, reduceCtorEq, i1]
      refine Want.intro (c18_c m (by unfold maxLen; omega)) ?_
      simp -implicitDefEqProofs only [go_sem, Nat.reduceBEq, Nat.reduceAdd, Nat.reduceSub, Nat.reduceMul, Nat.reduceMod, Nat.reduceDiv, Nat.reduceLT, Nat.reduceLeDiff, Int.reduceEq, Int.reduceLT, Int.reduceLE, Int.reduceToNat, Int.reduceBNe, Int.reduceBEq, reduceCtorEq, mWireBytes, i1, i4, beq_self_eq_true]
      refine Want.intro hcall ?_
      simp -implicitDefEqProofs only [go_sem, Nat.reduceBEq, Nat.reduceAdd, Nat.reduceSub, Nat.reduceMul, Nat.reduceMod, Nat.reduceDiv, Nat.reduceLT, Nat.reduceLeDiff, Int.reduceEq, Int.reduceLT, Int.reduceLE, Int.reduceToNat, Int.reduceBNe, Int.reduceBEq, reduceCtorEq, hnm]
      try rfl
    · have k0 : (c != 0) = true := by simpa using hc0
      have hz : m = .zero := wire_bad hW hc0
      subst hz
      simp -implicitDefEqProofs only [go_sem, Nat.reduceBEq, Nat.reduceAdd, Nat.reduceSub, Nat.reduceMul, Nat.reduceMod, Nat.reduceDiv, Nat.reduceLT, Nat.reduceLeDiff, Int.reduceEq, Int.reduceLT, Int.reduceLE, Int.reduceToNat, Int.reduceBNe, Int.reduceBEq, reduceCtorEq, k0, condJ_true]
      refine Want.intro sameZ ?_
      simp -implicitDefEqProofs only [go_sem, Nat.reduceBEq, Nat.reduceAdd, Nat.reduceSub, Nat.reduceMul, Nat.reduceMod, Nat.reduceDiv, Nat.reduceLT, Nat.reduceLeDiff, Int.reduceEq, Int.reduceLT, Int.reduceLE, Int.reduceToNat, Int.reduceBNe, Int.reduceBEq, reduceCtorEq]
end Go.Proofs.Ytfcfggefdifgkaa.E
