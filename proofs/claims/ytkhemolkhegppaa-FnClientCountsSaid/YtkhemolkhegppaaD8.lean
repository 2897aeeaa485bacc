/-
  Contracts: parts of messages; numbers in bytes.
-/
import Derived.Test.YtkhemolkhegppaaD7
namespace Go.Proofs.Ytkhemolkhegppaa.E
open Go Go.RowKit
set_option maxHeartbeats 4000000
set_option maxRecDepth 10000
set_option linter.unusedSimpArgs false
set_option linter.unusedVariables false
set_option linter.unusedSectionVars false
@[go_sem] def c55 : SC J := .sq [0, 1] (.reg [.p (.as 4 (.const (.string { data := #[] })))])
 (.sq [0, 1] (.sq [0, 1, 6] (.reg [.p (.mv 5 (.tmp 1)), .p (.bn 6 .lss 3 (.tmp 5) (.const (.int .i64 1)) 3)])
   (.cond (.tmp 6)
    (.sq [4] (.reg [.p (.as 4 (.const (.string { data := #[] })))])
     (.ret))
    (.skip)))
  (.sq [4] (.dr (.pu 0 (.pu 1 (.pu 2 (.pu 3 (.pu 5 (.pu 6 (.pu 7 (.pu 8 (.pu 9 (.ef 4 [7, 9] (.pu 10 (.pu 11 (.nil))))))))))))) [[], [0], [], [2], [0, 1, 2, 3], [], [5], [5, 6], [5, 6, 7], [5, 6, 7, 8], [0, 1, 2, 3, 4, 5, 6, 7, 8, 9], [0, 1, 2, 3, 4, 5, 6, 7, 8, 9, 10]] [.p (.mv 7 (.tmp 0)), .p (.bn 8 .quo 3 (.tmp 7) (.const (.int .i64 256)) 3), .p (.mv 9 (.tmp 1)), .p (.bn 10 .sub 3 (.tmp 9) (.const (.int .i64 1)) 3), .p (.cl (some 11) 55 [.tmp 8, .tmp 10] [3, 3]), .p (.mv 12 (.tmp 0)), .p (.bn 13 .rem 3 (.tmp 12) (.const (.int .i64 256)) 3), .p (.cv 14 3 5 (.tmp 13)), .p (.bo 15 22 1 [(0, .tmp 14)]), .p (.cv 16 22 9 (.tmp 15)), .p (.bn 17 .add 9 (.tmp 11) (.tmp 16) 9), .p (.as 4 (.tmp 17))] [[], [0], [], [2], [1, 3], [], [5], [6], [7], [8], [4, 9], [10, 4, 0, 1, 2, 3, 4, 5, 6, 7, 8, 9, 10]])
   (.ret)))
theorem b55 : BodyOK Try.prog 55 c55 18 [.tmp 4] := ⟨Try.f55, by kernel_rfl, by kernel_rfl, by kernel_rfl, by kernel_rfl, by kernel_rfl⟩
set_option maxRecDepth 100000 in
@[go_sem] theorem k55_0 : chkT (.pu 0 (.pu 1 (.pu 2 (.pu 3 (.pu 5 (.pu 6 (.pu 7 (.pu 8 (.pu 9 (.ef 4 [7, 9] (.pu 10 (.pu 11 (.nil))))))))))))) [[], [0], [], [2], [0, 1, 2, 3], [], [5], [5, 6], [5, 6, 7], [5, 6, 7, 8], [0, 1, 2, 3, 4, 5, 6, 7, 8, 9], [0, 1, 2, 3, 4, 5, 6, 7, 8, 9, 10]] (soI [.p (.mv 7 (.tmp 0)), .p (.bn 8 .quo 3 (.tmp 7) (.const (.int .i64 256)) 3), .p (.mv 9 (.tmp 1)), .p (.bn 10 .sub 3 (.tmp 9) (.const (.int .i64 1)) 3), .p (.cl (some 11) 55 [.tmp 8, .tmp 10] [3, 3]), .p (.mv 12 (.tmp 0)), .p (.bn 13 .rem 3 (.tmp 12) (.const (.int .i64 256)) 3), .p (.cv 14 3 5 (.tmp 13)), .p (.bo 15 22 1 [(0, .tmp 14)]), .p (.cv 16 22 9 (.tmp 15)), .p (.bn 17 .add 9 (.tmp 11) (.tmp 16) 9), .p (.as 4 (.tmp 17))]) [[], [0], [], [2], [1, 3], [], [5], [6], [7], [8], [4, 9], [10, 4, 0, 1, 2, 3, 4, 5, 6, 7, 8, 9, 10]] = true := by kernel_rfl

@[go_sem] def c105 : SC J := .sq [0] (.reg [.p (.as 2 (.const (.bool false)))])
 (.sq [0] (.sq [0, 6] (.reg [.p (.mv 4 (.tmp 0)), .p (.ln 5 43 (.tmp 4)), .p (.bn 6 .gtr 3 (.tmp 5) (.const (.int .i64 8)) 3)])
   (.cond (.tmp 6)
    (.sq [2] (.reg [.p (.as 2 (.const (.bool false)))])
     (.ret))
    (.skip)))
  (.sq [] (.sq [0, 3] (.reg [.p (.as 3 (.const (.int .i64 0)))])
    (.block 0 (.lp [0, 3] (.sq [0, 3] (.sq [0, 3, 10] (.reg [.p (.mv 7 (.tmp 3)), .p (.mv 8 (.tmp 0)), .p (.ln 9 43 (.tmp 8)), .p (.bn 10 .lss 3 (.tmp 7) (.tmp 9) 3)])
        (.cond (.tmp 10)
         (.skip)
         (.exit 0)))
       (.sq [0, 3] (.block 1 (.sq [0, 3, 18] (.reg [.p (.mv 13 (.tmp 0)), .p (.mv 14 (.tmp 3)), .p (.ia 15 43 (.tmp 13) (.tmp 14)), .p (.ld 16 9 (.tmp 15)), .p (.ln 17 9 (.tmp 16)), .p (.bn 18 .gtr 3 (.tmp 17) (.const (.int .i64 40)) 3)])
          (.cond (.tmp 18)
           (.sq [2] (.reg [.p (.as 2 (.const (.bool false)))])
            (.ret))
           (.skip))))
        (.reg [.p (.mv 11 (.tmp 3)), .p (.bn 12 .add 3 (.tmp 11) (.const (.int .i64 1)) 3), .p (.as 3 (.tmp 12))]))))))
   (.sq [2] (.reg [.p (.as 2 (.const (.bool true)))])
    (.ret))))
theorem b105 : BodyOK Try.prog 105 c105 19 [.tmp 2] := ⟨Try.f105, by kernel_rfl, by kernel_rfl, by kernel_rfl, by kernel_rfl, by kernel_rfl⟩

@[go_sem] def c139 : SC J := .sq [0, 1, 2, 3] (.reg [.p (.as 8 (.const (.bool false)))])
 (.sq [1, 2, 3] (.sq [1, 2, 3, 10] (.reg [.p (.mv 9 (.tmp 0)), .p (.un 10 .not 4 (.tmp 9))])
   (.cond (.tmp 10)
    (.sq [8] (.reg [.p (.mv 11 (.tmp 1)), .p (.bn 12 .eql 3 (.tmp 11) (.const (.int .i64 0)) 3), .p (.as 8 (.tmp 12))])
     (.ret))
    (.skip)))
  (.sq [8] (.reg [.p (.mv 13 (.tmp 1)), .p (.mv 14 (.tmp 2)), .p (.mv 15 (.tmp 3)), .p (.cl (some 16) 45 [.tmp 13, .tmp 14, .tmp 15] [3, 3, 3]), .p (.as 8 (.tmp 16))])
   (.ret)))
theorem b139 : BodyOK Try.prog 139 c139 17 [.tmp 8] := ⟨Try.f139, by kernel_rfl, by kernel_rfl, by kernel_rfl, by kernel_rfl, by kernel_rfl⟩

@[go_sem] def c140 : SC J := .sq [0, 1] (.reg [.p (.as 4 (.const (.bool false)))])
 (.sq [1, 5] (.reg [.p (.mv 7 (.tmp 0)), .p (.cl (some 8) 100 [.tmp 7] [3]), .p (.as 5 (.tmp 8))])
  (.sq [] (.sq [1, 5, 6] (.reg [.p (.as 6 (.const (.int .i64 0)))])
    (.block 0 (.lp [1, 5, 6] (.sq [1, 5, 6] (.sq [1, 5, 6, 12] (.reg [.p (.mv 9 (.tmp 6)), .p (.mv 10 (.tmp 5)), .p (.ln 11 9 (.tmp 10)), .p (.bn 12 .lss 3 (.tmp 9) (.tmp 11) 3)])
        (.cond (.tmp 12)
         (.skip)
         (.exit 0)))
       (.sq [1, 5, 6] (.block 1 (.sq [1, 5, 6, 19] (.reg [.p (.mv 15 (.tmp 5)), .p (.mv 16 (.tmp 6)), .p (.ix 17 9 (.tmp 15) (.tmp 16)), .p (.mv 18 (.tmp 1)), .p (.bn 19 .eql 5 (.tmp 17) (.tmp 18) 5)])
          (.cond (.tmp 19)
           (.sq [4] (.reg [.p (.as 4 (.const (.bool true)))])
            (.ret))
           (.skip))))
        (.reg [.p (.mv 13 (.tmp 6)), .p (.bn 14 .add 3 (.tmp 13) (.const (.int .i64 1)) 3), .p (.as 6 (.tmp 14))]))))))
   (.sq [4] (.reg [.p (.as 4 (.const (.bool false)))])
    (.ret))))
theorem b140 : BodyOK Try.prog 140 c140 20 [.tmp 4] := ⟨Try.f140, by kernel_rfl, by kernel_rfl, by kernel_rfl, by kernel_rfl, by kernel_rfl⟩

@[go_sem] def c147 : SC J := .sq [0, 1] (.reg [.p (.as 4 (.const (.slice none 0 0)))])
 (.sq [0, 1, 5] (.reg [.p (.mv 7 (.tmp 1)), .p (.ms 8 22 (.tmp 7) (.tmp 7)), .p (.as 5 (.tmp 8))])
  (.sq [5] (.sq [0, 5, 6] (.reg [.p (.mv 9 (.tmp 1)), .p (.bn 10 .sub 3 (.tmp 9) (.const (.int .i64 1)) 3), .p (.as 6 (.tmp 10))])
    (.block 0 (.lp [0, 5, 6] (.sq [0, 5, 6] (.sq [0, 5, 6, 12] (.reg [.p (.mv 11 (.tmp 6)), .p (.bn 12 .geq 3 (.tmp 11) (.const (.int .i64 0)) 3)])
        (.cond (.tmp 12)
         (.skip)
         (.exit 0)))
       (.sq [0, 5, 6] (.block 1 (.sq [0, 5, 6] (.reg [.p (.mv 15 (.tmp 5)), .p (.mv 16 (.tmp 6)), .p (.mv 17 (.tmp 0)), .p (.bn 18 .rem 3 (.tmp 17) (.const (.int .i64 256)) 3), .p (.cv 19 3 5 (.tmp 18)), .p (.ia 20 22 (.tmp 15) (.tmp 16)), .p (.st 5 (.tmp 20) (.tmp 19))])
          (.reg [.p (.mv 21 (.tmp 0)), .p (.bn 22 .quo 3 (.tmp 21) (.const (.int .i64 256)) 3), .p (.as 0 (.tmp 22))])))
        (.reg [.p (.mv 13 (.tmp 6)), .p (.bn 14 .sub 3 (.tmp 13) (.const (.int .i64 1)) 3), .p (.as 6 (.tmp 14))]))))))
   (.sq [4] (.reg [.p (.mv 23 (.tmp 5)), .p (.as 4 (.tmp 23))])
    (.ret))))
theorem b147 : BodyOK Try.prog 147 c147 24 [.tmp 4] := ⟨Try.f147, by kernel_rfl, by kernel_rfl, by kernel_rfl, by kernel_rfl, by kernel_rfl⟩

def mPart (h : Bool) (n lo hi : Int) : Bool := if h then mIn n lo hi else n == 0
theorem c139_c (h : Bool) (n lo hi : Int) : CallR Try.prog 139 [vB h, vI n, vI lo, vI hi] (vB (mPart h n lo hi)) [] := by
  refine callR_of_jv b139 rfl ?_
  simp -implicitDefEqProofs only [go_sem]
  refine condJ_intro (fun h1 => ?_) (fun h1 => ?_)
  · have h2 : h = false := by simpa using h1
    subst h2
    simp -implicitDefEqProofs only [go_sem, mPart]
    try rfl
  · have h2 : h = true := by simpa using h1
    subst h2
    simp -implicitDefEqProofs only [go_sem, mPart]
    refine Want.intro (c45_c n lo hi) ?_
    simp -implicitDefEqProofs only [go_sem]
    try rfl
def leavesOk (l : List ByteArray) : Bool := l.all fun s => decide (s.size ≤ 40)
theorem leavesOk_drop {l : List ByteArray} {i : Nat} (h : i < l.length) : leavesOk (l.drop i) = (decide (l[i].size ≤ 40) && leavesOk (l.drop (i + 1))) := by
  rw [List.drop_eq_getElem_cons h]; rfl
theorem c105_c (l : List ByteArray) (hl : l.length ≤ maxLen) : CallR Try.prog 105 [.ro 1 (l.map leafCs)] (vB (decide (l.length ≤ 8) && leavesOk l)) [] := by
  refine callR_of_jv b105 rfl ?_
  simp -implicitDefEqProofs only [go_sem]
  refine condJ_intro (fun h => ?_) (fun h => ?_)
  · have h2 : ¬ l.length ≤ 8 := by have := of_decide_eq_true h; omega
    simp -implicitDefEqProofs only [go_sem, h]
    simp [h2]
  · have h2 : l.length ≤ 8 := by have := of_decide_eq_false h; omega
    simp -implicitDefEqProofs only [go_sem, h]
    refine jv_lp (fun k s => ∃ (i : Nat), i ≤ l.length ∧ k = l.length - i ∧ leavesOk (l.drop i) = leavesOk l ∧ s = ⟨19, [(0, .ro 1 (l.map leafCs)), (3, vI i)], [], 1⟩) l.length
      (by simp -implicitDefEqProofs only [go_sem]; exact ⟨0, Nat.zero_le _, rfl, rfl, rfl⟩) ?_
    rintro k s ⟨i, hi, rfl, hx, rfl⟩
    rcases Nat.lt_or_ge i l.length with hlt | hge
    · have hlt' : (i : Int) < (l.length : Int) := by omega
      have hg : l[i]? = some l[i] := List.getElem?_eq_getElem hlt
      have hw := wrap_succ hlt hl
      rw [leavesOk_drop hlt] at hx
      simp -implicitDefEqProofs only [go_sem, hlt', hg]
      refine condJ_intro (fun h => ?_) (fun h => ?_)
      · have h3 : ¬ l[i].size ≤ 40 := by have := of_decide_eq_true h; omega
        simp -implicitDefEqProofs only [go_sem, h]
        simp [h3] at hx
        simp [h2, ← hx]
      · have h3 : l[i].size ≤ 40 := by have := of_decide_eq_false h; omega
        simp -implicitDefEqProofs only [go_sem, h, hw]
        refine ⟨_, by omega, i + 1, hlt, rfl, ?_, rfl⟩
        rw [← hx]
        simp [h3]
    · have hi : i = l.length := by omega
      subst hi
      have hlt' : ¬ ((l.length : Int) < (l.length : Int)) := by omega
      rw [List.drop_length] at hx
      simp -implicitDefEqProofs only [go_sem, hlt']
      simp [h2, ← hx]
      try rfl
def numB (v : Nat) : Nat → ByteArray
  | 0 => ⟨#[]⟩
  | n + 1 => numB (v / 256) n ++ ⟨#[UInt8.ofNat (v % 256)]⟩
theorem numB_size (v n : Nat) : (numB v n).size = n := by
  induction n generalizing v with
  | zero => rfl
  | succ n ih => rw [numB, ByteArray.size_append, ih]; rfl
theorem c55_c : ∀ (n v : Nat), n ≤ 10 → v ≤ 1000000000 → CallR Try.prog 55 [vI v, vI n] (vS (numB v n)) []
  | 0, v, hn, hv => by
    refine callR_of_jv b55 rfl ?_
    simp -implicitDefEqProofs only [go_sem]
    refine condJ_intro (fun h => ?_) (fun h => ?_)
    · simp -implicitDefEqProofs only [go_sem, h]
      rfl
    · exact absurd h (by decide)
  | n + 1, v, hn, hv => by
    refine callR_of_jv b55 rfl ?_
    simp -implicitDefEqProofs only [go_sem]
    have hlt : ¬ (((n + 1 : Nat) : Int) < 1) := by omega
    have htm : ((v : Int)).tmod 256 = ((v % 256 : Nat) : Int) := by rw [Int.tmod_eq_emod_of_nonneg (by omega)]; omega
    have htd : ((v : Int)).tdiv 256 = ((v / 256 : Nat) : Int) := by rw [Int.tdiv_eq_ediv_of_nonneg (by omega)]; omega
    have w1 : IntKind.i64.wrap ((v / 256 : Nat) : Int) = ((v / 256 : Nat) : Int) := wrS (by omega)
    have w2 : IntKind.i64.wrap (((n + 1 : Nat) : Int) - 1) = (n : Int) := by rw [wrS (by omega)]; omega
    have w3 : (IntKind.u8.wrap ((v % 256 : Nat) : Int)) = ((v % 256 : Nat) : Int) := by
      have h8 : IntKind.u8.bits = 8 := rfl
      have hs : IntKind.u8.signed = false := rfl
      simp only [IntKind.wrap, h8, hs, Bool.false_and, Bool.false_eq_true, if_false]
      omega
    simp -implicitDefEqProofs only [go_sem, hlt, htm, htd, w1, w2, w3]
    refine Want.intro (c55_c n (v / 256) (by omega) (by omega)) ?_
    have hsz : ¬ ((((numB (v / 256) n).size + (#[UInt8.ofNat (v % 256)] : Array UInt8).size : Nat) : Int) > 9223372036854775807) := by
      rw [numB_size]
      simp
      omega
    simp -implicitDefEqProofs only [go_sem, hsz]
    rfl
theorem partsInt (k : Int) : CallR Try.prog 100 [vI k] (vS (l5P k)) [] := by
  by_cases hk : 0 ≤ k
  · obtain ⟨n, rfl⟩ : ∃ n : Nat, k = n := ⟨k.toNat, by omega⟩
    exact c100_c n
  · refine callR_of_jv b100 rfl ?_
    simp -implicitDefEqProofs only [go_sem]
    refine Want.intro (c45_c _ _ _) ?_
    have hin : mIn k 1 8 = false := by simp [mIn]; omega
    simp -implicitDefEqProofs only [go_sem, hin]
    rw [l5P, if_neg (by omega), if_neg (by omega), if_neg (by omega), if_neg (by omega), if_neg (by omega), if_neg (by omega)]
theorem l5P_size (k : Int) : (l5P k).size ≤ 3 := by
  unfold l5P
  repeat' split
  all_goals decide
theorem c140_c (k : Int) (c : Nat) : CallR Try.prog 140 [vI k, .sc (.int .u8 (c : Int))] (vB (mHasB (l5P k) c)) [] := by
  refine callR_of_jv b140 rfl ?_
  simp -implicitDefEqProofs only [go_sem]
  refine Want.intro (partsInt k) ?_
  have hs3 := l5P_size k
  generalize l5P k = s at *
  simp -implicitDefEqProofs only [go_sem]
  refine jv_lp (fun m z => ∃ i, i ≤ s.size ∧ m = s.size - i ∧ mHasL (s.data.toList.drop i) c = mHasB s c ∧ z = ⟨20, [(1, .sc (.int .u8 (c : Int))), (5, vS s), (6, vI i)], [], 1⟩) s.size ?_ ?_
  · simp -implicitDefEqProofs only [go_sem]
    exact ⟨0, Nat.zero_le _, rfl, rfl, rfl⟩
  · rintro m z ⟨i, hi, rfl, hx, rfl⟩
    rcases Nat.lt_or_ge i s.size with hlt | hge
    · have hlt' : (i : Int) < (s.size : Int) := by omega
      have hg := data_get (s := s) (i := i) hlt
      have w4 : IntKind.i64.wrap ((i : Int) + 1) = ((i + 1 : Nat) : Int) := by rw [wrS (by omega)]; omega
      rw [mHasB_drop hlt] at hx
      simp -implicitDefEqProofs only [go_sem, hlt', hg]
      refine condJ_intro (fun h => ?_) (fun h => ?_)
      · have h2 : bN s i = c := by have := of_decide_eq_true h; omega
        simp -implicitDefEqProofs only [go_sem, h]
        rw [← hx, h2]
        simp
      · have h2 : ¬ bN s i = c := fun e => by rw [e] at h; simp at h
        simp -implicitDefEqProofs only [go_sem, h, w4]
        refine ⟨_, by omega, i + 1, hlt, rfl, ?_, rfl⟩
        rw [← hx]
        simp [h2]
    · have hi : i = s.size := by omega
      subst hi
      have hlt' : ¬ ((s.size : Int) < (s.size : Int)) := by omega
      simp -implicitDefEqProofs only [go_sem, hlt']
      rw [← hx]
      rw [List.drop_of_length_le (by rw [Array.length_toList]; exact Nat.le_refl _)]
      rfl
end Go.Proofs.Ytkhemolkhegppaa.E
