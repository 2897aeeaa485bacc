/-
  Contracts: what is marked and held; steps that are appended.
-/
import Derived.Test.YtbamamgeamnmnaaC4
namespace Go.Proofs.Ytbamamgeamnmnaa.E
open Go Go.RowKit
set_option maxHeartbeats 4000000
set_option linter.unusedSimpArgs false
set_option linter.unusedVariables false
set_option linter.unusedSectionVars false
@[go_sem] def c28 : SC J := .sq [0] (.reg [.p (.as 2 (.const (.string { data := #[] })))])
 (.sq [0] (.sq [0, 5] (.reg [.p (.mv 4 (.tmp 0)), .p (.bn 5 .leq 3 (.tmp 4) (.const (.int .i64 0)) 3)])
   (.cond (.tmp 5)
    (.sq [2] (.reg [.p (.as 2 (.const (.string { data := #[109, 48] })))])
     (.ret))
    (.skip)))
  (.sq [0, 3] (.reg [.p (.as 3 (.const (.string { data := #[] })))])
   (.sq [3] (.block 0 (.lp [0, 3] (.sq [0, 3] (.sq [0, 3, 7] (.reg [.p (.mv 6 (.tmp 0)), .p (.bn 7 .gtr 3 (.tmp 6) (.const (.int .i64 0)) 3)])
        (.cond (.tmp 7)
         (.skip)
         (.exit 0)))
       (.block 1 (.sq [0, 3] (.reg [.p (.mv 8 (.tmp 0)), .p (.bn 9 .rem 3 (.tmp 8) (.const (.int .i64 10)) 3), .p (.bn 10 .add 3 (.const (.int .i64 48)) (.tmp 9) 3), .p (.cv 11 3 5 (.tmp 10)), .p (.bs 12 50 1 [(0, .tmp 11)]), .p (.cv 13 50 9 (.tmp 12)), .p (.mv 14 (.tmp 3)), .p (.bn 15 .add 9 (.tmp 13) (.tmp 14) 9), .p (.as 3 (.tmp 15))])
         (.reg [.p (.mv 16 (.tmp 0)), .p (.bn 17 .quo 3 (.tmp 16) (.const (.int .i64 10)) 3), .p (.as 0 (.tmp 17))]))))))
    (.sq [2] (.reg [.p (.mv 18 (.tmp 3)), .p (.bn 19 .add 9 (.const (.string { data := #[109] })) (.tmp 18) 9), .p (.as 2 (.tmp 19))])
     (.ret)))))
theorem b28 : BodyOK Try.prog 28 c28 20 [.tmp 2] := ⟨Try.f28, by kernel_rfl, by kernel_rfl, by kernel_rfl, by kernel_rfl, by kernel_rfl⟩

@[go_sem] def c17 : SC J := .sq [0, 1] (.reg [.p (.as 4 (.const (.int .i64 0)))])
 (.sq [1] (.sq [0, 1, 5] (.reg [.p (.as 5 (.const (.int .i64 0)))])
   (.block 0 (.lp [0, 1, 5] (.sq [0, 1, 5] (.sq [0, 1, 5, 9] (.reg [.p (.mv 6 (.tmp 5)), .p (.mv 7 (.tmp 0)), .p (.ln 8 31 (.tmp 7)), .p (.bn 9 .lss 3 (.tmp 6) (.tmp 8) 3)])
       (.cond (.tmp 9)
        (.skip)
        (.exit 0)))
      (.sq [0, 1, 5] (.block 1 (.sq [0, 1, 5] (.reg [.p (.mv 12 (.tmp 0)), .p (.mv 13 (.tmp 5)), .p (.mv 14 (.tmp 1)), .p (.ia 15 31 (.tmp 12) (.tmp 13)), .p (.fa 16 42 (.tmp 15) 0), .p (.st 3 (.tmp 16) (.tmp 14))])
         (.sq [0, 1, 5] (.reg [.p (.mv 17 (.tmp 1)), .p (.bn 18 .add 3 (.tmp 17) (.const (.int .i64 1)) 3), .p (.as 1 (.tmp 18))])
          (.sq [0, 1, 5] (.reg [.p (.mv 19 (.tmp 0)), .p (.mv 20 (.tmp 5)), .p (.mv 21 (.tmp 1)), .p (.ia 22 31 (.tmp 19) (.tmp 20)), .p (.fa 23 42 (.tmp 22) 1), .p (.st 3 (.tmp 23) (.tmp 21))])
           (.sq [0, 1, 5] (.reg [.p (.mv 24 (.tmp 1)), .p (.bn 25 .add 3 (.tmp 24) (.const (.int .i64 1)) 3), .p (.as 1 (.tmp 25))])
            (.sq [0, 1, 5] (.reg [.p (.mv 26 (.tmp 0)), .p (.mv 27 (.tmp 5)), .p (.mv 28 (.tmp 1)), .p (.ia 29 31 (.tmp 26) (.tmp 27)), .p (.fa 30 42 (.tmp 29) 2), .p (.st 3 (.tmp 30) (.tmp 28))])
             (.sq [0, 1, 5] (.reg [.p (.mv 31 (.tmp 1)), .p (.bn 32 .add 3 (.tmp 31) (.const (.int .i64 1)) 3), .p (.as 1 (.tmp 32))])
              (.sq [0, 1, 5] (.reg [.p (.mv 33 (.tmp 0)), .p (.mv 34 (.tmp 5)), .p (.mv 35 (.tmp 1)), .p (.cl (some 36) 28 [.tmp 35] [3]), .p (.ia 37 31 (.tmp 33) (.tmp 34)), .p (.fa 38 42 (.tmp 37) 3), .p (.st 9 (.tmp 38) (.tmp 36))])
               (.reg [.p (.mv 39 (.tmp 1)), .p (.bn 40 .add 3 (.tmp 39) (.const (.int .i64 1)) 3), .p (.as 1 (.tmp 40))])))))))))
       (.reg [.p (.mv 10 (.tmp 5)), .p (.bn 11 .add 3 (.tmp 10) (.const (.int .i64 1)) 3), .p (.as 5 (.tmp 11))]))))))
  (.sq [4] (.reg [.p (.mv 41 (.tmp 1)), .p (.as 4 (.tmp 41))])
   (.ret)))
theorem b17 : BodyOK Try.prog 17 c17 42 [.tmp 4] := ⟨Try.f17, by kernel_rfl, by kernel_rfl, by kernel_rfl, by kernel_rfl, by kernel_rfl⟩

@[go_sem] def c18 : SC J := .sq [0, 1] (.reg [.p (.as 4 (.const (.int .i64 0)))])
 (.sq [1] (.sq [0, 1, 5] (.reg [.p (.as 5 (.const (.int .i64 0)))])
   (.block 0 (.lp [0, 1, 5] (.sq [0, 1, 5] (.sq [0, 1, 5, 9] (.reg [.p (.mv 6 (.tmp 5)), .p (.mv 7 (.tmp 0)), .p (.ln 8 31 (.tmp 7)), .p (.bn 9 .lss 3 (.tmp 6) (.tmp 8) 3)])
       (.cond (.tmp 9)
        (.skip)
        (.exit 0)))
      (.sq [0, 1, 5] (.block 1 (.sq [0, 1, 5] (.sq [0, 1, 5, 18] (.reg [.p (.mv 12 (.tmp 0)), .p (.mv 13 (.tmp 5)), .p (.ia 14 31 (.tmp 12) (.tmp 13)), .p (.fa 15 42 (.tmp 14) 0), .p (.ld 16 3 (.tmp 15)), .p (.mv 17 (.tmp 1)), .p (.bn 18 .neq 3 (.tmp 16) (.tmp 17) 3)])
          (.cond (.tmp 18)
           (.sq [4] (.reg [.p (.as 4 (.const (.int .i64 (-1))))])
            (.ret))
           (.skip)))
         (.sq [0, 1, 5] (.reg [.p (.mv 19 (.tmp 1)), .p (.bn 20 .add 3 (.tmp 19) (.const (.int .i64 1)) 3), .p (.as 1 (.tmp 20))])
          (.sq [0, 1, 5] (.sq [0, 1, 5, 27] (.reg [.p (.mv 21 (.tmp 0)), .p (.mv 22 (.tmp 5)), .p (.ia 23 31 (.tmp 21) (.tmp 22)), .p (.fa 24 42 (.tmp 23) 1), .p (.ld 25 3 (.tmp 24)), .p (.mv 26 (.tmp 1)), .p (.bn 27 .neq 3 (.tmp 25) (.tmp 26) 3)])
            (.cond (.tmp 27)
             (.sq [4] (.reg [.p (.as 4 (.const (.int .i64 (-1))))])
              (.ret))
             (.skip)))
           (.sq [0, 1, 5] (.reg [.p (.mv 28 (.tmp 1)), .p (.bn 29 .add 3 (.tmp 28) (.const (.int .i64 1)) 3), .p (.as 1 (.tmp 29))])
            (.sq [0, 1, 5] (.sq [0, 1, 5, 36] (.reg [.p (.mv 30 (.tmp 0)), .p (.mv 31 (.tmp 5)), .p (.ia 32 31 (.tmp 30) (.tmp 31)), .p (.fa 33 42 (.tmp 32) 2), .p (.ld 34 3 (.tmp 33)), .p (.mv 35 (.tmp 1)), .p (.bn 36 .neq 3 (.tmp 34) (.tmp 35) 3)])
              (.cond (.tmp 36)
               (.sq [4] (.reg [.p (.as 4 (.const (.int .i64 (-1))))])
                (.ret))
               (.skip)))
             (.sq [0, 1, 5] (.reg [.p (.mv 37 (.tmp 1)), .p (.bn 38 .add 3 (.tmp 37) (.const (.int .i64 1)) 3), .p (.as 1 (.tmp 38))])
              (.sq [0, 1, 5] (.sq [0, 1, 5, 46] (.dr (.pu 0 (.pu 1 (.pu 2 (.pu 3 (.pu 4 (.pu 5 (.ef 6 [2, 4] (.pu 7 (.nil))))))))) [[], [], [0, 1], [0, 1, 2], [0, 1, 2, 3], [], [5], [0, 1, 2, 3, 4, 5, 6]] [.p (.mv 39 (.tmp 0)), .p (.mv 40 (.tmp 5)), .p (.ia 41 31 (.tmp 39) (.tmp 40)), .p (.fa 42 42 (.tmp 41) 3), .p (.ld 43 9 (.tmp 42)), .p (.mv 44 (.tmp 1)), .p (.cl (some 45) 28 [.tmp 44] [3]), .p (.bn 46 .neq 9 (.tmp 43) (.tmp 45) 9)] [[], [], [0, 1], [2], [3], [], [5], [4, 6]])
                (.cond (.tmp 46)
                 (.sq [4] (.reg [.p (.as 4 (.const (.int .i64 (-1))))])
                  (.ret))
                 (.skip)))
               (.reg [.p (.mv 47 (.tmp 1)), .p (.bn 48 .add 3 (.tmp 47) (.const (.int .i64 1)) 3), .p (.as 1 (.tmp 48))])))))))))
       (.reg [.p (.mv 10 (.tmp 5)), .p (.bn 11 .add 3 (.tmp 10) (.const (.int .i64 1)) 3), .p (.as 5 (.tmp 11))]))))))
  (.sq [4] (.reg [.p (.mv 49 (.tmp 1)), .p (.as 4 (.tmp 49))])
   (.ret)))
theorem b18 : BodyOK Try.prog 18 c18 50 [.tmp 4] := ⟨Try.f18, by kernel_rfl, by kernel_rfl, by kernel_rfl, by kernel_rfl, by kernel_rfl⟩
set_option maxRecDepth 100000 in
@[go_sem] theorem k18_0 : chkT (.pu 0 (.pu 1 (.pu 2 (.pu 3 (.pu 4 (.pu 5 (.ef 6 [2, 4] (.pu 7 (.nil))))))))) [[], [], [0, 1], [0, 1, 2], [0, 1, 2, 3], [], [5], [0, 1, 2, 3, 4, 5, 6]] (soI [.p (.mv 39 (.tmp 0)), .p (.mv 40 (.tmp 5)), .p (.ia 41 31 (.tmp 39) (.tmp 40)), .p (.fa 42 42 (.tmp 41) 3), .p (.ld 43 9 (.tmp 42)), .p (.mv 44 (.tmp 1)), .p (.cl (some 45) 28 [.tmp 44] [3]), .p (.bn 46 .neq 9 (.tmp 43) (.tmp 45) 9)]) [[], [], [0, 1], [2], [3], [], [5], [4, 6]] = true := by kernel_rfl

@[go_sem] def c26 : SC J := .sq [0, 1] (.reg [.p (.as 4 (.const (.slice none 0 0)))])
 (.sq [0, 1] (.reg [.p (.mv 5 (.tmp 0)), .p (.mv 6 (.tmp 1)), .p (.bd 7 42 [(0, .const (.int .i64 8)), (1, .tmp 6)]), .p (.bs 8 31 1 [(0, .tmp 7)]), .p (.ap (some 9) 31 31 (.tmp 5) (.tmp 8)), .p (.as 0 (.tmp 9))])
  (.sq [4] (.reg [.p (.mv 10 (.tmp 0)), .p (.mv 11 (.tmp 1)), .p (.bd 12 42 [(0, .const (.int .i64 9)), (1, .tmp 11)]), .p (.bs 13 31 1 [(0, .tmp 12)]), .p (.ap (some 14) 31 31 (.tmp 10) (.tmp 13)), .p (.as 4 (.tmp 14))])
   (.ret)))
theorem b26 : BodyOK Try.prog 26 c26 15 [.tmp 4] := ⟨Try.f26, by kernel_rfl, by kernel_rfl, by kernel_rfl, by kernel_rfl, by kernel_rfl⟩

@[go_sem] def c27 : SC J := .sq [0] (.reg [.p (.as 2 (.const (.slice none 0 0)))])
 (.sq [0] (.sq [0, 6] (.reg [.p (.mv 4 (.tmp 0)), .p (.ln 5 31 (.tmp 4)), .p (.bn 6 .eql 3 (.tmp 5) (.const (.int .i64 0)) 3)])
   (.cond (.tmp 6)
    (.sq [2] (.reg [.p (.as 2 (.const (.slice none 0 0)))])
     (.ret))
    (.skip)))
  (.sq [0, 3] (.reg [.p (.mv 7 (.tmp 0)), .p (.ln 8 31 (.tmp 7)), .p (.ms 9 31 (.tmp 8) (.tmp 8)), .p (.as 3 (.tmp 9))])
   (.sq [3] (.reg [.p (.mv 10 (.tmp 3)), .p (.mv 11 (.tmp 0)), .p (.cp (some 12) 31 31 (.tmp 10) (.tmp 11))])
    (.sq [2] (.reg [.p (.mv 13 (.tmp 3)), .p (.as 2 (.tmp 13))])
     (.ret)))))
theorem b27 : BodyOK Try.prog 27 c27 14 [.tmp 2] := ⟨Try.f27, by kernel_rfl, by kernel_rfl, by kernel_rfl, by kernel_rfl, by kernel_rfl⟩

/-! What is marked, in general -/
def w1 (k : Int) : Int := IntKind.i64.wrap (k + 1)
def gMark {α : Type} (mk : Int → α × Int) : Nat → Int → List α × Int
  | 0, k => ([], k)
  | n + 1, k => ((gMark mk n k).1 ++ [(mk (gMark mk n k).2).1], (mk (gMark mk n k).2).2)
theorem gMark_len {α : Type} {mk : Int → α × Int} {n : Nat} {k : Int} : (gMark mk n k).1.length = n := by
  induction n with
  | zero => rfl
  | succ n ih => simp [gMark, ih]
theorem gMark_get {α : Type} {mk : Int → α × Int} {n i : Nat} {k : Int} (h : i < n) : (gMark mk n k).1[i]? = some (mk (gMark mk i k).2).1 := by
  induction n with
  | zero => omega
  | succ n ih =>
    simp only [gMark]
    rcases Nat.lt_or_ge i n with hi | hi
    · rw [List.getElem?_append_left (by rw [gMark_len]; exact hi), ih hi]
    · have : i = n := by omega
      subst this
      rw [List.getElem?_append_right (by rw [gMark_len]; exact Nat.le_refl _), gMark_len, Nat.sub_self]
      rfl
/-- A row, marked from below. -/
def marked {α : Type} (E : α → List AV) (mk : Int → α × Int) (l : List α) (i : Nat) (k : Int) : List (List AV) := (gMark mk i k).1.map E ++ (l.drop i).map E
theorem marked_zero {α : Type} {E : α → List AV} {mk : Int → α × Int} {l : List α} {k : Int} : marked E mk l 0 k = l.map E := by simp [marked, gMark]
theorem marked_all {α : Type} {E : α → List AV} {mk : Int → α × Int} {l : List α} {k : Int} : marked E mk l l.length k = (gMark mk l.length k).1.map E := by simp [marked]
theorem marked_len {α : Type} {E : α → List AV} {mk : Int → α × Int} {l : List α} {i : Nat} {k : Int} (h : i ≤ l.length) : (marked E mk l i k).length = l.length := by simp [marked, gMark_len]; omega
theorem marked_get {α : Type} {E : α → List AV} {mk : Int → α × Int} {l : List α} {i : Nat} {k : Int} (h : i < l.length) : (marked E mk l i k)[i]? = some (E l[i]) := by
  unfold marked
  rw [List.getElem?_append_right (by simp [gMark_len]), List.length_map, gMark_len, Nat.sub_self, List.getElem?_map, List.getElem?_drop, Nat.add_zero, List.getElem?_eq_getElem h]
  rfl
theorem marked_set {α : Type} {E : α → List AV} {mk : Int → α × Int} {l : List α} {i : Nat} {k : Int} (h : i < l.length) : (marked E mk l i k).set i (E (mk (gMark mk i k).2).1) = marked E mk l (i + 1) k := by
  unfold marked
  rw [List.set_append_right _ _ (by simp [gMark_len]), List.length_map, gMark_len, Nat.sub_self, List.drop_eq_getElem_cons h, List.map_cons, List.set_cons_zero]
  simp [gMark]
def gHeld {α : Type} (eq : α → Int → Bool) (nx : Int → Int) : List α → Int → Int
  | [], k => k
  | a :: l, k => if eq a k then gHeld eq nx l (nx k) else -1
theorem gHeld_mark {α : Type} {eq : α → Int → Bool} {mk : Int → α × Int} (he : ∀ k, eq (mk k).1 k = true) : ∀ (n i : Nat) (k : Int), i ≤ n → gHeld eq (fun k => (mk k).2) ((gMark mk n k).1.drop i) (gMark mk i k).2 = (gMark mk n k).2 := by
  intro n i k hi
  obtain ⟨d, hd⟩ : ∃ d, n = i + d := ⟨n - i, by omega⟩
  induction d generalizing i with
  | zero =>
    have : i = n := by omega
    subst this
    rw [List.drop_of_length_le (by rw [gMark_len]; exact Nat.le_refl _)]
    rfl
  | succ d ih =>
    have hlt : i < (gMark mk n k).1.length := by rw [gMark_len]; omega
    rw [List.drop_eq_getElem_cons hlt, gHeld]
    have hg := gMark_get (mk := mk) (k := k) (show i < n by omega)
    rw [List.getElem?_eq_getElem hlt] at hg
    have hg := Option.some.inj hg
    rw [hg, if_pos (he _)]
    exact ih (i + 1) (by omega) (by omega)
theorem gHeld_all {α : Type} {eq : α → Int → Bool} {mk : Int → α × Int} (he : ∀ k, eq (mk k).1 k = true) (n : Nat) (k : Int) : gHeld eq (fun k => (mk k).2) (gMark mk n k).1 k = (gMark mk n k).2 := by
  have := gHeld_mark he n 0 k (Nat.zero_le _)
  simpa [gMark] using this
theorem w1_small {k : Int} (h : 0 ≤ k ∧ k < 9223372036854775807) : w1 k = k + 1 := by unfold w1; rw [wrap_small (by omega)]
theorem gMark_num {α : Type} {mk : Int → α × Int} {c : Nat} (hmk : ∀ k : Int, 0 ≤ k → k + c < 9223372036854775807 → (mk k).2 = k + c) : ∀ (n : Nat) (k : Int), 0 ≤ k → k + c * n < 9223372036854775807 → (gMark mk n k).2 = k + c * n := by
  intro n
  induction n with
  | zero => intro k h1 h2; simp [gMark]
  | succ n ih =>
    intro k h1 h2
    have e : (c : Int) * ((n + 1 : Nat) : Int) = c * n + c := by rw [Int.natCast_succ, Int.mul_add, Int.mul_one]
    rw [e] at h2 ⊢
    have hc : 0 ≤ (c : Int) * n := Int.mul_nonneg (Int.natCast_nonneg _) (Int.natCast_nonneg _)
    simp only [gMark]
    rw [ih k h1 (by omega), hmk _ (by omega) (by omega)]
    omega
/-! The text of a number -/
def digB (k : Nat) (out : ByteArray) : ByteArray := if h : k = 0 then out else digB (k / 10) (⟨#[UInt8.ofNat (48 + k % 10)]⟩ ++ out)
termination_by k
decreasing_by omega
def mText (k : Int) : ByteArray := if k ≤ 0 then ⟨#[109, 48]⟩ else ⟨#[109]⟩ ++ digB k.toNat ⟨#[]⟩
theorem digB_step {k : Nat} {out : ByteArray} (h : 0 < k) : digB k out = digB (k / 10) (⟨#[UInt8.ofNat (48 + k % 10)]⟩ ++ out) := by
  rw [digB, dif_neg (by omega)]
theorem size_one (b : UInt8) : (⟨#[b]⟩ : ByteArray).size = 1 := rfl
attribute [go_sem] bytesOf
theorem c28_c (k : Int) (hk : k ≤ 9223372036854775800) : CallR Try.prog 28 [vI k] (.sc (.string (mText k))) [] := by
  refine callR_of_jv b28 rfl ?_
  simp -implicitDefEqProofs only [go_sem, Nat.reduceBEq, Nat.reduceAdd, Nat.reduceSub, Nat.reduceMul, Nat.reduceLT, Nat.reduceLeDiff, Int.reduceEq, Int.reduceLT, Int.reduceLE, reduceCtorEq]
  refine condJ_intro (fun h => ?_) (fun h => ?_)
  · simp -implicitDefEqProofs only [go_sem, Nat.reduceBEq, Nat.reduceAdd, Nat.reduceSub, Nat.reduceMul, Nat.reduceLT, Nat.reduceLeDiff, Int.reduceEq, Int.reduceLT, Int.reduceLE, reduceCtorEq, h]
    rw [mText, if_pos (of_decide_eq_true h)]
  · have h0 : 0 < k := by have := of_decide_eq_false h; omega
    simp -implicitDefEqProofs only [go_sem, Nat.reduceBEq, Nat.reduceAdd, Nat.reduceSub, Nat.reduceMul, Nat.reduceLT, Nat.reduceLeDiff, Int.reduceEq, Int.reduceLT, Int.reduceLE, reduceCtorEq, h]
    refine jv_lp (fun m s => ∃ (n : Nat) (out : ByteArray), m = n ∧ (n : Int) + out.size ≤ k ∧ digB n out = digB k.toNat ⟨#[]⟩ ∧ s = ⟨20, [(0, vI n), (3, .sc (.string out))], [], 1⟩) k.toNat ?_ ?_
    · simp -implicitDefEqProofs only [go_sem, Nat.reduceBEq, Nat.reduceAdd, Nat.reduceSub, Nat.reduceMul, Nat.reduceLT, Nat.reduceLeDiff, Int.reduceEq, Int.reduceLT, Int.reduceLE, reduceCtorEq]
      exact ⟨k.toNat, ⟨#[]⟩, rfl, by simp [ByteArray.size]; omega, rfl, by rw [Int.toNat_of_nonneg (by omega)]⟩
    · rintro m s ⟨n, out, rfl, hn, hd, rfl⟩
      rcases Nat.eq_zero_or_pos m with hz | hz
      · subst hz
        rw [digB, dif_pos rfl] at hd
        have h00 : ¬(((0 : Nat) : Int) > 0) := by omega
        have hsz : ¬((((#[109] : Array UInt8).size + out.size : Nat) : Int) > 9223372036854775807) := by simp; omega
        simp -implicitDefEqProofs only [go_sem, Nat.reduceBEq, Nat.reduceAdd, Nat.reduceSub, Nat.reduceMul, Nat.reduceLT, Nat.reduceLeDiff, Int.reduceEq, Int.reduceLT, Int.reduceLE, reduceCtorEq, h00, hsz]
        rw [mText, if_neg (by omega), ← hd]
      · have hpos' : 0 < m := by omega
        have hpos : (m : Int) > 0 := by omega
        have hsz : ¬((((#[UInt8.ofNat (48 + m % 10)] : Array UInt8).size + out.size : Nat) : Int) > 9223372036854775807) := by simp; omega
        have htm : ((m : Int)).tmod 10 = ((m % 10 : Nat) : Int) := by rw [Int.tmod_eq_emod_of_nonneg (by omega)]; omega
        have htd : ((m : Int)).tdiv 10 = ((m / 10 : Nat) : Int) := by rw [Int.tdiv_eq_ediv_of_nonneg (by omega)]; omega
        have hwr : (IntKind.u8.wrap (IntKind.i64.wrap (48 + ((m % 10 : Nat) : Int)))).toNat = 48 + m % 10 := by
          rw [wrap_small (by omega)]
          have h8 : IntKind.u8.bits = 8 := rfl
          have hs : IntKind.u8.signed = false := rfl
          simp only [IntKind.wrap, h8, hs, Bool.false_and, Bool.false_eq_true, if_false]
          omega
        simp -implicitDefEqProofs only [go_sem, Nat.reduceBEq, Nat.reduceAdd, Nat.reduceSub, Nat.reduceMul, Nat.reduceLT, Nat.reduceLeDiff, Int.reduceEq, Int.reduceLT, Int.reduceLE, reduceCtorEq, hpos, hsz, htm, htd, hwr]
        refine ⟨m / 10, by omega, m / 10, ⟨#[UInt8.ofNat (48 + m % 10)]⟩ ++ out, rfl, ?_, ?_, ?_⟩
        · rw [ByteArray.size_append, size_one]; omega
        · rw [← digB_step hpos', hd]
        · rw [wrap_small (by omega)]
def mkStep (k : Int) : MStep × Int := (⟨k, k + 1, k + 1 + 1, mText (k + 1 + 1 + 1)⟩, k + 1 + 1 + 1 + 1)
def stepIs (s : MStep) (k : Int) : Bool := s.kind == k && (s.node == k + 1 && (s.arg == k + 1 + 1 && s.text.toList == (mText (k + 1 + 1 + 1)).toList))
theorem stepIs_mk (k : Int) : stepIs (mkStep k).1 k = true := by simp [stepIs, mkStep]
theorem mkStep_num (n : Nat) (k : Int) : (gMark mkStep n k).2 = k + 4 * n := by
  induction n with
  | zero => simp [gMark]
  | succ n ih => simp only [gMark, mkStep, ih]; omega
theorem c17_c (l : List MStep) (k : Int) (hl : l.length ≤ maxLen) (hk : 0 ≤ k ∧ k + 4 * l.length ≤ 9223372036854775800) : CallM Try.prog 17 [(1000000, 0, one ⟨4, l.map MStep.cs, 2, false⟩)] [.blk 1000000 0 [] 4 0 l.length, vI k] (vI (gMark mkStep l.length k).2) [(1000000, 0, one ⟨4, (gMark mkStep l.length k).1.map MStep.cs, 2, false⟩)] := by
  refine callM_of_jv b17 rfl ?_
  simp -implicitDefEqProofs only [go_sem, Nat.reduceBEq, Nat.reduceAdd, Nat.reduceSub, Nat.reduceMul, Nat.reduceLT, Nat.reduceLeDiff, Int.reduceEq, Int.reduceLT, Int.reduceLE, reduceCtorEq]
  refine jv_lp (fun m s => ∃ (i : Nat), i ≤ l.length ∧ m = l.length - i ∧ s = ⟨42, [(0, .blk 1000000 0 [] 4 0 l.length), (1, vI (gMark mkStep i k).2), (5, vI i)], [(1000000, 0, one ⟨4, marked MStep.cs mkStep l i k, 2, false⟩)], 1⟩) l.length ?_ ?_
  · simp -implicitDefEqProofs only [go_sem, Nat.reduceBEq, Nat.reduceAdd, Nat.reduceSub, Nat.reduceMul, Nat.reduceLT, Nat.reduceLeDiff, Int.reduceEq, Int.reduceLT, Int.reduceLE, reduceCtorEq]
    exact ⟨0, Nat.zero_le _, rfl, by simp [marked_zero, gMark]⟩
  · rintro m s ⟨i, hi, rfl, rfl⟩
    rcases Nat.lt_or_ge i l.length with hlt | hge
    · have hlt' : (i : Int) < (l.length : Int) := by omega
      have hw := wrap_succ hlt hl
      have hnum := mkStep_num i k
      have hset := marked_set (E := MStep.cs) (mk := mkStep) (k := k) hlt
      have hget := marked_get (E := MStep.cs) (mk := mkStep) (k := k) hlt
      have hlen := marked_len (E := MStep.cs) (mk := mkStep) (k := k) hi
      have hnx : (gMark mkStep (i + 1) k).2 = (gMark mkStep i k).2 + 1 + 1 + 1 + 1 := rfl
      generalize marked MStep.cs mkStep l i k = L at *
      have hz : (gMark mkStep i k).2 = (gMark mkStep i k).2 := rfl
      generalize hzz : (gMark mkStep i k).2 = z at *
      have h1 : IntKind.i64.wrap (z + 1) = z + 1 := wrap_small (by omega)
      have h2 : IntKind.i64.wrap (z + 1 + 1) = z + 1 + 1 := wrap_small (by omega)
      have h3 : IntKind.i64.wrap (z + 1 + 1 + 1) = z + 1 + 1 + 1 := wrap_small (by omega)
      have h4 : IntKind.i64.wrap (z + 1 + 1 + 1 + 1) = z + 1 + 1 + 1 + 1 := wrap_small (by omega)
      have hself : ∀ x, (L.set i x)[i]? = some x := fun x => List.getElem?_set_self (by omega)
      simp -implicitDefEqProofs only [go_sem, Nat.reduceBEq, Nat.reduceAdd, Nat.reduceSub, Nat.reduceMul, Nat.reduceLT, Nat.reduceLeDiff, Int.reduceEq, Int.reduceLT, Int.reduceLE, reduceCtorEq, hlt', hw, hlen, hget, h1, h2, h3, h4, hself]
      refine Want.intro (c28_c _ (by omega)) ?_
      simp -implicitDefEqProofs only [go_sem, Nat.reduceBEq, Nat.reduceAdd, Nat.reduceSub, Nat.reduceMul, Nat.reduceLT, Nat.reduceLeDiff, Int.reduceEq, Int.reduceLT, Int.reduceLE, reduceCtorEq, hlt', hw, hlen, hget, h1, h2, h3, h4, hself]
      refine ⟨_, by omega, i + 1, hlt, rfl, ?_⟩
      rw [hnx, ← hset]
      rfl
    · have hi : i = l.length := by omega
      subst hi
      have hlt' : ¬ ((l.length : Int) < (l.length : Int)) := by omega
      have hlen := marked_len (E := MStep.cs) (mk := mkStep) (k := k) hi
      simp -implicitDefEqProofs only [go_sem, Nat.reduceBEq, Nat.reduceAdd, Nat.reduceSub, Nat.reduceMul, Nat.reduceLT, Nat.reduceLeDiff, Int.reduceEq, Int.reduceLT, Int.reduceLE, reduceCtorEq, hlt', marked_all]
theorem c18_c (l : List MStep) (k : Int) (hl : l.length ≤ maxLen) (hk : 0 ≤ k ∧ k + 4 * l.length ≤ 9223372036854775800) : CallR Try.prog 18 [.ro 4 (l.map MStep.cs), vI k] (vI (gHeld stepIs (fun k => k + 1 + 1 + 1 + 1) l k)) [] := by
  refine callR_of_jv b18 rfl ?_
  simp -implicitDefEqProofs only [go_sem, Nat.reduceBEq, Nat.reduceAdd, Nat.reduceSub, Nat.reduceMul, Nat.reduceLT, Nat.reduceLeDiff, Int.reduceEq, Int.reduceLT, Int.reduceLE, reduceCtorEq]
  refine jv_lp (fun m s => ∃ (i : Nat) (z : Int), i ≤ l.length ∧ m = l.length - i ∧ 0 ≤ z ∧ z = k + 4 * i ∧ gHeld stepIs (fun k => k + 1 + 1 + 1 + 1) (l.drop i) z = gHeld stepIs (fun k => k + 1 + 1 + 1 + 1) l k ∧ s = ⟨50, [(0, .ro 4 (l.map MStep.cs)), (1, vI z), (5, vI i)], [], 1⟩) l.length ?_ ?_
  · simp -implicitDefEqProofs only [go_sem, Nat.reduceBEq, Nat.reduceAdd, Nat.reduceSub, Nat.reduceMul, Nat.reduceLT, Nat.reduceLeDiff, Int.reduceEq, Int.reduceLT, Int.reduceLE, reduceCtorEq]
    exact ⟨0, k, Nat.zero_le _, rfl, by omega, by omega, rfl, rfl⟩
  · rintro m s ⟨i, z, hi, rfl, hz0, hz, hx, rfl⟩
    rcases Nat.lt_or_ge i l.length with hlt | hge
    · have hlt' : (i : Int) < (l.length : Int) := by omega
      have hw := wrap_succ hlt hl
      have hg : l[i]? = some l[i] := List.getElem?_eq_getElem hlt
      rw [List.drop_eq_getElem_cons hlt, gHeld, stepIs] at hx
      have h1 : IntKind.i64.wrap (z + 1) = z + 1 := wrap_small (by omega)
      have h2 : IntKind.i64.wrap (z + 1 + 1) = z + 1 + 1 := wrap_small (by omega)
      have h3 : IntKind.i64.wrap (z + 1 + 1 + 1) = z + 1 + 1 + 1 := wrap_small (by omega)
      have h4 : IntKind.i64.wrap (z + 1 + 1 + 1 + 1) = z + 1 + 1 + 1 + 1 := wrap_small (by omega)
      simp -implicitDefEqProofs only [go_sem, Nat.reduceBEq, Nat.reduceAdd, Nat.reduceSub, Nat.reduceMul, Nat.reduceLT, Nat.reduceLeDiff, Int.reduceEq, Int.reduceLT, Int.reduceLE, reduceCtorEq, hlt', hg]
      repeat' first | (refine Want.intro (by first | exact c28_c _ (by omega)) ?_; try simp -implicitDefEqProofs only [go_sem, Nat.reduceBEq, Nat.reduceAdd, Nat.reduceSub, Nat.reduceMul, Nat.reduceLT, Nat.reduceLeDiff, Int.reduceEq, Int.reduceLT, Int.reduceLE, reduceCtorEq, hlt', hg, hw, h1, h2, h3, h4]) | (refine guardP_intro (fun h => ?_) (fun h => ?_) <;> try simp -implicitDefEqProofs only [go_sem, Nat.reduceBEq, Nat.reduceAdd, Nat.reduceSub, Nat.reduceMul, Nat.reduceLT, Nat.reduceLeDiff, Int.reduceEq, Int.reduceLT, Int.reduceLE, reduceCtorEq, hlt', hg, hw, h1, h2, h3, h4, h]) | (refine condJ_intro (fun h => ?_) (fun h => ?_) <;> try simp -implicitDefEqProofs only [go_sem, Nat.reduceBEq, Nat.reduceAdd, Nat.reduceSub, Nat.reduceMul, Nat.reduceLT, Nat.reduceLeDiff, Int.reduceEq, Int.reduceLT, Int.reduceLE, reduceCtorEq, hlt', hg, hw, h1, h2, h3, h4, h])
      all_goals first
        | (refine ⟨_, by omega, i + 1, _, hlt, rfl, by omega, by omega, ?_, rfl⟩; rw [← hx]; simp_all; done)
        | (rw [← hx]; simp_all; done)
        | trace_state
    · have hi : i = l.length := by omega
      subst hi
      have hlt' : ¬ ((l.length : Int) < (l.length : Int)) := by omega
      rw [List.drop_length, gHeld] at hx
      simp -implicitDefEqProofs only [go_sem, Nat.reduceBEq, Nat.reduceAdd, Nat.reduceSub, Nat.reduceMul, Nat.reduceLT, Nat.reduceLeDiff, Int.reduceEq, Int.reduceLT, Int.reduceLE, reduceCtorEq, hlt']
      rw [hx]
def mAgain (node : Int) : List MStep := [⟨8, node, 0, ⟨#[]⟩⟩, ⟨9, node, 0, ⟨#[]⟩⟩]
theorem MStep.wide (l : List MStep) : wideB 4 (l.map MStep.cs) = true := by
  induction l with
  | nil => rfl
  | cons a l ih => simp only [List.map_cons, wideB, ih, MStep.cs]; rfl
theorem MStep.flat (l : List MStep) : flL (l.map MStep.cs) = 2 := by
  induction l with
  | nil => rfl
  | cons a l ih => simp only [List.map_cons, flL, ih, MStep.cs]; rfl
theorem take_map_all {α β : Type} (f : α → β) (l : List α) : List.take l.length (l.map f) = l.map f := List.take_of_length_le (by simp)
theorem drop_rep_all {α : Type} (n : Nat) (x : α) : List.drop n (List.replicate n x) = [] := List.drop_of_length_le (by simp)
attribute [go_sem] MStep.wide MStep.flat take_map_all drop_rep_all
theorem ok_len {a b : Nat} (h : a * b ≤ 140737488355328) (hb : 1 ≤ b) : a ≤ maxLen := by
  have : a * 1 ≤ a * b := Nat.mul_le_mul_left a hb
  unfold maxLen; omega
theorem c26_c (l : List MStep) (k : Int) (hl : (l.length + 2) * 40 ≤ 140737488355328) : CallM Try.prog 26 [(1000000, 0, one ⟨4, l.map MStep.cs, 2, false⟩)] [.blk 1000000 0 [] 4 0 l.length, vI k] (.blk 0 0 [] 4 0 (l ++ mAgain k).length) [(0, 0, one ⟨4, (l ++ mAgain k).map MStep.cs, 2, false⟩)] := by
  refine callM_of_jv b26 rfl ?_
  have h1 : ∀ x, (l.map MStep.cs ++ [x]).length ≤ maxLen ∧ (l.map MStep.cs ++ [x]).length * 40 ≤ 140737488355328 := fun x => by
    constructor
    · exact ok_len (b := 40) (by simp; omega) (by omega)
    · simp; omega
  have h2 : ∀ x y, (l.map MStep.cs ++ [x] ++ [y]).length ≤ maxLen ∧ (l.map MStep.cs ++ [x] ++ [y]).length * 40 ≤ 140737488355328 := fun x y => by
    constructor
    · exact ok_len (b := 40) (by simp; omega) (by omega)
    · simp; omega
  simp -implicitDefEqProofs only [go_sem, Nat.reduceBEq, Nat.reduceAdd, Nat.reduceSub, Nat.reduceMul, Nat.reduceLT, Nat.reduceLeDiff, Int.reduceEq, Int.reduceLT, Int.reduceLE, reduceCtorEq, h1, h2]
  simp [mAgain, MStep.cs]
theorem c27_c (l : List MStep) (hl : l.length * 40 ≤ 140737488355328) : CallR Try.prog 27 [stepsV l] (.blk 0 0 [] 4 0 l.length) [([], ⟨4, l.map MStep.cs, 2, false⟩)] := by
  refine callR_of_jv b27 rfl ?_
  simp -implicitDefEqProofs only [go_sem, Nat.reduceBEq, Nat.reduceAdd, Nat.reduceSub, Nat.reduceMul, Nat.reduceLT, Nat.reduceLeDiff, Int.reduceEq, Int.reduceLT, Int.reduceLE, reduceCtorEq]
  refine condJ_intro (fun h => ?_) (fun h => ?_)
  · have : l = [] := by simpa using h
    subst this
    simp -implicitDefEqProofs only [go_sem, Nat.reduceBEq, Nat.reduceAdd, Nat.reduceSub, Nat.reduceMul, Nat.reduceLT, Nat.reduceLeDiff, Int.reduceEq, Int.reduceLT, Int.reduceLE, reduceCtorEq]
  · have hm := ok_len hl (by omega)
    have hmk : ((40 : Nat) : Int) * (l.length : Int) ≤ 281474976710656 ∧ (l.length : Int) ≤ 9223372036854775807 := by unfold maxLen at hm; omega
    simp -implicitDefEqProofs only [go_sem, Nat.reduceBEq, Nat.reduceAdd, Nat.reduceSub, Nat.reduceMul, Nat.reduceLT, Nat.reduceLeDiff, Int.reduceEq, Int.reduceLT, Int.reduceLE, reduceCtorEq, h, hmk, List.length_replicate]
end Go.Proofs.Ytbamamgeamnmnaa.E
