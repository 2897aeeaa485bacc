/-
  Contracts: messages that are the same; what is marked and held.
-/
import Derived.Test.YtjlhdfciklnndaaD5
namespace Go.Proofs.Ytjlhdfciklnndaa.E
open Go Go.RowKit
set_option maxHeartbeats 4000000
set_option maxRecDepth 10000
set_option linter.unusedSimpArgs false
set_option linter.unusedVariables false
set_option linter.unusedSectionVars false
def dcD6 : Dec := ⟨[], [9, 10, 11], [22, 43, 84, 88, 103], false⟩

theorem wrap_succ {i n : Nat} (h : i < n) (hn : n ≤ maxLen) : IntKind.i64.wrap ((i : Int) + 1) = ((i + 1 : Nat) : Int) := by
  unfold maxLen at hn
  rw [wrS (by omega)]
  omega
def mEqL {α : Type} (e : α → α → Bool) : List α → List α → Bool
  | [], [] => true
  | a :: l, b :: m => e a b && mEqL e l m
  | _, _ => false
theorem mEqL_len {α : Type} {e : α → α → Bool} : ∀ {l m : List α}, mEqL e l m = true → l.length = m.length
  | [], [], _ => rfl
  | a :: l, b :: m, h => by simp only [mEqL, Bool.and_eq_true] at h; simp [mEqL_len h.2]
theorem mEqL_drop {α : Type} {e : α → α → Bool} {l m : List α} {i : Nat} (h : i < l.length) (k : i < m.length) : mEqL e (l.drop i) (m.drop i) = (e l[i] m[i] && mEqL e (l.drop (i + 1)) (m.drop (i + 1))) := by
  rw [List.drop_eq_getElem_cons h, List.drop_eq_getElem_cons k]; rfl
theorem mEqL_refl {α : Type} {e : α → α → Bool} (h : ∀ a, e a a = true) : ∀ l : List α, mEqL e l l = true
  | [] => rfl
  | a :: l => by simp [mEqL, h, mEqL_refl h l]
/-! What is marked, in general -/
def gMark {α : Type} (mk : Int → α × Int) : Nat → Int → List α × Int
  | 0, k => ([], k)
  | n + 1, k => ((gMark mk n k).1 ++ [(mk (gMark mk n k).2).1], (mk (gMark mk n k).2).2)
theorem gMark_len {α : Type} {mk : Int → α × Int} {n : Nat} {k : Int} : (gMark mk n k).1.length = n := by
  induction n with
  | zero => rfl
  | succ n ih => simp [gMark, ih]
theorem gMark_get {α : Type} {mk : Int → α × Int} {n i : Nat} {k : Int} (h : i < n) : (gMark mk n k).1[i]? = some (mk (gMark mk i k).2).1 := by
  induction n with
  | zero => omega
  | succ n ih =>
    simp only [gMark]
    rcases Nat.lt_or_ge i n with hi | hi
    · rw [List.getElem?_append_left (by rw [gMark_len]; exact hi), ih hi]
    · have : i = n := by omega
      subst this
      rw [List.getElem?_append_right (by rw [gMark_len]; exact Nat.le_refl _), gMark_len, Nat.sub_self]
      rfl
/-- A row, marked from below. -/
def marked {α : Type} (E : α → List AV) (mk : Int → α × Int) (l : List α) (i : Nat) (k : Int) : List (List AV) := (gMark mk i k).1.map E ++ (l.drop i).map E
theorem marked_zero {α : Type} {E : α → List AV} {mk : Int → α × Int} {l : List α} {k : Int} : marked E mk l 0 k = l.map E := by simp [marked, gMark]
theorem marked_all {α : Type} {E : α → List AV} {mk : Int → α × Int} {l : List α} {k : Int} : marked E mk l l.length k = (gMark mk l.length k).1.map E := by simp [marked]
theorem marked_len {α : Type} {E : α → List AV} {mk : Int → α × Int} {l : List α} {i : Nat} {k : Int} (h : i ≤ l.length) : (marked E mk l i k).length = l.length := by simp [marked, gMark_len]; omega
theorem marked_get {α : Type} {E : α → List AV} {mk : Int → α × Int} {l : List α} {i : Nat} {k : Int} (h : i < l.length) : (marked E mk l i k)[i]? = some (E l[i]) := by
  unfold marked
  rw [List.getElem?_append_right (by simp [gMark_len]), List.length_map, gMark_len, Nat.sub_self, List.getElem?_map, List.getElem?_drop, Nat.add_zero, List.getElem?_eq_getElem h]
  rfl
theorem marked_set {α : Type} {E : α → List AV} {mk : Int → α × Int} {l : List α} {i : Nat} {k : Int} (h : i < l.length) : (marked E mk l i k).set i (E (mk (gMark mk i k).2).1) = marked E mk l (i + 1) k := by
  unfold marked
  rw [List.set_append_right _ _ (by simp [gMark_len]), List.length_map, gMark_len, Nat.sub_self, List.drop_eq_getElem_cons h, List.map_cons, List.set_cons_zero]
  simp [gMark]
def gHeld {α : Type} (eq : α → Int → Bool) (nx : Int → Int) : List α → Int → Int
  | [], k => k
  | a :: l, k => if eq a k then gHeld eq nx l (nx k) else -1
theorem gHeld_mark {α : Type} {eq : α → Int → Bool} {mk : Int → α × Int} (he : ∀ k, eq (mk k).1 k = true) : ∀ (n i : Nat) (k : Int), i ≤ n → gHeld eq (fun k => (mk k).2) ((gMark mk n k).1.drop i) (gMark mk i k).2 = (gMark mk n k).2 := by
  intro n i k hi
  obtain ⟨d, hd⟩ : ∃ d, n = i + d := ⟨n - i, by omega⟩
  induction d generalizing i with
  | zero =>
    have : i = n := by omega
    subst this
    rw [List.drop_of_length_le (by rw [gMark_len]; exact Nat.le_refl _)]
    rfl
  | succ d ih =>
    have hlt : i < (gMark mk n k).1.length := by rw [gMark_len]; omega
    rw [List.drop_eq_getElem_cons hlt, gHeld]
    have hg := gMark_get (mk := mk) (k := k) (show i < n by omega)
    rw [List.getElem?_eq_getElem hlt] at hg
    have hg := Option.some.inj hg
    rw [hg, if_pos (he _)]
    exact ih (i + 1) (by omega) (by omega)
theorem gHeld_all {α : Type} {eq : α → Int → Bool} {mk : Int → α × Int} (he : ∀ k, eq (mk k).1 k = true) (n : Nat) (k : Int) : gHeld eq (fun k => (mk k).2) (gMark mk n k).1 k = (gMark mk n k).2 := by
  have := gHeld_mark he n 0 k (Nat.zero_le _)
  simpa [gMark] using this
theorem gMark_num {α : Type} {mk : Int → α × Int} {c : Nat} (hmk : ∀ k : Int, 0 ≤ k → k + c < 9223372036854775807 → (mk k).2 = k + c) : ∀ (n : Nat) (k : Int), 0 ≤ k → k + c * n < 9223372036854775807 → (gMark mk n k).2 = k + c * n := by
  intro n
  induction n with
  | zero => intro k h1 h2; simp [gMark]
  | succ n ih =>
    intro k h1 h2
    have e : (c : Int) * ((n + 1 : Nat) : Int) = c * n + c := by rw [Int.natCast_succ, Int.mul_add, Int.mul_one]
    rw [e] at h2 ⊢
    have hc : 0 ≤ (c : Int) * n := Int.mul_nonneg (Int.natCast_nonneg _) (Int.natCast_nonneg _)
    simp only [gMark]
    rw [ih k h1 (by omega), hmk _ (by omega) (by omega)]
    omega
/-! The text of a number -/
def digB (k : Nat) (out : ByteArray) : ByteArray := if h : k = 0 then out else digB (k / 10) (⟨#[UInt8.ofNat (48 + k % 10)]⟩ ++ out)
termination_by k
decreasing_by omega
def mText (k : Int) : ByteArray := if k ≤ 0 then ⟨#[109, 48]⟩ else ⟨#[109]⟩ ++ digB k.toNat ⟨#[]⟩
theorem digB_step {k : Nat} {out : ByteArray} (h : 0 < k) : digB k out = digB (k / 10) (⟨#[UInt8.ofNat (48 + k % 10)]⟩ ++ out) := by
  rw [digB, dif_neg (by omega)]
theorem size_one (b : UInt8) : (⟨#[b]⟩ : ByteArray).size = 1 := rfl
attribute [go_sem] bytesOf
def eqDig (a b : MDig) : Bool := !((a.a : Int) != (b.a : Int)) && (!((a.b : Int) != (b.b : Int)) && (!((a.c : Int) != (b.c : Int)) && !((a.d : Int) != (b.d : Int))))
theorem eqDig_refl (a : MDig) : eqDig a a = true := by simp [eqDig]
def eqBy (a b : ByteArray) : Bool := a.toList == b.toList
theorem eqBy_refl (a : ByteArray) : eqBy a a = true := by simp [eqBy]
theorem c22_c (l m : List ByteArray) (hl : l.length ≤ maxLen) : CallR Try.prog 22 [.ro 1 (l.map leafCs), .ro 1 (m.map leafCs)] (vB (mEqL eqBy l m)) [] := by
  refine use_of dcD6 false Try.f22 ?_
  conv => enter [1]; reduce
  refine jvR Try.f22 26 [.tmp 4] (by kernel_rfl) (by decide +kernel) rfl ?_
  simp -implicitDefEqProofs only [go_sem]
  refine condJ_intro (fun h => ?_) (fun h => ?_)
  · simp -implicitDefEqProofs only [go_sem, h]
    have h : ¬ l.length = m.length := by have := bne_iff_ne.1 h; omega
    cases hm : mEqL eqBy l m with
    | true => exact absurd (mEqL_len hm) h
    | false => rfl
  · have h0 : l.length = m.length := by have := bne_eq_false_iff_eq.1 h; omega
    simp -implicitDefEqProofs only [go_sem, h]
    refine jv_lp (fun k s => ∃ (i : Nat), i ≤ l.length ∧ k = l.length - i ∧ mEqL eqBy (l.drop i) (m.drop i) = mEqL eqBy l m ∧ s = ⟨26, [(0, .ro 1 (l.map leafCs)), (1, .ro 1 (m.map leafCs)), (5, vI i)], [], 1⟩) l.length
      (by simp -implicitDefEqProofs only [go_sem]; exact ⟨0, Nat.zero_le _, rfl, rfl, rfl⟩) ?_
    rintro k s ⟨i, hi, rfl, hx, rfl⟩
    rcases Nat.lt_or_ge i l.length with hlt | hge
    · have hlt' : (i : Int) < (l.length : Int) := by omega
      have hlm : i < m.length := by omega
      have hlm' : (i : Int) < (m.length : Int) := by omega
      have hg : l[i]? = some l[i] := List.getElem?_eq_getElem hlt
      have hg2 : m[i]? = some m[i] := List.getElem?_eq_getElem hlm
      have hw := wrap_succ hlt hl
      rw [mEqL_drop hlt hlm, eqBy] at hx
      simp -implicitDefEqProofs only [go_sem, hlt', hlm', hg, hg2]
      refine condJ_intro (fun h => ?_) (fun h => ?_)
      · simp -implicitDefEqProofs only [go_sem, h]
        have h2 : (l[i].toList == m[i].toList) = false := by simpa using h
        rw [h2] at hx
        rw [← hx]; rfl
      · have h2 : (l[i].toList == m[i].toList) = true := by simpa using h
        rw [h2] at hx
        simp -implicitDefEqProofs only [go_sem, h, hw]
        refine ⟨_, by omega, i + 1, hlt, rfl, ?_, rfl⟩
        rw [← hx]; rfl
    · have hi : i = l.length := by omega
      subst hi
      have hlt' : ¬ ((l.length : Int) < (l.length : Int)) := by omega
      rw [List.drop_length, h0, List.drop_length] at hx
      simp -implicitDefEqProofs only [go_sem, hlt']
      rw [← hx]; rfl
def mkDig (k : Int) : MDig × Int := (⟨k.toNat, (k + 1).toNat, (k + 1 + 1).toNat, (k + 1 + 1 + 1).toNat⟩, k + 1 + 1 + 1 + 1)
def digIs (d : MDig) (k : Int) : Bool := (d.a : Int) == (k.toNat : Int) && ((d.b : Int) == ((k + 1).toNat : Int) && ((d.c : Int) == ((k + 1 + 1).toNat : Int) && (d.d : Int) == ((k + 1 + 1 + 1).toNat : Int)))
theorem digIs_mk (k : Int) : digIs (mkDig k).1 k = true := by simp [digIs, mkDig]
theorem mkDig_num (n : Nat) (k : Int) : (gMark mkDig n k).2 = k + 4 * n := by
  induction n with
  | zero => simp [gMark]
  | succ n ih => simp only [gMark, mkDig, ih]; omega
theorem u64_of {z : Int} (h : 0 ≤ z ∧ z < 9223372036854775808) : IntKind.u64.wrap z = (z.toNat : Int) := by
  obtain ⟨n, rfl⟩ : ∃ n : Nat, z = n := ⟨z.toNat, by omega⟩
  rw [u64_wrap n (by omega)]
  rfl
def mkBy (k : Int) : ByteArray × Int := (mText k, k + 1)
def byIs (s : ByteArray) (k : Int) : Bool := s.toList == (mText k).toList
theorem byIs_mk (k : Int) : byIs (mkBy k).1 k = true := by simp [byIs, mkBy]
theorem mkBy_num (n : Nat) (k : Int) : (gMark mkBy n k).2 = k + n := by
  induction n with
  | zero => simp [gMark]
  | succ n ih => simp only [gMark, mkBy, ih]; omega
end Go.Proofs.Ytjlhdfciklnndaa.E
