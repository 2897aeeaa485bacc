/-
  Contracts: messages that are the same; what is marked and held.
-/
import Derived.Test.YtjlhdfciklnndaaGreatD5
namespace Go.Proofs.YtjlhdfciklnndaaGreat.E
open Go Go.RowKit
set_option maxHeartbeats 4000000
set_option maxRecDepth 10000
set_option linter.unusedSimpArgs false
set_option linter.unusedVariables false
set_option linter.unusedSectionVars false
def dcD6 : Dec := ⟨[], [9, 10, 11], [27, 30, 44, 45, 46, 58, 68, 78, 79, 86, 101, 112, 113, 132, 174, 196, 247, 249, 351, 356], false⟩

theorem wrap_succ {i n : Nat} (h : i < n) (hn : n ≤ maxLen) : IntKind.i64.wrap ((i : Int) + 1) = ((i + 1 : Nat) : Int) := by
  unfold maxLen at hn
  rw [wrS (by omega)]
  omega
def mEqL {α : Type} (e : α → α → Bool) : List α → List α → Bool
  | [], [] => true
  | a :: l, b :: m => e a b && mEqL e l m
  | _, _ => false
theorem mEqL_len {α : Type} {e : α → α → Bool} : ∀ {l m : List α}, mEqL e l m = true → l.length = m.length
  | [], [], _ => rfl
  | a :: l, b :: m, h => by simp only [mEqL, Bool.and_eq_true] at h; simp [mEqL_len h.2]
theorem mEqL_drop {α : Type} {e : α → α → Bool} {l m : List α} {i : Nat} (h : i < l.length) (k : i < m.length) : mEqL e (l.drop i) (m.drop i) = (e l[i] m[i] && mEqL e (l.drop (i + 1)) (m.drop (i + 1))) := by
  rw [List.drop_eq_getElem_cons h, List.drop_eq_getElem_cons k]; rfl
theorem mEqL_refl {α : Type} {e : α → α → Bool} (h : ∀ a, e a a = true) : ∀ l : List α, mEqL e l l = true
  | [] => rfl
  | a :: l => by simp [mEqL, h, mEqL_refl h l]
/-! What is marked, in general -/
def gMark {α : Type} (mk : Int → α × Int) : Nat → Int → List α × Int
  | 0, k => ([], k)
  | n + 1, k => ((gMark mk n k).1 ++ [(mk (gMark mk n k).2).1], (mk (gMark mk n k).2).2)
theorem gMark_len {α : Type} {mk : Int → α × Int} {n : Nat} {k : Int} : (gMark mk n k).1.length = n := by
  induction n with
  | zero => rfl
  | succ n ih => simp [gMark, ih]
theorem gMark_get {α : Type} {mk : Int → α × Int} {n i : Nat} {k : Int} (h : i < n) : (gMark mk n k).1[i]? = some (mk (gMark mk i k).2).1 := by
  induction n with
  | zero => omega
  | succ n ih =>
    simp only [gMark]
    rcases Nat.lt_or_ge i n with hi | hi
    · rw [List.getElem?_append_left (by rw [gMark_len]; exact hi), ih hi]
    · have : i = n := by omega
      subst this
      rw [List.getElem?_append_right (by rw [gMark_len]; exact Nat.le_refl _), gMark_len, Nat.sub_self]
      rfl
/-- A row, marked from below. -/
def marked {α : Type} (E : α → List AV) (mk : Int → α × Int) (l : List α) (i : Nat) (k : Int) : List (List AV) := (gMark mk i k).1.map E ++ (l.drop i).map E
theorem marked_zero {α : Type} {E : α → List AV} {mk : Int → α × Int} {l : List α} {k : Int} : marked E mk l 0 k = l.map E := by simp [marked, gMark]
theorem marked_all {α : Type} {E : α → List AV} {mk : Int → α × Int} {l : List α} {k : Int} : marked E mk l l.length k = (gMark mk l.length k).1.map E := by simp [marked]
theorem marked_len {α : Type} {E : α → List AV} {mk : Int → α × Int} {l : List α} {i : Nat} {k : Int} (h : i ≤ l.length) : (marked E mk l i k).length = l.length := by simp [marked, gMark_len]; omega
theorem marked_get {α : Type} {E : α → List AV} {mk : Int → α × Int} {l : List α} {i : Nat} {k : Int} (h : i < l.length) : (marked E mk l i k)[i]? = some (E l[i]) := by
  unfold marked
  rw [List.getElem?_append_right (by simp [gMark_len]), List.length_map, gMark_len, Nat.sub_self, List.getElem?_map, List.getElem?_drop, Nat.add_zero, List.getElem?_eq_getElem h]
  rfl
theorem marked_set {α : Type} {E : α → List AV} {mk : Int → α × Int} {l : List α} {i : Nat} {k : Int} (h : i < l.length) : (marked E mk l i k).set i (E (mk (gMark mk i k).2).1) = marked E mk l (i + 1) k := by
  unfold marked
  rw [List.set_append_right _ _ (by simp [gMark_len]), List.length_map, gMark_len, Nat.sub_self, List.drop_eq_getElem_cons h, List.map_cons, List.set_cons_zero]
  simp [gMark]
def gHeld {α : Type} (eq : α → Int → Bool) (nx : Int → Int) : List α → Int → Int
  | [], k => k
  | a :: l, k => if eq a k then gHeld eq nx l (nx k) else -1
theorem gHeld_mark {α : Type} {eq : α → Int → Bool} {mk : Int → α × Int} (he : ∀ k, eq (mk k).1 k = true) : ∀ (n i : Nat) (k : Int), i ≤ n → gHeld eq (fun k => (mk k).2) ((gMark mk n k).1.drop i) (gMark mk i k).2 = (gMark mk n k).2 := by
  intro n i k hi
  obtain ⟨d, hd⟩ : ∃ d, n = i + d := ⟨n - i, by omega⟩
  induction d generalizing i with
  | zero =>
    have : i = n := by omega
    subst this
    rw [List.drop_of_length_le (by rw [gMark_len]; exact Nat.le_refl _)]
    rfl
  | succ d ih =>
    have hlt : i < (gMark mk n k).1.length := by rw [gMark_len]; omega
    rw [List.drop_eq_getElem_cons hlt, gHeld]
    have hg := gMark_get (mk := mk) (k := k) (show i < n by omega)
    rw [List.getElem?_eq_getElem hlt] at hg
    have hg := Option.some.inj hg
    rw [hg, if_pos (he _)]
    exact ih (i + 1) (by omega) (by omega)
theorem gHeld_all {α : Type} {eq : α → Int → Bool} {mk : Int → α × Int} (he : ∀ k, eq (mk k).1 k = true) (n : Nat) (k : Int) : gHeld eq (fun k => (mk k).2) (gMark mk n k).1 k = (gMark mk n k).2 := by
  have := gHeld_mark he n 0 k (Nat.zero_le _)
  simpa [gMark] using this
theorem gMark_num {α : Type} {mk : Int → α × Int} {c : Nat} (hmk : ∀ k : Int, 0 ≤ k → k + c < 9223372036854775807 → (mk k).2 = k + c) : ∀ (n : Nat) (k : Int), 0 ≤ k → k + c * n < 9223372036854775807 → (gMark mk n k).2 = k + c * n := by
  intro n
  induction n with
  | zero => intro k h1 h2; simp [gMark]
  | succ n ih =>
    intro k h1 h2
    have e : (c : Int) * ((n + 1 : Nat) : Int) = c * n + c := by rw [Int.natCast_succ, Int.mul_add, Int.mul_one]
    rw [e] at h2 ⊢
    have hc : 0 ≤ (c : Int) * n := Int.mul_nonneg (Int.natCast_nonneg _) (Int.natCast_nonneg _)
    simp only [gMark]
    rw [ih k h1 (by omega), hmk _ (by omega) (by omega)]
    omega
/-! The text of a number -/
def digB (k : Nat) (out : ByteArray) : ByteArray := if h : k = 0 then out else digB (k / 10) (⟨#[UInt8.ofNat (48 + k % 10)]⟩ ++ out)
termination_by k
decreasing_by omega
def mText (k : Int) : ByteArray := if k ≤ 0 then ⟨#[109, 48]⟩ else ⟨#[109]⟩ ++ digB k.toNat ⟨#[]⟩
theorem digB_step {k : Nat} {out : ByteArray} (h : 0 < k) : digB k out = digB (k / 10) (⟨#[UInt8.ofNat (48 + k % 10)]⟩ ++ out) := by
  rw [digB, dif_neg (by omega)]
theorem size_one (b : UInt8) : (⟨#[b]⟩ : ByteArray).size = 1 := rfl
attribute [go_sem] bytesOf
theorem c196_c (k : Int) (hk : k ≤ 9223372036854775800) : CallR Tryz.prog 196 [vI k] (.sc (.string (mText k))) [] := by
  refine use_of dcD6 false Tryz.f196 ?_
  conv => enter [1]; reduce
  refine jvR Tryz.f196 20 [.tmp 2] (by kernel_rfl) (by decide +kernel) rfl ?_
  simp -implicitDefEqProofs only [go_sem]
  refine condJ_intro (fun h => ?_) (fun h => ?_)
  · simp -implicitDefEqProofs only [go_sem, h]
    rw [mText, if_pos (of_decide_eq_true h)]
  · have h0 : 0 < k := by have := of_decide_eq_false h; omega
    simp -implicitDefEqProofs only [go_sem, h]
    refine jv_lp (fun m s => ∃ (n : Nat) (out : ByteArray), m = n ∧ (n : Int) + out.size ≤ k ∧ digB n out = digB k.toNat ⟨#[]⟩ ∧ s = ⟨20, [(0, vI n), (3, .sc (.string out))], [], 1⟩) k.toNat ?_ ?_
    · simp -implicitDefEqProofs only [go_sem]
      exact ⟨k.toNat, ⟨#[]⟩, rfl, by simp [ByteArray.size]; omega, rfl, by rw [Int.toNat_of_nonneg (by omega)]⟩
    · rintro m s ⟨n, out, rfl, hn, hd, rfl⟩
      rcases Nat.eq_zero_or_pos m with hz | hz
      · subst hz
        rw [digB, dif_pos rfl] at hd
        have h00 : ¬(((0 : Nat) : Int) > 0) := by omega
        have hsz : ¬((((#[109] : Array UInt8).size + out.size : Nat) : Int) > 9223372036854775807) := by simp; omega
        simp -implicitDefEqProofs only [go_sem, h00, hsz]
        rw [mText, if_neg (by omega), ← hd]
      · have hpos' : 0 < m := by omega
        have hpos : (m : Int) > 0 := by omega
        have hsz : ¬((((#[UInt8.ofNat (48 + m % 10)] : Array UInt8).size + out.size : Nat) : Int) > 9223372036854775807) := by simp; omega
        have htm : ((m : Int)).tmod 10 = ((m % 10 : Nat) : Int) := by rw [Int.tmod_eq_emod_of_nonneg (by omega)]; omega
        have htd : ((m : Int)).tdiv 10 = ((m / 10 : Nat) : Int) := by rw [Int.tdiv_eq_ediv_of_nonneg (by omega)]; omega
        have hwr : (IntKind.u8.wrap (IntKind.i64.wrap (48 + ((m % 10 : Nat) : Int)))).toNat = 48 + m % 10 := by
          rw [wrS (by omega)]
          have h8 : IntKind.u8.bits = 8 := rfl
          have hs : IntKind.u8.signed = false := rfl
          simp only [IntKind.wrap, h8, hs, Bool.false_and, Bool.false_eq_true, if_false]
          omega
        simp -implicitDefEqProofs only [go_sem, hpos, hsz, htm, htd, hwr]
        refine ⟨m / 10, by omega, m / 10, ⟨#[UInt8.ofNat (48 + m % 10)]⟩ ++ out, rfl, ?_, ?_, ?_⟩
        · rw [ByteArray.size_append, size_one]; omega
        · rw [← digB_step hpos', hd]
        · rw [wrS (by omega)]
def eqDig (a b : MDig) : Bool := !((a.a : Int) != (b.a : Int)) && (!((a.b : Int) != (b.b : Int)) && (!((a.c : Int) != (b.c : Int)) && !((a.d : Int) != (b.d : Int))))
theorem eqDig_refl (a : MDig) : eqDig a a = true := by simp [eqDig]
theorem c124_c (a b : MDig) : CallR Tryz.prog 124 [.agg a.cs, .agg b.cs] (vB (eqDig a b)) [] := by
  refine use_of dcD6 false Tryz.f124 ?_
  conv => enter [1]; reduce
  refine jvR Tryz.f124 25 [.tmp 4] (by kernel_rfl) (by decide +kernel) rfl ?_
  simp -implicitDefEqProofs only [go_sem, eqDig]
  repeat' first | (refine guardP_intro (fun h => ?_) (fun h => ?_) <;> try simp -implicitDefEqProofs only [go_sem, h]) | (refine condJ_intro (fun h => ?_) (fun h => ?_) <;> try simp -implicitDefEqProofs only [go_sem, h])
  all_goals simp_all
def eqBy (a b : ByteArray) : Bool := a.toList == b.toList
theorem eqBy_refl (a : ByteArray) : eqBy a a = true := by simp [eqBy]
theorem c39_c (l m : List MDig) (hl : l.length ≤ maxLen) : CallR Tryz.prog 39 [.ro 4 (l.map MDig.cs), .ro 4 (m.map MDig.cs)] (vB (mEqL eqDig l m)) [] := by
  refine use_of dcD6 false Tryz.f39 ?_
  conv => enter [1]; reduce
  refine jvR Tryz.f39 27 [.tmp 4] (by kernel_rfl) (by decide +kernel) rfl ?_
  simp -implicitDefEqProofs only [go_sem]
  refine condJ_intro (fun h => ?_) (fun h => ?_)
  · simp -implicitDefEqProofs only [go_sem, h]
    have h : ¬ l.length = m.length := by have := bne_iff_ne.1 h; omega
    cases hm : mEqL eqDig l m with
    | true => exact absurd (mEqL_len hm) h
    | false => rfl
  · have h0 : l.length = m.length := by have := bne_eq_false_iff_eq.1 h; omega
    simp -implicitDefEqProofs only [go_sem, h]
    refine jv_lp (fun k s => ∃ (i : Nat), i ≤ l.length ∧ k = l.length - i ∧ mEqL eqDig (l.drop i) (m.drop i) = mEqL eqDig l m ∧ s = ⟨27, [(0, .ro 4 (l.map MDig.cs)), (1, .ro 4 (m.map MDig.cs)), (5, vI i)], [], 1⟩) l.length
      (by simp -implicitDefEqProofs only [go_sem]; exact ⟨0, Nat.zero_le _, rfl, rfl, rfl⟩) ?_
    rintro k s ⟨i, hi, rfl, hx, rfl⟩
    rcases Nat.lt_or_ge i l.length with hlt | hge
    · have hlt' : (i : Int) < (l.length : Int) := by omega
      have hlm : i < m.length := by omega
      have hlm' : (i : Int) < (m.length : Int) := by omega
      have hg : l[i]? = some l[i] := List.getElem?_eq_getElem hlt
      have hg2 : m[i]? = some m[i] := List.getElem?_eq_getElem hlm
      have hw := wrap_succ hlt hl
      rw [mEqL_drop hlt hlm] at hx
      simp -implicitDefEqProofs only [go_sem, hlt', hlm', hg, hg2]
      refine Want.intro (c124_c _ _) ?_
      simp -implicitDefEqProofs only [go_sem]
      refine condJ_intro (fun h => ?_) (fun h => ?_)
      · simp -implicitDefEqProofs only [go_sem, h]
        simp_all
      · simp -implicitDefEqProofs only [go_sem, h, hw]
        refine ⟨_, by omega, i + 1, hlt, rfl, ?_, rfl⟩
        simp_all
    · have hi : i = l.length := by omega
      subst hi
      have hlt' : ¬ ((l.length : Int) < (l.length : Int)) := by omega
      rw [List.drop_length, h0, List.drop_length] at hx
      simp -implicitDefEqProofs only [go_sem, hlt']
      rw [← hx]; rfl
theorem c82_c (l m : List ByteArray) (hl : l.length ≤ maxLen) : CallR Tryz.prog 82 [.ro 1 (l.map leafCs), .ro 1 (m.map leafCs)] (vB (mEqL eqBy l m)) [] := by
  refine use_of dcD6 false Tryz.f82 ?_
  conv => enter [1]; reduce
  refine jvR Tryz.f82 26 [.tmp 4] (by kernel_rfl) (by decide +kernel) rfl ?_
  simp -implicitDefEqProofs only [go_sem]
  refine condJ_intro (fun h => ?_) (fun h => ?_)
  · simp -implicitDefEqProofs only [go_sem, h]
    have h : ¬ l.length = m.length := by have := bne_iff_ne.1 h; omega
    cases hm : mEqL eqBy l m with
    | true => exact absurd (mEqL_len hm) h
    | false => rfl
  · have h0 : l.length = m.length := by have := bne_eq_false_iff_eq.1 h; omega
    simp -implicitDefEqProofs only [go_sem, h]
    refine jv_lp (fun k s => ∃ (i : Nat), i ≤ l.length ∧ k = l.length - i ∧ mEqL eqBy (l.drop i) (m.drop i) = mEqL eqBy l m ∧ s = ⟨26, [(0, .ro 1 (l.map leafCs)), (1, .ro 1 (m.map leafCs)), (5, vI i)], [], 1⟩) l.length
      (by simp -implicitDefEqProofs only [go_sem]; exact ⟨0, Nat.zero_le _, rfl, rfl, rfl⟩) ?_
    rintro k s ⟨i, hi, rfl, hx, rfl⟩
    rcases Nat.lt_or_ge i l.length with hlt | hge
    · have hlt' : (i : Int) < (l.length : Int) := by omega
      have hlm : i < m.length := by omega
      have hlm' : (i : Int) < (m.length : Int) := by omega
      have hg : l[i]? = some l[i] := List.getElem?_eq_getElem hlt
      have hg2 : m[i]? = some m[i] := List.getElem?_eq_getElem hlm
      have hw := wrap_succ hlt hl
      rw [mEqL_drop hlt hlm, eqBy] at hx
      simp -implicitDefEqProofs only [go_sem, hlt', hlm', hg, hg2]
      refine condJ_intro (fun h => ?_) (fun h => ?_)
      · simp -implicitDefEqProofs only [go_sem, h]
        have h2 : (l[i].toList == m[i].toList) = false := by simpa using h
        rw [h2] at hx
        rw [← hx]; rfl
      · have h2 : (l[i].toList == m[i].toList) = true := by simpa using h
        rw [h2] at hx
        simp -implicitDefEqProofs only [go_sem, h, hw]
        refine ⟨_, by omega, i + 1, hlt, rfl, ?_, rfl⟩
        rw [← hx]; rfl
    · have hi : i = l.length := by omega
      subst hi
      have hlt' : ¬ ((l.length : Int) < (l.length : Int)) := by omega
      rw [List.drop_length, h0, List.drop_length] at hx
      simp -implicitDefEqProofs only [go_sem, hlt']
      rw [← hx]; rfl
def mkDig (k : Int) : MDig × Int := (⟨k.toNat, (k + 1).toNat, (k + 1 + 1).toNat, (k + 1 + 1 + 1).toNat⟩, k + 1 + 1 + 1 + 1)
def digIs (d : MDig) (k : Int) : Bool := (d.a : Int) == (k.toNat : Int) && ((d.b : Int) == ((k + 1).toNat : Int) && ((d.c : Int) == ((k + 1 + 1).toNat : Int) && (d.d : Int) == ((k + 1 + 1 + 1).toNat : Int)))
theorem digIs_mk (k : Int) : digIs (mkDig k).1 k = true := by simp [digIs, mkDig]
theorem mkDig_num (n : Nat) (k : Int) : (gMark mkDig n k).2 = k + 4 * n := by
  induction n with
  | zero => simp [gMark]
  | succ n ih => simp only [gMark, mkDig, ih]; omega
theorem u64_of {z : Int} (h : 0 ≤ z ∧ z < 9223372036854775808) : IntKind.u64.wrap z = (z.toNat : Int) := by
  obtain ⟨n, rfl⟩ : ∃ n : Nat, z = n := ⟨z.toNat, by omega⟩
  rw [u64_wrap n (by omega)]
  rfl
def mkBy (k : Int) : ByteArray × Int := (mText k, k + 1)
def byIs (s : ByteArray) (k : Int) : Bool := s.toList == (mText k).toList
theorem byIs_mk (k : Int) : byIs (mkBy k).1 k = true := by simp [byIs, mkBy]
theorem mkBy_num (n : Nat) (k : Int) : (gMark mkBy n k).2 = k + n := by
  induction n with
  | zero => simp [gMark]
  | succ n ih => simp only [gMark, mkBy, ih]; omega
theorem c258_c (l : List MDig) (k : Int) (hl : l.length ≤ maxLen) (hk : 0 ≤ k ∧ k + 4 * l.length ≤ 9223372036854775800) : CallM Tryz.prog 258 [(1000000, 0, one ⟨4, l.map MDig.cs, 2, false⟩)] [.blk 1000000 0 [] 4 0 l.length, vI k] (vI (gMark mkDig l.length k).2) [(1000000, 0, one ⟨4, (gMark mkDig l.length k).1.map MDig.cs, 2, false⟩)] := by
  refine use_of dcD6 false Tryz.f258 ?_
  conv => enter [1]; reduce
  refine jvM Tryz.f258 45 [.tmp 4] (by kernel_rfl) (by decide +kernel) rfl ?_
  simp -implicitDefEqProofs only [go_sem]
  refine jv_lp (fun m s => ∃ (i : Nat), i ≤ l.length ∧ m = l.length - i ∧ s = ⟨45, [(0, .blk 1000000 0 [] 4 0 l.length), (1, vI (gMark mkDig i k).2), (5, vI i)], [(1000000, 0, one ⟨4, marked MDig.cs mkDig l i k, 2, false⟩)], 1⟩) l.length ?_ ?_
  · simp -implicitDefEqProofs only [go_sem]
    exact ⟨0, Nat.zero_le _, rfl, by simp [marked_zero, gMark]⟩
  · rintro m s ⟨i, hi, rfl, rfl⟩
    rcases Nat.lt_or_ge i l.length with hlt | hge
    · have hlt' : (i : Int) < (l.length : Int) := by omega
      have hw := wrap_succ hlt hl
      have hnum := mkDig_num i k
      have hset := marked_set (E := MDig.cs) (mk := mkDig) (k := k) hlt
      have hget := marked_get (E := MDig.cs) (mk := mkDig) (k := k) hlt
      have hlen := marked_len (E := MDig.cs) (mk := mkDig) (k := k) hi
      have hnx : (gMark mkDig (i + 1) k).2 = (gMark mkDig i k).2 + 1 + 1 + 1 + 1 := rfl
      generalize marked MDig.cs mkDig l i k = L at *
      generalize hzz : (gMark mkDig i k).2 = z at *
      have h1 : IntKind.i64.wrap (z + 1) = z + 1 := wrS (by omega)
      have h2 : IntKind.i64.wrap (z + 1 + 1) = z + 1 + 1 := wrS (by omega)
      have h3 : IntKind.i64.wrap (z + 1 + 1 + 1) = z + 1 + 1 + 1 := wrS (by omega)
      have h4 : IntKind.i64.wrap (z + 1 + 1 + 1 + 1) = z + 1 + 1 + 1 + 1 := wrS (by omega)
      have u1 : IntKind.u64.wrap z = (z.toNat : Int) := u64_of (by omega)
      have u2 : IntKind.u64.wrap (z + 1) = ((z + 1).toNat : Int) := u64_of (by omega)
      have u3 : IntKind.u64.wrap (z + 1 + 1) = ((z + 1 + 1).toNat : Int) := u64_of (by omega)
      have u4 : IntKind.u64.wrap (z + 1 + 1 + 1) = ((z + 1 + 1 + 1).toNat : Int) := u64_of (by omega)
      have hself : ∀ x, (L.set i x)[i]? = some x := fun x => List.getElem?_set_self (by omega)
      simp -implicitDefEqProofs only [go_sem, hlt', hw, hlen, hget, h1, h2, h3, h4, u1, u2, u3, u4, hself]
      refine ⟨_, by omega, i + 1, hlt, rfl, ?_⟩
      rw [hnx, ← hset]
      rfl
    · have hi : i = l.length := by omega
      subst hi
      have hlt' : ¬ ((l.length : Int) < (l.length : Int)) := by omega
      have hlen := marked_len (E := MDig.cs) (mk := mkDig) (k := k) hi
      simp -implicitDefEqProofs only [go_sem, hlt', marked_all]
theorem c260_c (l : List MDig) (k : Int) (hl : l.length ≤ maxLen) (hk : 0 ≤ k ∧ k + 4 * l.length ≤ 9223372036854775800) : CallR Tryz.prog 260 [.ro 4 (l.map MDig.cs), vI k] (vI (gHeld digIs (fun k => k + 1 + 1 + 1 + 1) l k)) [] := by
  refine use_of dcD6 false Tryz.f260 ?_
  conv => enter [1]; reduce
  refine jvR Tryz.f260 53 [.tmp 4] (by kernel_rfl) (by decide +kernel) rfl ?_
  simp -implicitDefEqProofs only [go_sem]
  refine jv_lp (fun m s => ∃ (i : Nat) (z : Int), i ≤ l.length ∧ m = l.length - i ∧ 0 ≤ z ∧ z = k + 4 * i ∧ gHeld digIs (fun k => k + 1 + 1 + 1 + 1) (l.drop i) z = gHeld digIs (fun k => k + 1 + 1 + 1 + 1) l k ∧ s = ⟨53, [(0, .ro 4 (l.map MDig.cs)), (1, vI z), (5, vI i)], [], 1⟩) l.length ?_ ?_
  · simp -implicitDefEqProofs only [go_sem]
    exact ⟨0, k, Nat.zero_le _, rfl, by omega, by omega, rfl, rfl⟩
  · rintro m s ⟨i, z, hi, rfl, hz0, hz, hx, rfl⟩
    rcases Nat.lt_or_ge i l.length with hlt | hge
    · have hlt' : (i : Int) < (l.length : Int) := by omega
      have hw := wrap_succ hlt hl
      have hg : l[i]? = some l[i] := List.getElem?_eq_getElem hlt
      rw [List.drop_eq_getElem_cons hlt, gHeld, digIs] at hx
      have h1 : IntKind.i64.wrap (z + 1) = z + 1 := wrS (by omega)
      have h2 : IntKind.i64.wrap (z + 1 + 1) = z + 1 + 1 := wrS (by omega)
      have h3 : IntKind.i64.wrap (z + 1 + 1 + 1) = z + 1 + 1 + 1 := wrS (by omega)
      have h4 : IntKind.i64.wrap (z + 1 + 1 + 1 + 1) = z + 1 + 1 + 1 + 1 := wrS (by omega)
      have u1 : IntKind.u64.wrap z = (z.toNat : Int) := u64_of (by omega)
      have u2 : IntKind.u64.wrap (z + 1) = ((z + 1).toNat : Int) := u64_of (by omega)
      have u3 : IntKind.u64.wrap (z + 1 + 1) = ((z + 1 + 1).toNat : Int) := u64_of (by omega)
      have u4 : IntKind.u64.wrap (z + 1 + 1 + 1) = ((z + 1 + 1 + 1).toNat : Int) := u64_of (by omega)
      generalize hq1 : (z.toNat : Int) = q1 at *
      generalize hq2 : ((z + 1).toNat : Int) = q2 at *
      generalize hq3 : ((z + 1 + 1).toNat : Int) = q3 at *
      generalize hq4 : ((z + 1 + 1 + 1).toNat : Int) = q4 at *
      simp -implicitDefEqProofs only [go_sem, hlt', hg, u1]
      repeat' first | (refine guardP_intro (fun h => ?_) (fun h => ?_) <;> try simp -implicitDefEqProofs only [go_sem, hlt', hg, hw, h1, h2, h3, h4, u1, u2, u3, u4, h]) | (refine condJ_intro (fun h => ?_) (fun h => ?_) <;> try simp -implicitDefEqProofs only [go_sem, hlt', hg, hw, h1, h2, h3, h4, u1, u2, u3, u4, h])
      all_goals first
        | (refine ⟨_, by omega, i + 1, _, hlt, rfl, by omega, by omega, ?_, rfl⟩; rw [← hx]; simp_all; done)
        | (rw [← hx]; simp_all; done)
        | trace_state
    · have hi : i = l.length := by omega
      subst hi
      have hlt' : ¬ ((l.length : Int) < (l.length : Int)) := by omega
      rw [List.drop_length, gHeld] at hx
      simp -implicitDefEqProofs only [go_sem, hlt']
      rw [hx]
theorem c85_c (l : List ByteArray) (k : Int) (hl : l.length ≤ maxLen) (hk : 0 ≤ k ∧ k + l.length ≤ 9223372036854775800) : CallM Tryz.prog 85 [(1000000, 0, one ⟨1, l.map leafCs, 2, false⟩)] [.blk 1000000 0 [] 1 0 l.length, vI k] (vI (gMark mkBy l.length k).2) [(1000000, 0, one ⟨1, (gMark mkBy l.length k).1.map leafCs, 2, false⟩)] := by
  refine use_of dcD6 false Tryz.f85 ?_
  conv => enter [1]; reduce
  refine jvM Tryz.f85 20 [.tmp 4] (by kernel_rfl) (by decide +kernel) rfl ?_
  simp -implicitDefEqProofs only [go_sem]
  refine jv_lp (fun m s => ∃ (i : Nat), i ≤ l.length ∧ m = l.length - i ∧ s = ⟨20, [(0, .blk 1000000 0 [] 1 0 l.length), (1, vI (gMark mkBy i k).2), (5, vI i)], [(1000000, 0, one ⟨1, marked leafCs mkBy l i k, 2, false⟩)], 1⟩) l.length ?_ ?_
  · simp -implicitDefEqProofs only [go_sem]
    exact ⟨0, Nat.zero_le _, rfl, by simp [marked_zero, gMark]⟩
  · rintro m s ⟨i, hi, rfl, rfl⟩
    rcases Nat.lt_or_ge i l.length with hlt | hge
    · have hlt' : (i : Int) < (l.length : Int) := by omega
      have hw := wrap_succ hlt hl
      have hnum := mkBy_num i k
      have hset := marked_set (E := leafCs) (mk := mkBy) (k := k) hlt
      have hget := marked_get (E := leafCs) (mk := mkBy) (k := k) hlt
      have hlen := marked_len (E := leafCs) (mk := mkBy) (k := k) hi
      have hnx : (gMark mkBy (i + 1) k).2 = (gMark mkBy i k).2 + 1 := rfl
      generalize marked leafCs mkBy l i k = L at *
      generalize hzz : (gMark mkBy i k).2 = z at *
      have h1 : IntKind.i64.wrap (z + 1) = z + 1 := wrS (by omega)
      have hself : ∀ x, (L.set i x)[i]? = some x := fun x => List.getElem?_set_self (by omega)
      simp -implicitDefEqProofs only [go_sem, hlt', hw, hlen, hget, h1, hself]
      refine Want.intro (c196_c _ (by omega)) ?_
      simp -implicitDefEqProofs only [go_sem, hlt', hw, hlen, hget, h1, hself]
      refine ⟨_, by omega, i + 1, hlt, rfl, ?_⟩
      rw [hnx, ← hset]
      rfl
    · have hi : i = l.length := by omega
      subst hi
      have hlt' : ¬ ((l.length : Int) < (l.length : Int)) := by omega
      have hlen := marked_len (E := leafCs) (mk := mkBy) (k := k) hi
      simp -implicitDefEqProofs only [go_sem, hlt', marked_all]
theorem c198_c (l : List ByteArray) (k : Int) (hl : l.length ≤ maxLen) (hk : 0 ≤ k ∧ k + l.length ≤ 9223372036854775800) : CallR Tryz.prog 198 [.ro 1 (l.map leafCs), vI k] (vI (gHeld byIs (fun k => k + 1) l k)) [] := by
  refine use_of dcD6 false Tryz.f198 ?_
  conv => enter [1]; reduce
  refine jvR Tryz.f198 22 [.tmp 4] (by kernel_rfl) (by decide +kernel) rfl ?_
  simp -implicitDefEqProofs only [go_sem]
  refine jv_lp (fun m s => ∃ (i : Nat) (z : Int), i ≤ l.length ∧ m = l.length - i ∧ 0 ≤ z ∧ z = k + i ∧ gHeld byIs (fun k => k + 1) (l.drop i) z = gHeld byIs (fun k => k + 1) l k ∧ s = ⟨22, [(0, .ro 1 (l.map leafCs)), (1, vI z), (5, vI i)], [], 1⟩) l.length ?_ ?_
  · simp -implicitDefEqProofs only [go_sem]
    exact ⟨0, k, Nat.zero_le _, rfl, by omega, by omega, rfl, rfl⟩
  · rintro m s ⟨i, z, hi, rfl, hz0, hz, hx, rfl⟩
    rcases Nat.lt_or_ge i l.length with hlt | hge
    · have hlt' : (i : Int) < (l.length : Int) := by omega
      have hw := wrap_succ hlt hl
      have hg : l[i]? = some l[i] := List.getElem?_eq_getElem hlt
      rw [List.drop_eq_getElem_cons hlt, gHeld, byIs] at hx
      have h1 : IntKind.i64.wrap (z + 1) = z + 1 := wrS (by omega)
      simp -implicitDefEqProofs only [go_sem, hlt', hg]
      refine Want.intro (c196_c z (by omega)) ?_
      simp -implicitDefEqProofs only [go_sem, hlt', hg]
      refine condJ_intro (fun h => ?_) (fun h => ?_)
      · have h2 : (l[i].toList == (mText z).toList) = false := by simpa using h
        rw [h2] at hx
        simp -implicitDefEqProofs only [go_sem, h]
        rw [← hx]; rfl
      · have h2 : (l[i].toList == (mText z).toList) = true := by simpa using h
        rw [h2] at hx
        simp -implicitDefEqProofs only [go_sem, h, hw, h1]
        exact ⟨_, by omega, i + 1, _, hlt, rfl, by omega, by omega, hx, rfl⟩
    · have hi : i = l.length := by omega
      subst hi
      have hlt' : ¬ ((l.length : Int) < (l.length : Int)) := by omega
      rw [List.drop_length, gHeld] at hx
      simp -implicitDefEqProofs only [go_sem, hlt']
      rw [hx]
end Go.Proofs.YtjlhdfciklnndaaGreat.E
