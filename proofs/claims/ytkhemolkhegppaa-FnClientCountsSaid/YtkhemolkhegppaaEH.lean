/-
  E, part H: the contract of a function out of its code.
-/
import Derived.Test.YtkhemolkhegppaaEP
namespace Go.Proofs.Ytkhemolkhegppaa.E
open Go Go.RowKit
set_option linter.unusedVariables false

/-- A row that a result names: its name in the callee, its place in the result. -/
structure GE where
  r : Nat
  g : Nat
  p : List Nat
  q : List Nat
  row : Row

def gatherC (σ : Sig) (q : List Nat) : AV → Option (AV × List GE)
  | .blk r g p sz off len => match rowAt σ r g p with
    | some row => match Nat.beq off 0, Nat.beq len row.es.length, Nat.ble 1 row.fl with
      | true, true, true => some (.blk 0 0 q sz 0 len, [⟨r, g, p, q, row⟩])
      | _, _, _ => none
    | none => none
  | .ptr .. | .agg _ | .tup _ | .dead | .rp _ | .it _ => none
  | v => some (v, [])
def gatherL (σ : Sig) (q : List Nat) : Nat → List AV → Option (List AV × List GE)
  | _, [] => some ([], [])
  | k, c :: cs => match gatherC σ (q ++ [k]) c with
    | some (c', l) => match gatherL σ q (k + 1) cs with
      | some (cs', l') => some (c' :: cs', l ++ l')
      | none => none
    | none => none
def gatherA (σ : Sig) (q : List Nat) : AV → Option (AV × List GE)
  | .agg cs => match gatherL σ q 0 cs with
    | some (cs', l) => some (.agg cs', l)
    | none => none
  | v => gatherC σ q v
def gatherT (σ : Sig) : Nat → List AV → Option (List AV × List GE)
  | _, [] => some ([], [])
  | k, c :: cs => match gatherA σ [k] c with
    | some (c', l) => match gatherT σ (k + 1) cs with
      | some (cs', l') => some (c' :: cs', l ++ l')
      | none => none
    | none => none
def gather (σ : Sig) : List AV → Option (AV × List GE)
  | [v] => gatherA σ [] v
  | vs => match gatherT σ 0 vs with
    | some (vs', l) => some (.tup vs', l)
    | none => none

def beqL : List Nat → List Nat → Bool
  | [], [] => true
  | a :: l, b :: m => match a == b with
    | true => beqL l m
    | false => false
  | _, _ => false
theorem beqL_refl : ∀ l : List Nat, beqL l l = true
  | [] => rfl
  | a :: l => by simp [beqL, beqL_refl l]
def apartFrom (e : GE) : List GE → Bool
  | [] => true
  | f :: l => match beqL e.q f.q, (match e.r == f.r with | true => beqL e.p f.p | false => false) with
    | false, false => apartFrom e l
    | _, _ => false
def allApart : List GE → Bool
  | [] => true
  | e :: l => match apartFrom e l with
    | true => allApart l
    | false => false

section
variable {P : Program} {rd : RD} {φ : Phi} {O : Nat → Prop} {w0 w : World} {σ : Sig}

theorem apartFrom_spec {e : GE} : ∀ {l : List GE}, apartFrom e l = true → ∀ f ∈ l, e.q ≠ f.q ∧ ¬ (e.r = f.r ∧ e.p = f.p)
  | [], _, f, hf => by simp at hf
  | x :: l, h, f, hf => by
    simp only [apartFrom] at h
    split at h
    · rename_i h1 h2
      rcases List.mem_cons.1 hf with rfl | hf
      · refine ⟨fun e' => ?_, fun ⟨e1, e2⟩ => ?_⟩
        · rw [e', beqL_refl] at h1; cases h1
        · have : (e.r == f.r) = true := by simp [e1]
          rw [this, e2, beqL_refl] at h2
          cases h2
      · exact apartFrom_spec h f hf
    · cases h

theorem allApart_spec : ∀ {l : List GE}, allApart l = true → ∀ (i j : Nat) (e f : GE), l[i]? = some e → l[j]? = some f → (e.q = f.q ∨ (e.r = f.r ∧ e.p = f.p)) → i = j
  | [], _, i, j, e, f, he, _, _ => by simp at he
  | x :: l, h, i, j, e, f, he, hf, hh => by
    simp only [allApart] at h
    split at h
    · rename_i h1
      have hs := apartFrom_spec h1
      cases i with
      | zero =>
        cases j with
        | zero => rfl
        | succ j =>
          cases he
          have hf' : l[j]? = some f := by simpa using hf
          have := hs f (List.mem_of_getElem? hf')
          exact (hh.elim (fun h => this.1 h) (fun h => this.2 h)).elim
      | succ i =>
        cases j with
        | zero =>
          cases hf
          have he' : l[i]? = some e := by simpa using he
          have := hs e (List.mem_of_getElem? he')
          exact (hh.elim (fun h => this.1 h.symm) (fun h => this.2 ⟨h.1.symm, h.2.symm⟩)).elim
        | succ j =>
          have := allApart_spec h i j e f (by simpa using he) (by simpa using hf) hh
          omega
    · cases h

def Sound (rd : RD) (φ : Phi) (σ : Sig) (c' : AV) (l : List GE) (v : Value) : Prop :=
  (∀ e ∈ l, rowAt σ e.r e.g e.p = some e.row ∧ 1 ≤ e.row.fl) ∧ ∀ ψ : List Nat → Option Pl, (∀ e ∈ l, ψ e.q = φ e.r e.g e.p) → VRel rd (phi0 ψ) c' v

theorem gatherC_sound {q : List Nat} {c c' : AV} {l : List GE} {v : Value} (hv : VRel rd φ c v) (h : gatherC σ q c = some (c', l)) : Sound rd φ σ c' l v := by
  have triv : ∀ {c : AV}, sf c = true → VRel rd φ c v → some (c, []) = some (c', l) → Sound rd φ σ c' l v := by
    intro c hs hv h
    cases h
    exact ⟨fun e he => by simp at he, fun ψ _ => hv.of_sf hs⟩
  cases c with
  | blk r g p sz off len =>
    simp only [gatherC] at h
    split at h
    · rename_i row hrow
      split at h
      · rename_i h1 h2 h3
        cases h
        have h1 := Nat.eq_of_beq_eq_true h1
        subst h1
        refine ⟨fun e he => ?_, fun ψ hψ => ?_⟩
        · rw [List.mem_singleton.1 he]; exact ⟨hrow, Nat.le_of_ble_eq_true h3⟩
        · cases hv with
          | blk _ _ _ _ _ _ pl A hφ hA hl =>
            have hq := hψ ⟨r, g, p, q, row⟩ (by simp)
            simp only at hq
            rw [hφ] at hq
            exact .blk 0 0 q sz 0 len pl A hq hA hl
      · cases h
    · cases h
  | sc v => exact triv rfl hv h
  | nilS => exact triv rfl hv h
  | ro sz es => exact triv rfl hv h
  | _ => cases h

theorem gatherL_sound {q : List Nat} : ∀ {k : Nat} {cs cs' : List AV} {l : List GE} {vs : List Value}, PW rd φ cs vs → gatherL σ q k cs = some (cs', l) →
    (∀ e ∈ l, rowAt σ e.r e.g e.p = some e.row ∧ 1 ≤ e.row.fl) ∧ ∀ ψ : List Nat → Option Pl, (∀ e ∈ l, ψ e.q = φ e.r e.g e.p) → PW rd (phi0 ψ) cs' vs
  | k, [], cs', l, vs, hp, h => by
    cases h
    have : vs = [] := List.eq_nil_of_length_eq_zero hp.1.symm
    subst this
    exact ⟨fun e he => by simp at he, fun _ _ => PW.nil⟩
  | k, c :: cs, cs', l, vs, hp, h => by
    cases vs with
    | nil => exact absurd hp.1 (by simp)
    | cons v vs =>
      simp only [gatherL] at h
      split at h
      · rename_i c1 l1 hc
        split at h
        · rename_i cs1 l2 hcs
          cases h
          obtain ⟨v', hv', hr⟩ := hp.2 0 c rfl
          cases hv'
          have hp2 : PW rd φ cs vs := ⟨by simpa using hp.1, fun j c hc => by simpa using hp.2 (j + 1) c (by simpa using hc)⟩
          obtain ⟨a1, a2⟩ := gatherC_sound hr hc
          obtain ⟨b1, b2⟩ := gatherL_sound hp2 hcs
          refine ⟨fun e he => (List.mem_append.1 he).elim (a1 e) (b1 e), fun ψ hψ => ?_⟩
          have x := a2 ψ (fun e he => hψ e (by simp [he]))
          have y := b2 ψ (fun e he => hψ e (by simp [he]))
          exact ⟨by simp [y.1], fun j c hc => by
            cases j with
            | zero => cases hc; exact ⟨v, rfl, x⟩
            | succ j => simpa using y.2 j c (by simpa using hc)⟩
        · cases h
      · cases h

theorem gatherA_sound {q : List Nat} {c c' : AV} {l : List GE} {v : Value} (hv : VRel rd φ c v) (h : gatherA σ q c = some (c', l)) : Sound rd φ σ c' l v := by
  cases c with
  | agg cs =>
    simp only [gatherA] at h
    split at h
    · rename_i cs1 l1 hcs
      cases h
      obtain ⟨arr, rfl, hp⟩ := PW.of_agg hv
      obtain ⟨a1, a2⟩ := gatherL_sound hp hcs
      exact ⟨a1, fun ψ hψ => PW.agg (a2 ψ hψ)⟩
    · cases h
  | _ => exact gatherC_sound (q := q) hv h

theorem gatherT_sound : ∀ {k : Nat} {cs cs' : List AV} {l : List GE} {vs : List Value}, PW rd φ cs vs → gatherT σ k cs = some (cs', l) →
    (∀ e ∈ l, rowAt σ e.r e.g e.p = some e.row ∧ 1 ≤ e.row.fl) ∧ ∀ ψ : List Nat → Option Pl, (∀ e ∈ l, ψ e.q = φ e.r e.g e.p) → PW rd (phi0 ψ) cs' vs
  | k, [], cs', l, vs, hp, h => by
    cases h
    have : vs = [] := List.eq_nil_of_length_eq_zero hp.1.symm
    subst this
    exact ⟨fun e he => by simp at he, fun _ _ => PW.nil⟩
  | k, c :: cs, cs', l, vs, hp, h => by
    cases vs with
    | nil => exact absurd hp.1 (by simp)
    | cons v vs =>
      simp only [gatherT] at h
      split at h
      · rename_i c1 l1 hc
        split at h
        · rename_i cs1 l2 hcs
          cases h
          obtain ⟨v', hv', hr⟩ := hp.2 0 c rfl
          cases hv'
          have hp2 : PW rd φ cs vs := ⟨by simpa using hp.1, fun j c hc => by simpa using hp.2 (j + 1) c (by simpa using hc)⟩
          obtain ⟨a1, a2⟩ := gatherA_sound hr hc
          obtain ⟨b1, b2⟩ := gatherT_sound hp2 hcs
          refine ⟨fun e he => (List.mem_append.1 he).elim (a1 e) (b1 e), fun ψ hψ => ?_⟩
          have x := a2 ψ (fun e he => hψ e (by simp [he]))
          have y := b2 ψ (fun e he => hψ e (by simp [he]))
          exact ⟨by simp [y.1], fun j c hc => by
            cases j with
            | zero => cases hc; exact ⟨v, rfl, x⟩
            | succ j => simpa using y.2 j c (by simpa using hc)⟩
        · cases h
      · cases h

theorem gather_sound {vs : List AV} {c' : AV} {l : List GE} {v : Value} (hv : VRel rd φ (packRes vs) v) (h : gather σ vs = some (c', l)) : Sound rd φ σ c' l v := by
  have many : packRes vs = .tup vs → (match gatherT σ 0 vs with | some (vs', l) => some (AV.tup vs', l) | none => none) = some (c', l) → Sound rd φ σ c' l v := by
    intro hp h
    rw [hp] at hv
    split at h
    · rename_i cs1 l1 hcs
      cases h
      obtain ⟨arr, rfl, hp⟩ := PW.of_tup hv
      obtain ⟨a1, a2⟩ := gatherT_sound hp hcs
      exact ⟨a1, fun ψ hψ => PW.tup (a2 ψ hψ)⟩
    · cases h
  match vs, hv, h, many with
  | [x], hv, h, _ => exact gatherA_sound hv h
  | [], _, h, many => exact many rfl h
  | _ :: _ :: _, _, h, many => exact many rfl h

def rowsOf : List GE → List (List Nat × Row)
  | [] => []
  | e :: l => (e.q, e.row) :: rowsOf l
def psiOf (φ : Phi) : List GE → List Nat → Option Pl
  | [], _ => none
  | e :: l, q => if q = e.q then φ e.r e.g e.p else psiOf φ l q

theorem lookF_rowsOf : ∀ {l : List GE} {p : List Nat} {row : Row}, lookF (rowsOf l) p = some row → ∃ (i : Nat) (e : GE), l[i]? = some e ∧ e.q = p ∧ e.row = row
  | [], _, _, h => by cases h
  | e :: l, p, row, h => by
    simp only [rowsOf, lookF] at h
    split at h
    · rename_i hp; cases h; exact ⟨0, e, rfl, hp.symm, rfl⟩
    · obtain ⟨i, f, h1, h2, h3⟩ := lookF_rowsOf h; exact ⟨i + 1, f, by simpa using h1, h2, h3⟩
theorem psiOf_spec : ∀ {l : List GE}, allApart l = true → ∀ e ∈ l, psiOf φ l e.q = φ e.r e.g e.p
  | [], _, e, he => by simp at he
  | x :: l, h, e, he => by
    simp only [allApart] at h
    split at h
    · rename_i h1
      simp only [psiOf]
      rcases List.mem_cons.1 he with rfl | he
      · simp
      · have := (apartFrom_spec h1 e he).1
        rw [if_neg (fun hh => this hh.symm)]
        exact psiOf_spec h e he
    · cases h

/-- What a result names, and nothing else, is handed back. -/
theorem HRel.back (h : HRel rd φ O w0 σ w) {l : List GE} (hl : ∀ e ∈ l, rowAt σ e.r e.g e.p = some e.row ∧ 1 ≤ e.row.fl) (ha : allApart l = true) :
    HRel rd (phi0 (psiOf φ l)) O w0 (sigOf (rowsOf l)) w := by
  have hcase : ∀ {r g p row}, rowAt (sigOf (rowsOf l)) r g p = some row → ∃ (i : Nat) (e : GE), l[i]? = some e ∧ e.q = p ∧ e.row = row ∧ rowAt σ e.r e.g e.p = some row ∧ 1 ≤ row.fl ∧ r = 0 ∧ phi0 (psiOf φ l) r g p = φ e.r e.g e.p := by
    intro r g p row hr
    cases hl2 : rowsOf l with
    | nil => rw [hl2] at hr; simp [sigOf, rowAt, lookA] at hr
    | cons x m =>
      rw [hl2] at hr
      simp only [sigOf, rowAt, lookA_cons, lookA] at hr
      split at hr
      · rename_i g' f hx
        split at hx
        · rename_i h0
          cases hx
          split at hr
          · rename_i hg
            rw [← hl2] at hr
            obtain ⟨i, e, h1, h2, h3⟩ := lookF_rowsOf hr
            have hm := List.mem_of_getElem? h1
            obtain ⟨k1, k2⟩ := hl e hm
            subst h0; subst hg
            refine ⟨i, e, h1, h2, h3, h3 ▸ k1, h3 ▸ k2, rfl, ?_⟩
            rw [← h2]
            exact psiOf_spec ha e hm
          · cases hr
        · cases hx
      · cases hr
  refine ⟨?_, ?_, h.rdok, ?_, ?_, h.frame, h.size, h.os, h.tape, h.output⟩
  · intro r g p row hr
    obtain ⟨i, e, h1, h2, h3, h4, h5, h6, h7⟩ := hcase hr
    obtain ⟨pl, k1, k2⟩ := h.rows _ _ _ _ h4
    refine ⟨pl, by rw [h7, k1], k2.wide, k2.len, k2.kind, k2.nil, k2.room, fun b q had i j c hc => ?_, k2.frz⟩
    obtain ⟨v, hv, hrel⟩ := k2.cells b q had i j c hc
    refine ⟨v, hv, hrel.of_sf ?_⟩
    have hm : ∃ e ∈ row.es, c ∈ e := by
      cases he : row.es[i]? with
      | none => rw [he] at hc; cases hc
      | some e => rw [he] at hc; exact ⟨e, List.mem_of_getElem? he, List.mem_of_getElem? hc⟩
    obtain ⟨e', he, hce⟩ := hm
    have hs := (k2.kind e' he).1 h5 c hce
    cases c <;> first | rfl | cases hs
  · intro r g p row r' g' p' row' pl pl' b q q' h1 h2 h3 h4 h5 h6
    obtain ⟨i, e, a1, a2, a3, a4, a5, a6, a7⟩ := hcase h1
    obtain ⟨j, f, b1, b2, b3, b4, b5, b6, b7⟩ := hcase h2
    rw [a7] at h3
    rw [b7] at h4
    have := h.sep _ _ _ _ _ _ _ _ _ _ _ _ _ a4 b4 h3 h4 h5 h6
    have hij := allApart_spec ha i j e f a1 b1 (.inr this)
    subst hij
    rw [a1] at b1
    cases b1
    exact ⟨a6.trans b6.symm, a2.symm.trans b2⟩
  · intro r g p row pl b q h1 h2 h3 k hor
    obtain ⟨i, e, a1, a2, a3, a4, a5, a6, a7⟩ := hcase h1
    rw [a7] at h2
    exact h.rdsep _ _ _ _ _ _ _ a4 h2 h3 k hor
  · intro r g p row pl b q h1 h2 h3
    obtain ⟨i, e, a1, a2, a3, a4, a5, a6, a7⟩ := hcase h1
    rw [a7] at h2
    exact h.own _ _ _ _ _ _ _ a4 h2 h3
/-- A result is frozen, but for the rows that are wanted as one's own. -/
def frzWC (σ : Sig) : AV → AV → Option (Sig × AV)
  | .blk .., c => some (σ, c)
  | .ptr .., c => some (σ, c)
  | .ro sz _, .nilS => some (σ, .ro sz [])
  | _, c => frzC σ c
def frzWL (σ : Sig) : List AV → List AV → Option (Sig × List AV)
  | [], [] => some (σ, [])
  | u :: us, c :: cs => (frzWC σ u c).bind fun x => (frzWL x.1 us cs).map fun y => (y.1, x.2 :: y.2)
  | _, _ => none
def frzW (σ : Sig) : AV → AV → Option (Sig × AV)
  | .agg us, .agg cs => (frzWL σ us cs).map fun x => (x.1, .agg x.2)
  | u, c => frzWC σ u c
def frzWT (σ : Sig) : List AV → List AV → Option (Sig × List AV)
  | [], [] => some (σ, [])
  | u :: us, c :: cs => (frzW σ u c).bind fun x => (frzWT x.1 us cs).map fun y => (y.1, x.2 :: y.2)
  | _, _ => none
def frzRes (σ : Sig) (res : AV) : List AV → Option (Sig × List AV)
  | [v] => (frzW σ res v).map fun x => (x.1, [x.2])
  | vs => match res with
    | .tup us => frzWT σ us vs
    | _ => none

theorem frzWC_sound (h : HRel rd φ O w0 σ w) {u c c' : AV} {v : Value} {σ' : Sig} (hv : VRel rd φ c v) (hf : frzWC σ u c = some (σ', c')) :
    Frozen rd φ O w0 w σ' fun rd' => VRel rd' φ c' v := by
  unfold frzWC at hf
  split at hf
  · cases hf; exact ⟨rd, .refl, h, hv⟩
  · cases hf; exact ⟨rd, .refl, h, hv⟩
  · cases hf; cases hv; exact ⟨rd, .refl, h, .ro0 _ _ _⟩
  · obtain ⟨rd1, x1, k1, v1, _⟩ := frzC_sound h hv hf
    exact ⟨rd1, x1, k1, v1 φ⟩
theorem frzWL_sound : ∀ {us cs cs' : List AV} {vs : List Value} {rd : RD} {σ σ' : Sig}, HRel rd φ O w0 σ w → PW rd φ cs vs → frzWL σ us cs = some (σ', cs') →
    Frozen rd φ O w0 w σ' fun rd' => PW rd' φ cs' vs
  | [], [], cs', vs, rd, σ, σ', h, hp, hf => by cases hf; exact ⟨rd, .refl, h, hp⟩
  | u :: us, c :: cs, cs', vs, rd, σ, σ', h, hp, hf => by
    obtain ⟨v, us, rfl, hr, hp⟩ := hp.uncons
    simp only [frzWL] at hf
    obtain ⟨⟨σ1, c1⟩, h1, hf⟩ := Option.bind_eq_some_iff.1 hf
    obtain ⟨⟨σ2, cs2⟩, h2, hf⟩ := Option.map_eq_some_iff.1 hf
    cases hf
    obtain ⟨rd1, x1, k1, v1⟩ := frzWC_sound h hr h1
    obtain ⟨rd2, x2, k2, v2⟩ := frzWL_sound k1 (hp.mono x1.1 (fun _ _ _ _ h => h)) h2
    exact ⟨rd2, x1.trans x2, k2, PW.cons (v1.mono x2.1 (fun _ _ _ _ h => h)) v2⟩
  | [], _ :: _, _, _, _, _, _, _, _, hf => by cases hf
  | _ :: _, [], _, _, _, _, _, _, _, hf => by cases hf
theorem frzW_sound (h : HRel rd φ O w0 σ w) {u c c' : AV} {v : Value} {σ' : Sig} (hv : VRel rd φ c v) (hf : frzW σ u c = some (σ', c')) :
    Frozen rd φ O w0 w σ' fun rd' => VRel rd' φ c' v := by
  unfold frzW at hf
  split at hf
  · obtain ⟨arr, rfl, hp⟩ := PW.of_agg hv
    obtain ⟨⟨σ1, cs1⟩, h1, hf⟩ := Option.map_eq_some_iff.1 hf
    cases hf
    obtain ⟨rd1, x1, k1, v1⟩ := frzWL_sound h hp h1
    exact ⟨rd1, x1, k1, PW.agg v1⟩
  · exact frzWC_sound h hv hf
theorem frzWT_sound : ∀ {us cs cs' : List AV} {vs : List Value} {rd : RD} {σ σ' : Sig}, HRel rd φ O w0 σ w → PW rd φ cs vs → frzWT σ us cs = some (σ', cs') →
    cs'.length = cs.length ∧ Frozen rd φ O w0 w σ' fun rd' => PW rd' φ cs' vs
  | [], [], cs', vs, rd, σ, σ', h, hp, hf => by cases hf; exact ⟨rfl, rd, .refl, h, hp⟩
  | u :: us, c :: cs, cs', vs, rd, σ, σ', h, hp, hf => by
    obtain ⟨v, us, rfl, hr, hp⟩ := hp.uncons
    simp only [frzWT] at hf
    obtain ⟨⟨σ1, c1⟩, h1, hf⟩ := Option.bind_eq_some_iff.1 hf
    obtain ⟨⟨σ2, cs2⟩, h2, hf⟩ := Option.map_eq_some_iff.1 hf
    cases hf
    obtain ⟨rd1, x1, k1, v1⟩ := frzW_sound h hr h1
    obtain ⟨hlen, rd2, x2, k2, v2⟩ := frzWT_sound k1 (hp.mono x1.1 (fun _ _ _ _ h => h)) h2
    exact ⟨by simp [hlen], rd2, x1.trans x2, k2, PW.cons (v1.mono x2.1 (fun _ _ _ _ h => h)) v2⟩
  | [], _ :: _, _, _, _, _, _, _, _, hf => by cases hf
  | _ :: _, [], _, _, _, _, _, _, _, hf => by cases hf
theorem packRes_tup {vs : List AV} (h : vs.length ≠ 1) : packRes vs = .tup vs := by
  match vs with
  | [] => rfl
  | [x] => exact absurd rfl h
  | _ :: _ :: _ => rfl
theorem frzRes_sound (h : HRel rd φ O w0 σ w) {res : AV} {vs vs' : List AV} {v : Value} {σ' : Sig} (hv : VRel rd φ (packRes vs) v) (hf : frzRes σ res vs = some (σ', vs')) :
    Frozen rd φ O w0 w σ' fun rd' => VRel rd' φ (packRes vs') v := by
  unfold frzRes at hf
  split at hf
  · obtain ⟨⟨σ1, c1⟩, h1, hf⟩ := Option.map_eq_some_iff.1 hf
    cases hf
    exact frzW_sound h hv h1
  · rename_i hne
    have hl : vs.length ≠ 1 := fun e => by
      match vs, e with
      | [x], _ => exact hne x rfl
    split at hf
    · rename_i us
      rw [packRes_tup hl] at hv
      obtain ⟨arr, rfl, hp⟩ := PW.of_tup hv
      obtain ⟨hlen, rd1, x1, k1, v1⟩ := frzWT_sound h hp hf
      rw [show packRes vs' = .tup vs' from packRes_tup (by rw [hlen]; exact hl)]
      exact ⟨rd1, x1, k1, PW.tup v1⟩
    · cases hf
end

/-! The nil slice, as a row of one's own -/
def nilC (u c : AV) (σ : Sig) (G : Nat) : AV × Sig × Nat := match c with
  | .nilS => match u with
    | .blk _ _ _ sz _ _ => (.blk (800000 + G) G [] sz 0 0, setA σ (800000 + G) (G, one ⟨sz, [], 2, false⟩), G + 1)
    | _ => (.nilS, σ, G)
  | c => (c, σ, G)
def nilL : List AV → List AV → Sig → Nat → List AV × Sig × Nat
  | u :: us, c :: cs, σ, G => ((nilC u c σ G).1 :: (nilL us cs (nilC u c σ G).2.1 (nilC u c σ G).2.2).1, (nilL us cs (nilC u c σ G).2.1 (nilC u c σ G).2.2).2)
  | _, cs, σ, G => (cs, σ, G)
def nilV (u c : AV) (σ : Sig) (G : Nat) : AV × Sig × Nat := match c with
  | .agg cs => match u with
    | .agg us => (.agg (nilL us cs σ G).1, (nilL us cs σ G).2)
    | _ => (.agg cs, σ, G)
  | c => nilC u c σ G
def NilOK (rd : RD) (φ : Phi) (O : Nat → Prop) (w0 w : World) (X : (Phi → Prop)) (σ' : Sig) (G' : Nat) : Prop :=
  ∃ φ', (∀ r g p pl, φ r g p = some pl → φ' r g p = some pl) ∧ HRel rd φ' O w0 σ' w ∧ (∀ r g p, φ' r g p ≠ none → g < G') ∧ X φ'
theorem nilC_sound {rd : RD} {φ : Phi} {O : Nat → Prop} {w0 w : World} {σ : Sig} {u c : AV} {v : Value} {G : Nat} (h : HRel rd φ O w0 σ w) (hg : ∀ r g p, φ r g p ≠ none → g < G) (hv : VRel rd φ c v) :
    NilOK rd φ O w0 w (fun φ' => VRel rd φ' (nilC u c σ G).1 v) (nilC u c σ G).2.1 (nilC u c σ G).2.2 := by
  have same : NilOK rd φ O w0 w (fun φ' => VRel rd φ' c v) σ G := ⟨φ, fun _ _ _ _ h => h, h, hg, hv⟩
  unfold nilC
  split
  · split
    · rename_i r g p sz off len
      cases hv
      have hfr : ∀ q, φ (800000 + G) G q = none := fun q => by
        cases hh : φ (800000 + G) G q with
        | none => rfl
        | some x => exact absurd (hg _ _ _ (by rw [hh]; simp)) (Nat.lt_irrefl G)
      have hn := h.newNil hfr sz 2
      refine ⟨_, hn.2, hn.1, fun r g p hp => ?_, ?_⟩
      · unfold phiSet at hp
        split at hp
        · rename_i e; rw [e.2]; exact Nat.lt_succ_self G
        · exact Nat.lt_succ_of_lt (hg _ _ _ hp)
      · exact .blk (800000 + G) G [] sz 0 0 ⟨none, 0⟩ none (by simp [phiSet]) (.inl rfl) (Nat.zero_le _)
    · exact same
  · exact same
theorem nilL_sound : ∀ {us cs : List AV} {vs : List Value} {rd : RD} {φ : Phi} {O : Nat → Prop} {w0 w : World} {σ : Sig} {G : Nat}, HRel rd φ O w0 σ w → (∀ r g p, φ r g p ≠ none → g < G) → PW rd φ cs vs →
    NilOK rd φ O w0 w (fun φ' => PW rd φ' (nilL us cs σ G).1 vs) (nilL us cs σ G).2.1 (nilL us cs σ G).2.2
  | u :: us, c :: cs, vs, rd, φ, O, w0, w, σ, G, h, hg, hp => by
    obtain ⟨v, vs, rfl, hr, hp⟩ := hp.uncons
    obtain ⟨φ1, x1, h1, g1, v1⟩ := nilC_sound (u := u) h hg hr
    obtain ⟨φ2, x2, h2, g2, v2⟩ := nilL_sound (us := us) h1 g1 (hp.mono (fun _ _ _ h => h) x1)
    exact ⟨φ2, fun r g p pl hh => x2 _ _ _ _ (x1 _ _ _ _ hh), h2, g2, PW.cons (v1.mono (fun _ _ _ h => h) x2) v2⟩
  | [], cs, vs, rd, φ, O, w0, w, σ, G, h, hg, hp => ⟨φ, fun _ _ _ _ h => h, h, hg, hp⟩
  | _ :: _, [], vs, rd, φ, O, w0, w, σ, G, h, hg, hp => ⟨φ, fun _ _ _ _ h => h, h, hg, hp⟩
theorem nilV_sound {rd : RD} {φ : Phi} {O : Nat → Prop} {w0 w : World} {σ : Sig} {u c : AV} {v : Value} {G : Nat} (h : HRel rd φ O w0 σ w) (hg : ∀ r g p, φ r g p ≠ none → g < G) (hv : VRel rd φ c v) :
    NilOK rd φ O w0 w (fun φ' => VRel rd φ' (nilV u c σ G).1 v) (nilV u c σ G).2.1 (nilV u c σ G).2.2 := by
  unfold nilV
  split
  · split
    · obtain ⟨arr, rfl, hp⟩ := PW.of_agg hv
      obtain ⟨φ1, x1, h1, g1, v1⟩ := nilL_sound h hg hp
      exact ⟨φ1, x1, h1, g1, PW.agg v1⟩
    · exact ⟨φ, fun _ _ _ _ h => h, h, hg, hv⟩
  · exact nilC_sound h hg hv
def nilT : List AV → List AV → Sig → Nat → List AV × Sig × Nat
  | u :: us, v :: vs, σ, G => match nilV u v σ G with
    | (v', σ', G') => match nilT us vs σ' G' with
      | (vs', x) => (v' :: vs', x)
  | _, vs, σ, G => (vs, σ, G)
def wants (res : AV) : List AV → List AV
  | [_] => [res]
  | _ => match res with
    | .tup us => us
    | _ => []
theorem nilT_sound : ∀ {us cs : List AV} {vs : List Value} {rd : RD} {φ : Phi} {O : Nat → Prop} {w0 w : World} {σ : Sig} {G : Nat}, HRel rd φ O w0 σ w → (∀ r g p, φ r g p ≠ none → g < G) → PW rd φ cs vs →
    (nilT us cs σ G).1.length = cs.length ∧ NilOK rd φ O w0 w (fun φ' => PW rd φ' (nilT us cs σ G).1 vs) (nilT us cs σ G).2.1 (nilT us cs σ G).2.2
  | u :: us, c :: cs, vs, rd, φ, O, w0, w, σ, G, h, hg, hp => by
    obtain ⟨v, vs, rfl, hr, hp⟩ := hp.uncons
    obtain ⟨φ1, x1, h1, g1, v1⟩ := nilV_sound (u := u) h hg hr
    obtain ⟨hl, φ2, x2, h2, g2, v2⟩ := nilT_sound (us := us) h1 g1 (hp.mono (fun _ _ _ h => h) x1)
    exact ⟨by simp only [nilT, List.length_cons, hl], φ2, fun r g p pl hh => x2 _ _ _ _ (x1 _ _ _ _ hh), h2, g2, PW.cons (v1.mono (fun _ _ _ h => h) x2) v2⟩
  | [], cs, vs, rd, φ, O, w0, w, σ, G, h, hg, hp => ⟨rfl, φ, fun _ _ _ _ h => h, h, hg, hp⟩
  | _ :: _, [], vs, rd, φ, O, w0, w, σ, G, h, hg, hp => ⟨rfl, φ, fun _ _ _ _ h => h, h, hg, hp⟩
theorem nilTp_sound {rd : RD} {φ : Phi} {O : Nat → Prop} {w0 w : World} {σ : Sig} {us cs : List AV} {v : Value} {G : Nat} (h : HRel rd φ O w0 σ w) (hg : ∀ r g p, φ r g p ≠ none → g < G) (hv : VRel rd φ (packRes cs) v) :
    NilOK rd φ O w0 w (fun φ' => VRel rd φ' (packRes (nilT us cs σ G).1) v) (nilT us cs σ G).2.1 (nilT us cs σ G).2.2 := by
  by_cases hl : cs.length = 1
  · match cs, hl with
    | [c], _ =>
      have hp : PW rd φ [c] [v] := PW.cons hv ⟨rfl, fun j c hc => by simp at hc⟩
      obtain ⟨hlen, φ', x1, h1, g1, v1⟩ := nilT_sound (us := us) h hg hp
      refine ⟨φ', x1, h1, g1, ?_⟩
      generalize (nilT us [c] σ G).1 = cs' at *
      match cs', hlen with
      | [c'], _ =>
        obtain ⟨v', vs', e, hr, -⟩ := v1.uncons
        cases e
        exact hr
  · rw [packRes_tup hl] at hv
    obtain ⟨arr, rfl, hp⟩ := PW.of_tup hv
    obtain ⟨hlen, φ', x1, h1, g1, v1⟩ := nilT_sound (us := us) h hg hp
    exact ⟨φ', x1, h1, g1, by rw [packRes_tup (by rw [hlen]; exact hl)]; exact PW.tup v1⟩

/-- A function's end: what is handed back. -/
def RetA (res : AV) (rf : List (List Nat × Row)) : List AV × Sig × Nat → Prop
  | (vs, σ, _) => match frzRes σ res vs with
    | some (σ1, vs1) => match gather σ1 vs1 with
      | some (v, l) => allApart l = true ∧ v = res ∧ rowsOf l = rf
      | none => False
    | none => False
def RetOK (P : Program) (fn : Func) (s : St) (res : AV) (rf : List (List Nat × Row)) : Prop :=
  match absRes P s fn.results.toList with
  | some vs => RetA res rf (nilT (wants res vs) vs s.σ s.G)
  | none => False
def retK (P : Program) (fn : Func) (res : AV) (rf : List (List Nat × Row)) : Exit → St → Prop
  | .ret, s => RetOK P fn s res rf
  | .normal, s => RetOK P fn s res rf
  | _, _ => False
def enumA : Nat → List AV → List (Nat × AV)
  | _, [] => []
  | k, v :: vs => (k, v) :: enumA (k + 1) vs
theorem lookA_enumA : ∀ (vs : List AV) (k t : Nat) (v : AV), lookA (enumA k vs) t = some v → k ≤ t ∧ vs[t - k]? = some v
  | [], k, t, v, h => by cases h
  | x :: vs, k, t, v, h => by
    simp only [enumA, lookA_cons] at h
    split at h
    · rename_i e; subst e; cases h; exact ⟨Nat.le_refl _, by simp⟩
    · obtain ⟨h1, h2⟩ := lookA_enumA vs (k + 1) t v h
      refine ⟨by omega, ?_⟩
      rw [show t - k = (t - (k + 1)) + 1 by omega, List.getElem?_cons_succ]
      exact h2

/-- THE CONTRACT out of the condition. -/
theorem callR_of_vc {P : Program} {n : Nat} {fn : Func} (hf : P.funcs[n]? = some fn) {code : Code} (hb : fn.body = some code) (hn : (fn.name == "runtime.NumGoroutine") = false)
    {args : List AV} {res : AV} {rf : List (List Nat × Row)} (hlen : args.length ≤ fn.ntmps)
    (hv : vc P code ⟨fn.ntmps, enumA 0 args, [], 0⟩ (retK P fn res rf)) : CallR P n args res rf := by
  refine ⟨⟨fn, hf, hn, by rw [hb]; rfl⟩, fun w rd cargs hrd hargs => ?_⟩
  have hsz : cargs.size = args.length := by rw [hargs.1]; simp
  have hrel : Rel rd (fun _ _ _ => none) (fun _ => False) w ⟨fn.ntmps, enumA 0 args, [], 0⟩ { tmps := cargs ++ Array.replicate (fn.ntmps - cargs.size) undef, defers := [] } w := by
    refine ⟨⟨?_, ?_, hrd, ?_, ?_, fun _ _ _ => rfl, Nat.le_refl _, rfl, rfl, rfl⟩, ?_, by simp; omega, rfl, fun r g p hp => absurd rfl hp⟩
    · intro r g p row hr; simp [rowAt, lookA] at hr
    · intro r g p row r' g' p' row' pl pl' b q q' hr; simp [rowAt, lookA] at hr
    · intro r g p row pl b q hr; simp [rowAt, lookA] at hr
    · intro r g p row pl b q hr; simp [rowAt, lookA] at hr
    · intro t v hl
      obtain ⟨_, h2⟩ := lookA_enumA _ _ _ _ hl
      obtain ⟨cv, h3, h4⟩ := hargs.2 t v (by simpa using h2)
      have h5 : cargs[t]? = some cv := by simpa using h3
      have ht : t < cargs.size := by
        rcases Nat.lt_or_ge t cargs.size with hx | hx
        · exact hx
        · rw [Array.getElem?_eq_none hx] at h5; cases h5
      have : (cargs ++ Array.replicate (fn.ntmps - cargs.size) undef).getD t undef = cv := by
        rw [Array.getD_eq_getD_getElem?, Array.getElem?_append_left ht, h5]
        rfl
      rw [this]
      exact h4
  refine calls_of_wp hf hb (wp_mono (vc_sound (rd := ((rd, fun _ _ _ => none) : REnv)) (O := fun _ => False) (w0 := w) code _ _ hv _ _ ⟨rd, _, .refl, hrel⟩) ?_)
  rintro e a w' ⟨s, hk, rd1, φ, hx, hr⟩
  have fin : RetOK P fn s res rf → a.defers = [] ∧ ∃ v, (results fn a.tmps).run P w' = .ok v w' ∧ ∃ v' rd' ψ, Ending.returned v = .returned v' ∧ Ext (fun _ => False) w rd rd' ∧ HRel rd' (phi0 ψ) (fun _ => False) w (sigOf rf) w' ∧ VRel rd' (phi0 ψ) res v' := by
    intro hk
    unfold RetOK at hk
    split at hk
    · rename_i vs hvs
      obtain ⟨v, hrun, hvr⟩ := results_sound hr hvs
      obtain ⟨φ, x0, hh, -, hvr⟩ := nilTp_sound (us := wants res vs) hr.heap hr.gen hvr
      generalize nilT (wants res vs) vs s.σ s.G = X at hk hh hvr
      obtain ⟨vs0, σ0, G0⟩ := X
      unfold RetA at hk
      simp only at hk hh hvr
      split at hk
      · rename_i σ1 vs1 hfz
        split at hk
        · rename_i v0 l hg
          obtain ⟨k1, k2, k3⟩ := hk
          obtain ⟨rd2, x2, h2, v2⟩ := frzRes_sound hh hvr hfz
          obtain ⟨g1, g2⟩ := gather_sound v2 hg
          refine ⟨hr.defers, v, hrun, v, rd2, psiOf φ l, rfl, hx.1.trans x2, ?_, ?_⟩
          · rw [← k3]; exact h2.back g1 k1
          · rw [← k2]; exact g2 _ (psiOf_spec k1)
        · cases hk
      · cases hk
    · cases hk
  cases e with
  | ret => exact fin hk
  | normal => exact fin hk
  | _ => cases hk

/-! ### .. of a function into which rows are moved -/
def retL (σ : Sig) (σout : Sig) (vs : List AV) : Asc := disc false σ 1 30 0 (stayL σout) (nmsAL vs ++ rootN σ (stayL σout))
def RetMA (L : Asc) (σ1 : Sig) (v : AV) (res : AV) (σout : Sig) : Prop := (distN L = true ∧ stayOK L = true) ∧ renS σ1 (lkN L) L = some σout ∧ mapT (lkN L) v = res
def RetMB (res : AV) (σout : Sig) : List AV × Sig × Nat → Prop
  | (vs, σ, _) => match frzRes σ res vs with
    | some (σ1, vs1) => RetMA (retL σ1 σout vs1) σ1 (packRes vs1) res σout
    | none => False
def RetM (P : Program) (rs : List ResultVar) (s : St) (res : AV) (σout : Sig) : Prop :=
  match absRes P s rs with
  | some vs => RetMB res σout (nilT (wants res vs) vs s.σ s.G)
  | none => False
def retKM (P : Program) (rs : List ResultVar) (res : AV) (σout : Sig) : Exit → St → Prop
  | .ret, s => RetM P rs s res σout
  | .normal, s => RetM P rs s res σout
  | _, _ => False
theorem callM_of_vc {P : Program} {n : Nat} {fn : Func} (hf : P.funcs[n]? = some fn) {code : Code} (hb : fn.body = some code) (hn : (fn.name == "runtime.NumGoroutine") = false)
    {σin : Sig} {args : List AV} {res : AV} {σout : Sig} (hlen : args.length ≤ fn.ntmps)
    (hv : vc P code ⟨fn.ntmps, enumA 0 args, σin, 1⟩ (retKM P fn.results.toList res σout)) : CallM P n σin args res σout := by
  refine ⟨⟨fn, hf, hn, by rw [hb]; rfl⟩, fun w rd φ cargs hgen hh hargs => ?_⟩
  have hsz : cargs.size = args.length := by rw [hargs.1]; simp
  have hrel : Rel rd φ (OwnedBy φ σin) w ⟨fn.ntmps, enumA 0 args, σin, 1⟩ { tmps := cargs ++ Array.replicate (fn.ntmps - cargs.size) undef, defers := [] } w := by
    refine ⟨hh, ?_, by simp; omega, rfl, fun r g p hp => by have := hgen r g p hp; show g < 1; omega⟩
    intro t v hl
    obtain ⟨_, h2⟩ := lookA_enumA _ _ _ _ hl
    obtain ⟨cv, h3, h4⟩ := hargs.2 t v (by simpa using h2)
    have h5 : cargs[t]? = some cv := by simpa using h3
    have ht : t < cargs.size := by
      rcases Nat.lt_or_ge t cargs.size with hx | hx
      · exact hx
      · rw [Array.getElem?_eq_none hx] at h5; cases h5
    have : (cargs ++ Array.replicate (fn.ntmps - cargs.size) undef).getD t undef = cv := by
      rw [Array.getD_eq_getD_getElem?, Array.getElem?_append_left ht, h5]
      rfl
    rw [this]
    exact h4
  refine calls_of_wp hf hb (wp_mono (vc_sound (rd := (rd, φ)) (O := OwnedBy φ σin) (w0 := w) code _ _ hv _ _ ⟨rd, φ, .refl, hrel⟩) ?_)
  rintro e a w' ⟨s, hk, rd1, φ1, hx, hr⟩
  have fin : RetM P fn.results.toList s res σout → a.defers = [] ∧ ∃ v, (results fn a.tmps).run P w' = .ok v w' ∧ ∃ v' rd' φ', Ending.returned v = .returned v' ∧ Ext (OwnedBy φ σin) w rd rd' ∧ (∀ r p pl, φ r 0 p = some pl → 1000000 ≤ r → φ' r 0 p = some pl) ∧ HRel rd' φ' (OwnedBy φ σin) w σout w' ∧ VRel rd' φ' res v' := by
    intro hk
    unfold RetM at hk
    split at hk
    · rename_i vs hvs
      obtain ⟨v, hrun, hvr⟩ := results_sound hr hvs
      obtain ⟨φ2, x0, hh, -, hvr⟩ := nilTp_sound (us := wants res vs) hr.heap hr.gen hvr
      generalize nilT (wants res vs) vs s.σ s.G = X at hk hh hvr
      obtain ⟨vs0, σ0, G0⟩ := X
      unfold RetMB at hk
      simp only at hk hh hvr
      split at hk
      · rename_i σ1 vs1 hfz
        unfold RetMA at hk
        generalize retL σ1 σout vs1 = L at hk
        obtain ⟨⟨hd, hst⟩, hren, hmap⟩ := hk
        obtain ⟨rd2, x2, h2, v2⟩ := frzRes_sound hh hvr hfz
        refine ⟨hr.defers, v, hrun, v, rd2, phiK φ2 L, rfl, hx.1.trans x2, fun r p pl e hr' => phiK_stay hst r p pl (x0 _ _ _ _ (hx.2 r p pl e hr')) hr', (h2.renL hd hren).phi phiK_of, ?_⟩
        rw [← hmap]
        exact (mapT_rel (phiL_carries hd) v2).mono (fun _ _ _ h => h) phiK_of
      · cases hk
    · cases hk
  cases e with
  | ret => exact fin hk
  | normal => exact fin hk
  | _ => cases hk

end Go.Proofs.Ytkhemolkhegppaa.E
