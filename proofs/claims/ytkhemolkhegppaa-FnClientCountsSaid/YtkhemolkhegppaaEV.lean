/-
  E, part V: names made anew; rows that are moved into a call and out of it; rows that are lent.
-/
import Derived.Test.YtkhemolkhegppaaEG
namespace Go.Proofs.Ytkhemolkhegppaa.E
open Go Go.RowKit
set_option linter.unusedVariables false

/-! ### Renaming -/
abbrev NF := Nat → Nat → Option (Nat × Nat)
def mapC (N : NF) : AV → AV
  | .blk r g p sz off len => match N r g with
    | some x => .blk x.1 x.2 p sz off len
    | none => .dead
  | .ptr r g p sz i o => match N r g with
    | some x => .ptr x.1 x.2 p sz i o
    | none => .dead
  | .agg _ => .dead
  | .tup _ => .dead
  | v => v
def mapA (N : NF) : AV → AV
  | .agg cs => .agg (cs.map (mapC N))
  | v => mapC N v
def mapT (N : NF) : AV → AV
  | .tup vs => .tup (vs.map (mapA N))
  | v => mapA N v
def mapRow (N : NF) (row : Row) : Row := match Nat.ble 1 row.fl with
  | true => row
  | false => ⟨row.sz, row.es.map fun e => e.map (mapC N), row.fl, row.ao⟩
def mapF (N : NF) (f : Frag) : Frag := fun p => match f p with
  | some row => some (mapRow N row)
  | none => none
theorem mapF_one {N : NF} {row : Row} : mapF N (one row) = one (mapRow N row) := by
  funext p
  cases p <;> rfl
def Carries (N : NF) (φ φ' : Phi) : Prop := ∀ r g x p pl, N r g = some x → φ r g p = some pl → φ' x.1 x.2 p = some pl

section
variable {P : Program} {rd : RD} {φ φ' : Phi} {O : Nat → Prop} {w0 w : World} {σ σ' : Sig} {N : NF}
theorem mapC_rel (hN : Carries N φ φ') {c : AV} {v : Value} (h : VRel rd φ c v) : VRel rd φ' (mapC N c) v := by
  cases h with
  | blk r g p sz off len pl A hφ hA hl =>
    simp only [mapC]
    split
    · rename_i x hx; exact .blk _ _ p sz off len pl A (hN _ _ _ _ _ hx hφ) hA hl
    · exact .dead _
  | ptr r g p sz i o pl b q hφ had =>
    simp only [mapC]
    split
    · rename_i x hx; exact .ptr _ _ p sz i o pl b q (hN _ _ _ _ _ hx hφ) had
    · exact .dead _
  | dead v => exact .dead v
  | sc v h => exact .sc v h
  | nilS => exact .nilS
  | ro0 sz A cap => exact .ro0 sz A cap
  | ro sz es b q cap f hc hs hr hv => exact (VRel.ro sz es b q cap f hc hs hr hv).of_sf rfl
  | rp cs b q f hs hr hv => exact (VRel.rp cs b q f hs hr hv).of_sf rfl
  | agg => exact .dead _
  | tup => exact .dead _
  | it r => exact .it r
theorem mapA_rel (hN : Carries N φ φ') {c : AV} {v : Value} (h : VRel rd φ c v) : VRel rd φ' (mapA N c) v := by
  cases c with
  | agg cs =>
    obtain ⟨arr, rfl, hp⟩ := PW.of_agg h
    exact PW.agg (hp.map (mapC_rel hN))
  | _ => exact mapC_rel hN h
theorem mapT_rel (hN : Carries N φ φ') {c : AV} {v : Value} (h : VRel rd φ c v) : VRel rd φ' (mapT N c) v := by
  cases c with
  | tup cs =>
    obtain ⟨arr, rfl, hp⟩ := PW.of_tup h
    exact PW.tup (hp.map (mapA_rel hN))
  | _ => exact mapA_rel hN h
theorem mapRow_sz (N : NF) (row : Row) : (mapRow N row).sz = row.sz ∧ (mapRow N row).es.length = row.es.length ∧ (mapRow N row).ao = row.ao := by
  unfold mapRow
  split
  · exact ⟨rfl, rfl, rfl⟩
  · exact ⟨rfl, by simp, rfl⟩
theorem RowOK.map (hN : Carries N φ φ') {pl : Pl} {row : Row} (h : RowOK rd φ w pl row) : RowOK rd φ' w pl (mapRow N row) := by
  unfold mapRow
  split
  · rename_i hf
    have hf := Nat.le_of_ble_eq_true hf
    refine ⟨h.wide, h.len, h.kind, h.nil, h.room, fun b q had i j c hc => ?_, h.frz⟩
    obtain ⟨v, hv, hr⟩ := h.cells b q had i j c hc
    refine ⟨v, hv, hr.of_sf ?_⟩
    cases he : row.es[i]? with
    | none => rw [he] at hc; cases hc
    | some e =>
      rw [he] at hc
      have := (h.kind e (List.mem_of_getElem? he)).1 hf c (List.mem_of_getElem? hc)
      cases c <;> first | rfl | cases this
  · rename_i hf
    have hf0 : row.fl = 0 := by
      rcases Nat.eq_zero_or_pos row.fl with h0 | h0
      · exact h0
      · rw [Nat.ble_eq_true_of_le h0] at hf; cases hf
    refine ⟨fun e he => ?_, by simpa using h.len, fun e he => ⟨fun h1 => ?_, fun h1 => ?_⟩, h.nil, h.room, fun b q had i j c hc => ?_, fun ha => ?_⟩
    · obtain ⟨e', he', rfl⟩ := List.mem_map.1 he
      simpa using h.wide e' he'
    · simp only at h1; omega
    · simp only at h1; omega
    · simp only [List.getElem?_map] at hc
      cases he : row.es[i]? with
      | none => rw [he] at hc; cases hc
      | some e =>
        rw [he] at hc
        simp only [Option.map_some, Option.bind_some, List.getElem?_map] at hc
        obtain ⟨c', hc', rfl⟩ := Option.map_eq_some_iff.1 hc
        obtain ⟨v, hv, hr⟩ := h.cells b q had i j c' (by rw [he]; exact hc')
        exact ⟨v, hv, mapC_rel hN hr⟩
    · have := (h.frz ha).1
      omega
theorem rowAt_gen {σ : Sig} {r g g' : Nat} {p p' : List Nat} {row row' : Row} (h : rowAt σ r g p = some row) (k : rowAt σ r g' p' = some row') : g = g' := by
  unfold rowAt at h k
  cases hl : lookA σ r with
  | none => rw [hl] at h; cases h
  | some x =>
    rw [hl] at h k
    simp only at h k
    split at h
    · split at k
      · rename_i h1 h2; exact h1.symm.trans h2
      · cases k
    · cases h

/-- Rows under new names. -/
theorem HRel.ren (h : HRel rd φ O w0 σ w) (hN : Carries N φ φ')
    (hσ : ∀ r' g' p row', rowAt σ' r' g' p = some row' → ∃ r g row, rowAt σ r g p = some row ∧ N r g = some (r', g') ∧ row' = mapRow N row) : HRel rd φ' O w0 σ' w := by
  refine ⟨?_, ?_, h.rdok, ?_, ?_, h.frame, h.size, h.os, h.tape, h.output⟩
  · intro r' g' p row' hr
    obtain ⟨r, g, row, h1, h2, rfl⟩ := hσ _ _ _ _ hr
    obtain ⟨pl, h3, h4⟩ := h.rows _ _ _ _ h1
    exact ⟨pl, hN _ _ _ _ _ h2 h3, h4.map hN⟩
  · intro r' g' p row' r2' g2' p2 row2' pl pl2 b q q2 e1 e2 e3 e4 e5 e6
    obtain ⟨r, g, row, h1, h2, rfl⟩ := hσ _ _ _ _ e1
    obtain ⟨r2, g2, row2, k1, k2, rfl⟩ := hσ _ _ _ _ e2
    obtain ⟨pl1, h3, _⟩ := h.rows _ _ _ _ h1
    obtain ⟨pl3, k3, _⟩ := h.rows _ _ _ _ k1
    rw [hN _ _ _ _ _ h2 h3] at e3
    rw [hN _ _ _ _ _ k2 k3] at e4
    cases e3
    cases e4
    obtain ⟨rfl, rfl⟩ := h.sep _ _ _ _ _ _ _ _ _ _ _ _ _ h1 k1 h3 k3 e5 e6
    have := rowAt_gen h1 k1
    subst this
    rw [h2] at k2
    cases k2
    exact ⟨rfl, rfl⟩
  · intro r' g' p row' pl b q e1 e2 e3 k hor
    obtain ⟨r, g, row, h1, h2, rfl⟩ := hσ _ _ _ _ e1
    obtain ⟨pl1, h3, _⟩ := h.rows _ _ _ _ h1
    rw [hN _ _ _ _ _ h2 h3] at e2
    cases e2
    obtain ⟨m1, m2, m3⟩ := mapRow_sz N row
    rw [m1, m2, m3] at hor
    exact h.rdsep _ _ _ _ _ _ _ h1 h3 e3 k hor
  · intro r' g' p row' pl b q e1 e2 e3
    obtain ⟨r, g, row, h1, h2, rfl⟩ := hσ _ _ _ _ e1
    obtain ⟨pl1, h3, _⟩ := h.rows _ _ _ _ h1
    rw [hN _ _ _ _ _ h2 h3] at e2
    cases e2
    exact h.own _ _ _ _ _ _ _ h1 h3 e3

/-! Names as lists of pairs -/
abbrev Asc := List ((Nat × Nat) × (Nat × Nat))
def lkN : Asc → NF
  | [], _, _ => none
  | x :: l, r, g => match x.1.1 == r with
    | true => match Nat.beq x.1.2 g with
      | true => some x.2
      | false => lkN l r g
    | false => lkN l r g
def lkB : Asc → NF
  | [], _, _ => none
  | x :: l, r, g => match x.2.1 == r with
    | true => match Nat.beq x.2.2 g with
      | true => some x.1
      | false => lkB l r g
    | false => lkB l r g
/-- The rows of a list of names, under the new ones. -/
def renS (σ : Sig) (N : NF) : Asc → Option Sig
  | [] => some []
  | x :: l => (lookA σ x.1.1).bind fun gf => match Nat.beq gf.1 x.1.2 with
    | true => (gf.2 []).bind fun _ => (renS σ N l).map fun s => (x.2.1, (x.2.2, mapF N gf.2)) :: s
    | false => none
def hasS (l : Asc) (r : Nat) : Bool := l.any fun x => x.1.1 == r
def hasT (l : Asc) (r : Nat) : Bool := l.any fun x => x.2.1 == r
/-- No name twice, on neither side. -/
def distN : Asc → Bool
  | [] => true
  | x :: l => match hasS l x.1.1, hasT l x.2.1 with
    | false, false => distN l
    | _, _ => false
theorem lkN_mem {l : Asc} {r g : Nat} {x : Nat × Nat} (h : lkN l r g = some x) : ((r, g), x) ∈ l := by
  induction l with
  | nil => cases h
  | cons y l ih =>
    simp only [lkN] at h
    split at h
    · rename_i h1
      split at h
      · rename_i h2
        cases h
        have h1 : y.1.1 = r := by simpa using h1
        have h2 : y.1.2 = g := Nat.eq_of_beq_eq_true h2
        subst h1; subst h2
        simp
      · exact List.mem_cons_of_mem _ (ih h)
    · exact List.mem_cons_of_mem _ (ih h)
theorem lkB_mem {l : Asc} {r g : Nat} {x : Nat × Nat} (h : lkB l r g = some x) : (x, (r, g)) ∈ l := by
  induction l with
  | nil => cases h
  | cons y l ih =>
    simp only [lkB] at h
    split at h
    · rename_i h1
      split at h
      · rename_i h2
        cases h
        have h1 : y.2.1 = r := by simpa using h1
        have h2 : y.2.2 = g := Nat.eq_of_beq_eq_true h2
        subst h1; subst h2
        simp
      · exact List.mem_cons_of_mem _ (ih h)
    · exact List.mem_cons_of_mem _ (ih h)
theorem hasS_false {l : Asc} {r : Nat} (h : hasS l r = false) {x : (Nat × Nat) × (Nat × Nat)} (hx : x ∈ l) : x.1.1 ≠ r := by
  intro e
  have : hasS l r = true := List.any_eq_true.2 ⟨x, hx, by simp [e]⟩
  rw [this] at h; cases h
theorem hasT_false {l : Asc} {r : Nat} (h : hasT l r = false) {x : (Nat × Nat) × (Nat × Nat)} (hx : x ∈ l) : x.2.1 ≠ r := by
  intro e
  have : hasT l r = true := List.any_eq_true.2 ⟨x, hx, by simp [e]⟩
  rw [this] at h; cases h
theorem distN_spec : ∀ {l : Asc}, distN l = true → ∀ x ∈ l, ∀ y ∈ l, (x.1.1 = y.1.1 ∨ x.2.1 = y.2.1) → x = y
  | [], _, x, hx, _, _, _ => by simp at hx
  | z :: l, h, x, hx, y, hy, e => by
    simp only [distN] at h
    split at h
    · rename_i h1 h2
      rcases List.mem_cons.1 hx with hx1 | hx1 <;> rcases List.mem_cons.1 hy with hy1 | hy1
      · rw [hx1, hy1]
      · subst hx1
        rcases e with e | e
        · exact absurd e.symm (hasS_false h1 hy1)
        · exact absurd e.symm (hasT_false h2 hy1)
      · subst hy1
        rcases e with e | e
        · exact absurd e (hasS_false h1 hx1)
        · exact absurd e (hasT_false h2 hx1)
      · exact distN_spec h x hx1 y hy1 e
    · cases h
theorem lkN_of_mem {l : Asc} (hd : distN l = true) {x : (Nat × Nat) × (Nat × Nat)} (hx : x ∈ l) : lkN l x.1.1 x.1.2 = some x.2 := by
  induction l with
  | nil => simp at hx
  | cons y l ih =>
    have hall := distN_spec hd
    simp only [lkN]
    by_cases h1 : y.1.1 = x.1.1
    · have : y = x := hall y (by simp) x hx (.inl h1)
      subst this
      simp
    · have h2 : (y.1.1 == x.1.1) = false := by simpa using h1
      rw [h2]
      have hx' : x ∈ l := by
        rcases List.mem_cons.1 hx with e | e
        · exact absurd (by rw [e]) h1
        · exact e
      refine ih ?_ hx'
      simp only [distN] at hd
      split at hd
      · exact hd
      · cases hd
theorem lkB_of_mem {l : Asc} (hd : distN l = true) {x : (Nat × Nat) × (Nat × Nat)} (hx : x ∈ l) : lkB l x.2.1 x.2.2 = some x.1 := by
  induction l with
  | nil => simp at hx
  | cons y l ih =>
    have hall := distN_spec hd
    simp only [lkB]
    by_cases h1 : y.2.1 = x.2.1
    · have : y = x := hall y (by simp) x hx (.inr h1)
      subst this
      simp
    · have h2 : (y.2.1 == x.2.1) = false := by simpa using h1
      rw [h2]
      have hx' : x ∈ l := by
        rcases List.mem_cons.1 hx with e | e
        · exact absurd (by rw [e]) h1
        · exact e
      refine ih ?_ hx'
      simp only [distN] at hd
      split at hd
      · exact hd
      · cases hd
def phiL (φ : Phi) (L : Asc) : Phi := fun r g p => match lkB L r g with
  | some x => φ x.1 x.2 p
  | none => none
theorem phiL_carries {L : Asc} (hd : distN L = true) : Carries (lkN L) φ (phiL φ L) := by
  intro r g x p pl hx hp
  have := lkB_of_mem hd (lkN_mem hx)
  simp only at this
  simp only [phiL, this, hp]
theorem renS_spec {N : NF} : ∀ {L : Asc} {σ' : Sig}, renS σ N L = some σ' → ∀ r' g' p row', rowAt σ' r' g' p = some row' → ∃ x ∈ L, ∃ row, x.2 = (r', g') ∧ rowAt σ x.1.1 x.1.2 p = some row ∧ row' = mapRow N row
  | [], σ', h, r', g', p, row', hr => by cases h; simp [rowAt, lookA] at hr
  | y :: L, σ', h, r', g', p, row', hr => by
    simp only [renS] at h
    obtain ⟨gf, h1, h2⟩ := Option.bind_eq_some_iff.1 h
    split at h2
    · rename_i hb
      obtain ⟨row0, h0, h2⟩ := Option.bind_eq_some_iff.1 h2
      obtain ⟨s, h3, rfl⟩ := Option.map_eq_some_iff.1 h2
      have hb := Nat.eq_of_beq_eq_true hb
      unfold rowAt at hr
      rw [lookA_cons] at hr
      by_cases hk : y.2.1 = r'
      · rw [if_pos hk] at hr
        simp only at hr
        split at hr
        · rename_i hg
          unfold mapF at hr
          split at hr
          · rename_i row hrow
            cases hr
            refine ⟨y, by simp, row, by rw [← hk, ← hg], ?_, rfl⟩
            unfold rowAt
            rw [h1]
            simp [hb, hrow]
          · cases hr
        · cases hr
      · rw [if_neg hk] at hr
        obtain ⟨x, hx, row, e1, e2, e3⟩ := renS_spec h3 r' g' p row' hr
        exact ⟨x, List.mem_cons_of_mem _ hx, row, e1, e2, e3⟩
    · cases h2
theorem renS_alive {N : NF} : ∀ {L : Asc} {σ' : Sig}, renS σ N L = some σ' → ∀ x ∈ L, ∃ row, rowAt σ x.1.1 x.1.2 [] = some row
  | [], _, _, x, hx => by simp at hx
  | y :: L, σ', h, x, hx => by
    simp only [renS] at h
    obtain ⟨gf, h1, h2⟩ := Option.bind_eq_some_iff.1 h
    split at h2
    · rename_i hb
      obtain ⟨row0, h0, h2⟩ := Option.bind_eq_some_iff.1 h2
      obtain ⟨s, h3, rfl⟩ := Option.map_eq_some_iff.1 h2
      have hb := Nat.eq_of_beq_eq_true hb
      rcases List.mem_cons.1 hx with rfl | hx
      · refine ⟨row0, ?_⟩
        unfold rowAt
        rw [h1]
        simp [hb, h0]
      · exact renS_alive h3 x hx
    · cases h2
theorem HRel.renL (h : HRel rd φ O w0 σ w) {L : Asc} (hd : distN L = true) (hr : renS σ (lkN L) L = some σ') : HRel rd (phiL φ L) O w0 σ' w :=
  h.ren (phiL_carries hd) fun r' g' p row' hrow => by
    obtain ⟨x, hx, row, e1, e2, e3⟩ := renS_spec hr r' g' p row' hrow
    refine ⟨x.1.1, x.1.2, row, e2, ?_, e3⟩
    rw [lkN_of_mem hd hx, e1]

/-! ### Calls that rows are moved into -/
def OwnedBy (φ : Phi) (σ : Sig) : Nat → Prop := fun b => ∃ r g p row pl q, rowAt σ r g p = some row ∧ φ r g p = some pl ∧ pl.ad = some (b, q)
theorem HRel.rebase (h : HRel rd φ O w0 σ w) : HRel rd φ (OwnedBy φ σ) w σ w :=
  ⟨h.rows, h.sep, h.rdok, h.rdsep, fun r g p row pl b q h1 h2 h3 => ⟨.inl ⟨r, g, p, row, pl, q, h1, h2, h3⟩, (h.own _ _ _ _ _ _ _ h1 h2 h3).2⟩, fun _ _ _ => rfl, Nat.le_refl _, rfl, rfl, rfl⟩
/-- THE CONTRACT of a function into which rows are moved: names from 1000000 on stand for them; behind the call some of them are there anew, and rows with names below are new. -/
def CallM (P : Program) (n : Nat) (σin : Sig) (args : List AV) (res : AV) (σout : Sig) : Prop :=
  FnOK P n ∧ ∀ (w : World) (rd : RD) (φ : Phi) (cargs : Array Value), (∀ r g p, φ r g p ≠ none → g = 0) → HRel rd φ (OwnedBy φ σin) w σin w → PW rd φ args cargs.toList →
    Calls P n cargs w fun e w' => ∃ v rd' φ', e = .returned v ∧ Ext (OwnedBy φ σin) w rd rd' ∧ (∀ r p pl, φ r 0 p = some pl → 1000000 ≤ r → φ' r 0 p = some pl) ∧ HRel rd' φ' (OwnedBy φ σin) w σout w' ∧ VRel rd' φ' res v

def bkN (L : Asc) (d G : Nat) : NF := fun k g => match decide (k < 1000000) with
  | true => match Nat.beq g 0 with
    | true => some (d + 10000 * k, G)
    | false => none
  | false => lkB L k g
def delA : Sig → Nat → Sig
  | [], _ => []
  | (k, v) :: l, r => match k == r with
    | true => delA l r
    | false => (k, v) :: delA l r
def delL (σ : Sig) : Asc → Sig
  | [] => σ
  | x :: l => delL (delA σ x.1.1) l
def outS (N : NF) (acc : Sig) : Sig → Option Sig
  | [] => some acc
  | (k, (g0, f)) :: l => match N k g0 with
    | some x => outS N (setA acc x.1 (x.2, mapF N f)) l
    | none => none
def distK : Sig → Bool
  | [] => true
  | (k, _) :: l => match l.any (fun x => x.1 == k) with
    | true => false
    | false => distK l

theorem lookA_delA : ∀ (σ : Sig) (r m : Nat), lookA (delA σ r) m = if m = r then none else lookA σ m
  | [], r, m => by simp [delA, lookA]
  | (k, v) :: l, r, m => by
    simp only [delA]
    split
    · rename_i h
      have h : k = r := by simpa using h
      subst h
      rw [lookA_delA l, lookA_cons]
      by_cases hm : m = k
      · simp [hm]
      · have : ¬ k = m := fun e => hm e.symm
        simp [hm, this]
    · rename_i h
      have h : ¬ k = r := by simpa using h
      rw [lookA_cons, lookA_cons, lookA_delA l]
      by_cases hk : k = m
      · subst hk; simp [h]
      · simp [hk]
theorem rowAt_delL : ∀ (L : Asc) {σ : Sig} {r g : Nat} {p : List Nat} {row : Row}, rowAt (delL σ L) r g p = some row → rowAt σ r g p = some row ∧ ∀ x ∈ L, x.1.1 ≠ r
  | [], _, _, _, _, _, h => ⟨h, by simp⟩
  | y :: L, σ, r, g, p, row, h => by
    obtain ⟨h1, h2⟩ := rowAt_delL L (σ := delA σ y.1.1) h
    unfold rowAt at h1
    rw [lookA_delA] at h1
    split at h1
    · rename_i x hx
      split at hx
      · cases hx
      · rename_i hne
        refine ⟨?_, fun z hz => ?_⟩
        · unfold rowAt
          rw [hx]
          exact h1
        · rcases List.mem_cons.1 hz with rfl | hz
          · exact fun e => hne e.symm
          · exact h2 z hz
    · cases h1
theorem lookA_of_mem : ∀ {σ : Sig}, distK σ = true → ∀ {k : Nat} {x : Nat × Frag}, (k, x) ∈ σ → lookA σ k = some x
  | [], _, _, _, h => by simp at h
  | (k0, v) :: l, hd, k, x, h => by
    simp only [distK] at hd
    split at hd
    · cases hd
    · rename_i hn
      rw [lookA_cons]
      rcases List.mem_cons.1 h with e | h
      · cases e; simp
      · rw [if_neg, lookA_of_mem hd h]
        intro e
        subst e
        have : l.any (fun x => x.1 == k0) = true := List.any_eq_true.2 ⟨_, h, by simp⟩
        rw [this] at hn; cases hn
theorem outS_spec {N : NF} : ∀ {l : Sig} {acc σ2 : Sig}, outS N acc l = some σ2 → ∀ {r g : Nat} {p : List Nat} {row' : Row}, rowAt σ2 r g p = some row' →
    (∃ k g0 f row, (k, (g0, f)) ∈ l ∧ N k g0 = some (r, g) ∧ f p = some row ∧ row' = mapRow N row) ∨ rowAt acc r g p = some row'
  | [], _, _, h, _, _, _, _, hr => by cases h; exact .inr hr
  | (k, (g0, f)) :: l, acc, σ2, h, r, g, p, row', hr => by
    simp only [outS] at h
    split at h
    · rename_i x hx
      rcases outS_spec h hr with ⟨k1, g1, f1, row, h1, h2, h3, h4⟩ | h1
      · exact .inl ⟨k1, g1, f1, row, List.mem_cons_of_mem _ h1, h2, h3, h4⟩
      · rw [rowAt_setA] at h1
        by_cases hr1 : r = x.1
        · rw [if_pos hr1] at h1
          split at h1
          · rename_i hg
            unfold mapF at h1
            split at h1
            · rename_i row hrow
              cases h1
              exact .inl ⟨k, g0, f, row, by simp, by rw [hx, hr1, ← hg], hrow, rfl⟩
            · cases h1
          · cases h1
        · rw [if_neg hr1] at h1
          exact .inr h1
    · cases h

def phiM (φ φ' : Phi) (L : Asc) (d G : Nat) : Phi := fun r g p => match lkN L r g with
  | some x => φ' x.1 x.2 p
  | none => match decide (g = G) with
    | true => match decide (r = d + 10000 * ((r - d) / 10000)) with
      | true => φ' ((r - d) / 10000) 0 p
      | false => φ r g p
    | false => φ r g p

/-- What a call hands back joins what was not moved into it. -/
theorem HRel.joinM {rd' : RD} {w' : World} {d G : Nat} {L : Asc} {σin σout σ2 : Sig} (h : HRel rd φ O w0 σ w) (hgen : ∀ r g p, φ r g p ≠ none → g < G)
    (hL : ∀ x ∈ L, 1000000 ≤ x.2.1 ∧ x.2.2 = 0) (hd : distN L = true) (hin : renS σ (lkN L) L = some σin) (hk : distK σout = true)
    (hx : Ext (OwnedBy (phiL φ L) σin) w rd rd') (hmono : ∀ r p pl, phiL φ L r 0 p = some pl → 1000000 ≤ r → φ' r 0 p = some pl) (k : HRel rd' φ' (OwnedBy (phiL φ L) σin) w σout w')
    (ho : outS (bkN L d G) (delL σ L) σout = some σ2) :
    HRel rd' (phiM φ φ' L d G) O w0 σ2 w' ∧ (∀ r g p pl, φ r g p = some pl → phiM φ φ' L d G r g p = some pl) ∧ Carries (bkN L d G) φ' (phiM φ φ' L d G) ∧ Ext O w0 rd rd' := by
  have halive := renS_alive hin
  have hgx : ∀ x ∈ L, x.1.2 < G := fun x hxm => by
    obtain ⟨row, hrow⟩ := halive x hxm
    obtain ⟨pl, hp, _⟩ := h.rows _ _ _ _ hrow
    exact hgen _ _ [] (by rw [hp]; simp)
  have hext : ∀ r g p pl, φ r g p = some pl → phiM φ φ' L d G r g p = some pl := by
    intro r g p pl hp
    unfold phiM
    split
    · rename_i x hxx
      have hm := lkN_mem hxx
      have := phiL_carries hd (φ := φ) _ _ _ _ _ hxx hp
      obtain ⟨e1, e2⟩ := hL _ hm
      simp only at e1 e2
      rw [e2] at this ⊢
      exact hmono _ _ _ this e1
    · split
      · rename_i hg
        have hg := of_decide_eq_true hg
        subst hg
        exact absurd (hgen _ _ _ (by rw [hp]; simp)) (Nat.lt_irrefl _)
      · exact hp
  have hM : Carries (bkN L d G) φ' (phiM φ φ' L d G) := by
    intro r g x p pl hxx hp
    unfold bkN at hxx
    split at hxx
    · rename_i hlt
      have hlt := of_decide_eq_true hlt
      split at hxx
      · rename_i hg
        have hg := Nat.eq_of_beq_eq_true hg
        cases hxx
        subst hg
        unfold phiM
        have hno : lkN L (d + 10000 * r) G = none := by
          cases hl : lkN L (d + 10000 * r) G with
          | none => rfl
          | some y => exact absurd (hgx _ (lkN_mem hl)) (Nat.lt_irrefl _)
        simp only [hno]
        have e : (d + 10000 * r - d) / 10000 = r := by omega
        rw [e]
        simp [hp]
      · cases hxx
    · have hm := lkB_mem hxx
      have hn := lkN_of_mem hd hm
      simp only at hn
      unfold phiM
      rw [hn]
      exact hp
  have hOc : ∀ b, OwnedBy (phiL φ L) σin b → ∃ x ∈ L, ∃ p row pl q, rowAt σ x.1.1 x.1.2 p = some row ∧ φ x.1.1 x.1.2 p = some pl ∧ pl.ad = some (b, q) := by
    rintro b ⟨r, g, p, row, pl, q, h1, h2, h3⟩
    obtain ⟨x, hxm, row0, e1, e2, e3⟩ := renS_spec hin _ _ _ _ h1
    refine ⟨x, hxm, p, row0, pl, q, e2, ?_, h3⟩
    have := lkB_of_mem hd hxm
    rw [e1] at this
    simp only [phiL, this] at h2
    exact h2
  have hcase : ∀ {r g p row'}, rowAt σ2 r g p = some row' → (∃ k0 g0 row, rowAt σout k0 g0 p = some row ∧ bkN L d G k0 g0 = some (r, g) ∧ row' = mapRow (bkN L d G) row) ∨ (rowAt σ r g p = some row' ∧ ∀ x ∈ L, x.1.1 ≠ r) := by
    intro r g p row' hr
    rcases outS_spec ho hr with ⟨k0, g0, f, row, h1, h2, h3, h4⟩ | h1
    · refine .inl ⟨k0, g0, row, ?_, h2, h4⟩
      unfold rowAt
      rw [lookA_of_mem hk h1]
      simp [h3]
    · exact .inr (rowAt_delL L h1)
  have hnotOc : ∀ {r g p row pl b q}, rowAt σ r g p = some row → (∀ x ∈ L, x.1.1 ≠ r) → φ r g p = some pl → pl.ad = some (b, q) → ¬ OwnedBy (phiL φ L) σin b := by
    intro r g p row pl b q h1 h2 h3 h4 hb
    obtain ⟨x, hxm, p', row', pl', q', e1, e2, e3⟩ := hOc b hb
    exact h2 x hxm (h.sep _ _ _ _ _ _ _ _ _ _ _ _ _ e1 h1 e2 h3 e3 h4).1
  have hlt : ∀ {r g p row pl b q}, rowAt σ r g p = some row → φ r g p = some pl → pl.ad = some (b, q) → b < w.heap.size := fun h1 h2 h3 => (h.own _ _ _ _ _ _ _ h1 h2 h3).2
  have hownO : ∀ b, OwnedBy (phiL φ L) σin b → O b ∨ w0.heap.size ≤ b := by
    intro b hb
    obtain ⟨x, hxm, p', row', pl', q', e1, e2, e3⟩ := hOc b hb
    exact (h.own _ _ _ _ _ _ _ e1 e2 e3).1
  refine ⟨⟨?_, ?_, k.rdok, ?_, ?_, ?_, Nat.le_trans h.size k.size, k.os.trans h.os, k.tape.trans h.tape, k.output.trans h.output⟩, hext, hM, hx.1, fun b o hb hO => hx.2 b o (Nat.lt_of_lt_of_le hb h.size) fun hc => ?_⟩
  · intro r g p row' hr
    rcases hcase hr with ⟨k0, g0, row, h1, h2, rfl⟩ | ⟨h1, h2⟩
    · obtain ⟨pl, h3, h4⟩ := k.rows _ _ _ _ h1
      exact ⟨pl, hM _ _ _ _ _ h2 h3, h4.map hM⟩
    · obtain ⟨pl, h3, h4⟩ := h.rows _ _ _ _ h1
      refine ⟨pl, hext _ _ _ _ h3, (h4.of_same fun b q had k' => ?_).mono hx.1 hext⟩
      have := k.frame b (hlt h1 h3 had) (hnotOc h1 h2 h3 had)
      exact ⟨World.cell?_of_block this, World.frozen?_of_block this⟩
  · intro r g p row r' g' p' row' pl pl' b q q' h1 h2 h3 h4 h5 h6
    rcases hcase h1 with ⟨k0, g0, row0, a1, a2, rfl⟩ | ⟨a1, a2⟩ <;> rcases hcase h2 with ⟨k1, g1, row1, b1, b2, rfl⟩ | ⟨b1, b2⟩
    · obtain ⟨pa, a3, _⟩ := k.rows _ _ _ _ a1
      obtain ⟨pb, b3, _⟩ := k.rows _ _ _ _ b1
      rw [hM _ _ _ _ _ a2 a3] at h3
      rw [hM _ _ _ _ _ b2 b3] at h4
      cases h3
      cases h4
      obtain ⟨rfl, rfl⟩ := k.sep _ _ _ _ _ _ _ _ _ _ _ _ _ a1 b1 a3 b3 h5 h6
      have := rowAt_gen a1 b1
      subst this
      rw [a2] at b2
      cases b2
      exact ⟨rfl, rfl⟩
    · obtain ⟨pa, a3, _⟩ := k.rows _ _ _ _ a1
      rw [hM _ _ _ _ _ a2 a3] at h3
      cases h3
      obtain ⟨pb, b3, _⟩ := h.rows _ _ _ _ b1
      rw [hext _ _ _ _ b3] at h4
      cases h4
      rcases (k.own _ _ _ _ _ _ _ a1 a3 h5).1 with hh | hh
      · exact absurd hh (hnotOc b1 b2 b3 h6)
      · exact absurd (hlt b1 b3 h6) (by omega)
    · obtain ⟨pb, b3, _⟩ := k.rows _ _ _ _ b1
      rw [hM _ _ _ _ _ b2 b3] at h4
      cases h4
      obtain ⟨pa, a3, _⟩ := h.rows _ _ _ _ a1
      rw [hext _ _ _ _ a3] at h3
      cases h3
      rcases (k.own _ _ _ _ _ _ _ b1 b3 h6).1 with hh | hh
      · exact absurd hh (hnotOc a1 a2 a3 h5)
      · exact absurd (hlt a1 a3 h5) (by omega)
    · obtain ⟨pa, a3, _⟩ := h.rows _ _ _ _ a1
      obtain ⟨pb, b3, _⟩ := h.rows _ _ _ _ b1
      rw [hext _ _ _ _ a3] at h3
      rw [hext _ _ _ _ b3] at h4
      cases h3
      cases h4
      exact h.sep _ _ _ _ _ _ _ _ _ _ _ _ _ a1 b1 a3 b3 h5 h6
  · intro r g p row' pl b q h1 h2 h3 i hor
    rcases hcase h1 with ⟨k0, g0, row0, a1, a2, rfl⟩ | ⟨a1, a2⟩
    · obtain ⟨pa, a3, _⟩ := k.rows _ _ _ _ a1
      rw [hM _ _ _ _ _ a2 a3] at h2
      cases h2
      obtain ⟨m1, m2, m3⟩ := mapRow_sz (bkN L d G) row0
      rw [m1, m2, m3] at hor
      exact k.rdsep _ _ _ _ _ _ _ a1 a3 h3 i hor
    · obtain ⟨pa, a3, _⟩ := h.rows _ _ _ _ a1
      rw [hext _ _ _ _ a3] at h2
      cases h2
      rw [hx.2 b i (hlt a1 a3 h3) (hnotOc a1 a2 a3 h3)]
      exact h.rdsep _ _ _ _ _ _ _ a1 a3 h3 i hor
  · intro r g p row' pl b q h1 h2 h3
    rcases hcase h1 with ⟨k0, g0, row0, a1, a2, rfl⟩ | ⟨a1, a2⟩
    · obtain ⟨pa, a3, _⟩ := k.rows _ _ _ _ a1
      rw [hM _ _ _ _ _ a2 a3] at h2
      cases h2
      obtain ⟨e1, e2⟩ := k.own _ _ _ _ _ _ _ a1 a3 h3
      exact ⟨e1.elim (hownO b) fun e => .inr (Nat.le_trans h.size e), e2⟩
    · obtain ⟨pa, a3, _⟩ := h.rows _ _ _ _ a1
      rw [hext _ _ _ _ a3] at h2
      cases h2
      obtain ⟨e1, e2⟩ := h.own _ _ _ _ _ _ _ a1 a3 h3
      exact ⟨e1, Nat.lt_of_lt_of_le e2 k.size⟩
  · intro b hb hO
    rw [k.frame b (Nat.lt_of_lt_of_le hb h.size) fun hc => ?_]
    · exact h.frame b hb hO
    · rcases hownO b hc with e | e
      · exact hO e
      · omega
  · rcases hownO b hc with e | e
    · exact hO e
    · omega
end

end Go.Proofs.Ytkhemolkhegppaa.E
