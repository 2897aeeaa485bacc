/-
  E, part G: a call of a function by its contract; regions in order; control; the contract of a function out of its code.
-/
import Derived.Test.YtkhemolkhegppaaEF
namespace Go.Proofs.Ytkhemolkhegppaa.E
open Go Go.RowKit
set_option linter.unusedVariables false

section
variable {P : Program} {rd : RD} {φ : Phi} {O : Nat → Prop} {w0 w : World} {s : St} {a : Act}

theorem lookF_mem {l : List (List Nat × Row)} {p : List Nat} {row : Row} (h : lookF l p = some row) : ∃ q, (q, row) ∈ l := by
  induction l with
  | nil => cases h
  | cons x l ih =>
    obtain ⟨q, r⟩ := x
    simp only [lookF] at h
    split at h
    · cases h; exact ⟨q, by simp⟩
    · obtain ⟨q', hq⟩ := ih h; exact ⟨q', by simp [hq]⟩

/-- What a callee hands back joins what the caller has. -/
theorem HRel.join {rd' : RD} {σ : Sig} {w' : World} {d G : Nat} {ψ : List Nat → Option Pl} {rf : List (List Nat × Row)} (h : HRel rd φ O w0 σ w) (hfr : ∀ p, φ d G p = none)
    (hx : Ext (fun _ => False) w rd rd') (k : HRel rd' (phi0 ψ) (fun _ => False) w (sigOf rf) w')
    (hrow : ∀ p row, lookF rf p = some row → 1 ≤ row.fl) :
    HRel rd' (phiSet φ d G ψ) O w0 (addF σ d G rf) w' ∧ (∀ r g p pl, φ r g p = some pl → phiSet φ d G ψ r g p = some pl) := by
  have hext : ∀ r g p pl, φ r g p = some pl → phiSet φ d G ψ r g p = some pl := by
    intro r g p pl hp
    unfold phiSet
    rw [if_neg (by rintro ⟨rfl, rfl⟩; rw [hfr] at hp; cases hp)]
    exact hp
  have hold : ∀ b, b < w.heap.size → w'.heap[b]? = w.heap[b]? := fun b hb => k.frame b hb (fun h => h)
  have hcell : ∀ b q, b < w.heap.size → w'.cell? (mkA b q) = w.cell? (mkA b q) := fun b q hb => World.cell?_of_block (hold b hb)
  have hfroz : ∀ b q, b < w.heap.size → w'.frozen? (mkA b q) = w.frozen? (mkA b q) := fun b q hb => World.frozen?_of_block (hold b hb)
  have hat : ∀ p row, lookF rf p = some row → rowAt (sigOf rf) 0 0 p = some row := by
    intro p row hp
    cases rf with
    | nil => cases hp
    | cons x l => simp [rowAt, sigOf, lookA, hp]
  have hcase : ∀ {r g p row}, rowAt (addF σ d G rf) r g p = some row → (d = r ∧ G = g ∧ lookF rf p = some row) ∨ (rowAt σ r g p = some row ∧ (rf = [] ∨ r ≠ d)) := by
    intro r g p row hr
    cases rf with
    | nil => exact .inr ⟨hr, .inl rfl⟩
    | cons x l =>
      simp only [addF, rowAt_setA] at hr
      by_cases hd : r = d
      · rw [if_pos hd] at hr
        by_cases hg : G = g
        · rw [if_pos hg] at hr; exact .inl ⟨hd.symm, hg, hr⟩
        · rw [if_neg hg] at hr; cases hr
      · rw [if_neg hd] at hr; exact .inr ⟨hr, .inr hd⟩
  have hphi : ∀ p, phiSet φ d G ψ d G p = ψ p := fun p => by simp [phiSet]
  have hphio : ∀ {r g p row}, rowAt σ r g p = some row → phiSet φ d G ψ r g p = φ r g p := by
    intro r g p row hr
    obtain ⟨pl, hp, _⟩ := h.rows _ _ _ _ hr
    rw [hext _ _ _ _ hp, hp]
  have hlt : ∀ {r g p row pl b q}, rowAt σ r g p = some row → φ r g p = some pl → pl.ad = some (b, q) → b < w.heap.size := fun h1 h2 h3 => (h.own _ _ _ _ _ _ _ h1 h2 h3).2
  have hnew : ∀ {p row pl b q}, lookF rf p = some row → ψ p = some pl → pl.ad = some (b, q) → w.heap.size ≤ b ∧ b < w'.heap.size := by
    intro p row pl b q h1 h2 h3
    obtain ⟨h4, h5⟩ := k.own 0 0 p row pl b q (hat _ _ h1) (by simpa [phi0] using h2) h3
    exact ⟨h4.elim (fun h => h.elim) id, h5⟩
  refine ⟨⟨?_, ?_, ?_, ?_, ?_, ?_, ?_, k.os.trans h.os, k.tape.trans h.tape, k.output.trans h.output⟩, hext⟩
  · intro r g p row hr
    rcases hcase hr with ⟨rfl, rfl, hp⟩ | ⟨hr1, _⟩
    · obtain ⟨pl, h1, h2⟩ := k.rows _ _ _ _ (hat _ _ hp)
      refine ⟨pl, by rw [hphi]; simpa [phi0] using h1, h2.wide, h2.len, h2.kind, h2.nil, h2.room, fun b q had i j c hc => ?_, h2.frz⟩
      obtain ⟨v, hv, hrel⟩ := h2.cells b q had i j c hc
      refine ⟨v, hv, ?_⟩
      have hf1 := hrow p row hp
      have hm : ∃ e ∈ row.es, c ∈ e := by
        cases he : row.es[i]? with
        | none => rw [he] at hc; cases hc
        | some e => rw [he] at hc; exact ⟨e, List.mem_of_getElem? he, List.mem_of_getElem? hc⟩
      obtain ⟨e, he, hce⟩ := hm
      have hs := (h2.kind e he).1 hf1 c hce
      have hsf : sf c = true := by cases c <;> first | rfl | cases hs
      exact hrel.of_sf hsf
    · obtain ⟨pl, h1, h2⟩ := h.rows _ _ _ _ hr1
      refine ⟨pl, hext _ _ _ _ h1, (h2.of_same fun b q had k => ⟨hcell b k (hlt hr1 h1 had), hfroz b k (hlt hr1 h1 had)⟩).mono hx.1 hext⟩
  · intro r g p row r' g' p' row' pl pl' b q q' h1 h2 h3 h4 h5 h6
    rcases hcase h1 with ⟨e3, e4, k1⟩ | ⟨k1, hd⟩ <;> rcases hcase h2 with ⟨e1, e2, k2⟩ | ⟨k2, hd'⟩
    · subst e1; subst e2; subst e3
      rw [← e4, hphi] at h3
      rw [hphi] at h4
      exact ⟨rfl, (k.sep 0 0 p row 0 0 p' row' pl pl' b q q' (hat _ _ k1) (hat _ _ k2) (by simpa [phi0] using h3) (by simpa [phi0] using h4) h5 h6).2⟩
    · subst e3; subst e4
      rw [hphi] at h3
      rw [hphio k2] at h4
      have := (hnew k1 h3 h5).1
      have := hlt k2 h4 h6
      omega
    · subst e1; subst e2
      rw [hphi] at h4
      rw [hphio k1] at h3
      have := (hnew k2 h4 h6).1
      have := hlt k1 h3 h5
      omega
    · rw [hphio k1] at h3
      rw [hphio k2] at h4
      exact h.sep _ _ _ _ _ _ _ _ _ _ _ _ _ k1 k2 h3 h4 h5 h6
  · exact k.rdok
  · intro r g p row pl b q h1 h2 h3 i hor
    rcases hcase h1 with ⟨rfl, rfl, k1⟩ | ⟨k1, hd⟩
    · rw [hphi] at h2
      exact k.rdsep 0 0 p row pl b q (hat _ _ k1) (by simpa [phi0] using h2) h3 i hor
    · rw [hphio k1] at h2
      rw [hx.2 b i (hlt k1 h2 h3) (fun h => h)]
      exact h.rdsep _ _ _ _ _ _ _ k1 h2 h3 i hor
  · intro r g p row pl b q h1 h2 h3
    rcases hcase h1 with ⟨rfl, rfl, k1⟩ | ⟨k1, hd⟩
    · rw [hphi] at h2
      obtain ⟨ha, hb⟩ := hnew k1 h2 h3
      exact ⟨.inr (Nat.le_trans h.size ha), hb⟩
    · rw [hphio k1] at h2
      obtain ⟨ha, hb⟩ := h.own _ _ _ _ _ _ _ k1 h2 h3
      exact ⟨ha, Nat.lt_of_lt_of_le hb k.size⟩
  · intro b hb hO
    rw [hold b (Nat.lt_of_lt_of_le hb h.size)]
    exact h.frame b hb hO
  · exact Nat.le_trans h.size k.size

theorem vcCall_sound {rd0 : REnv} (hx0 : ExtE O w0 rd0 rd φ) {o : Oper} {n : Nat} {args : List AV} {K : St → Prop} (h : Rel rd φ O w0 s a w) {cargs : Array Value} (hargs : PW rd φ args cargs.toList) (hv : vcCall P s o n args K) :
    FnOK P n ∧ Calls P n cargs w fun e w' => ∃ v s', e = .returned v ∧ K s' ∧ RelE rd0 O w0 s' (a.put o.dst v) w' := by
  unfold vcCall at hv
  obtain ⟨⟨σ1, args'⟩, hl, hv⟩ := onSome_elim hv
  obtain ⟨res, rf, ⟨hfn, hc⟩, hok, hk⟩ := hv
  refine ⟨hfn, ?_⟩
  obtain ⟨rd1, x1, h1, l1⟩ := frzAll_sound h.heap hargs hl
  have hfr : ∀ p, φ (o.dst.getD 0) s.G p = none := fun p => by
    cases hp : φ (o.dst.getD 0) s.G p with
    | none => rfl
    | some x => exact absurd (h.gen _ s.G p (by rw [hp]; simp)) (Nat.lt_irrefl _)
  refine (hc w rd1 cargs h1.rdok (l1 _)).mono ?_
  rintro e w' ⟨v, rd', ψ, rfl, x2, h2, h4⟩
  obtain ⟨j1, j2⟩ := h1.join hfr x2 h2 (fun p row hp => by
    obtain ⟨q, hq⟩ := lookF_mem hp
    exact Nat.le_of_ble_eq_true (List.all_eq_true.1 hok _ hq))
  have hr := nm_rel (φ := φ) (d := o.dst.getD 0) (G := s.G) h4
  have x3 : Ext O w0 rd1 rd' := ⟨x2.1, fun b k hb hO => x2.2 b k (Nat.lt_of_lt_of_le hb h1.size) (fun h => h)⟩
  obtain ⟨s', hs, hrel⟩ := h.put hk (x1.trans x3).1 j1 hr j2 (fun r g p hp => (phiSet_new r g p hp).imp id fun h => ⟨rfl, h⟩)
  exact ⟨v, s', rfl, hs, rd', _, hx0.step (x1.trans x3) j2, hrel⟩

/-- All that may come of a region or a code. -/
abbrev Post (rd : REnv) (O : Nat → Prop) (w0 : World) (Q : Exit → St → Prop) : Exit → Act → World → Prop := fun e a w => ∃ s, Q e s ∧ RelE rd O w0 s a w

theorem Rel.known (h : Rel rd φ O w0 s a w) {t : Nat} {b : Bool} (hl : lookA s.tm t = some (.sc (.bool b))) :
    a.tmps[t]? = some (.bool b) ∧ Rel rd φ O w0 ⟨s.n, (t, .sc (.bool b)) :: s.tm, s.σ, s.G⟩ a w := by
  have hv := sc_inv (h.tm t _ hl)
  have hlt : t < a.tmps.size := by
    rcases Nat.lt_or_ge t a.tmps.size with hx | hx
    · exact hx
    · simp [Array.getElem?_eq_none hx, undef] at hv
  refine ⟨?_, h.heap, fun t' v hl' => ?_, h.size, h.defers, h.gen⟩
  · have : a.tmps.getD t undef = a.tmps[t] := by simp [hlt]
    rw [this] at hv
    rw [Array.getElem?_eq_getElem hlt, hv]
  · simp only [lookA_cons] at hl'
    split at hl'
    · rename_i e
      subst e
      cases hl'
      exact h.tm _ _ hl
    · exact h.tm _ _ hl'

end

end Go.Proofs.Ytkhemolkhegppaa.E
