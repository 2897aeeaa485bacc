/-
  E, part B: what making and writing a row does to the relation of memory.
-/
import Derived.Test.YtkhemolkhegppaaEA
import Derived.Deep.MidRow
namespace Go.Proofs.Ytkhemolkhegppaa.E
open Go Go.RowKit
set_option linter.unusedVariables false

def one (row : Row) : Frag := fun p => match p with
  | [] => some row
  | _ => none
theorem one_some {row row' : Row} {p : List Nat} (h : one row p = some row') : p = [] ∧ row' = row := by
  unfold one at h
  split at h
  · exact ⟨rfl, (Option.some.inj h).symm⟩
  · cases h
def fset (f : Frag) (p : List Nat) (row : Row) : Frag := fun q => if q = p then some row else f q
theorem fset_one (row row' : Row) : fset (one row) [] row' = one row' := by
  funext q
  unfold fset one
  cases q <;> simp

def phiSet (φ : Phi) (r g : Nat) (ψ : List Nat → Option Pl) : Phi := fun r' g' p => if r' = r ∧ g' = g then ψ p else φ r' g' p

theorem cell_setCells (b : Nat) : ∀ (vs : List Value) (o : Nat) (w : World) (b' k : Nat),
    (w.setCells b o vs).cell? (mkA b' k) = if b' = b ∧ o ≤ k ∧ k < o + vs.length ∧ (w.cell? (mkA b' k)).isSome = true then vs[k - o]? else w.cell? (mkA b' k)
  | [], o, w, b', k => by
    simp only [World.setCells, List.length_nil, Nat.add_zero]
    rw [if_neg (by omega)]
  | v :: vs, o, w, b', k => by
    rw [World.setCells, cell_setCells b vs]
    by_cases h : mkA b o = mkA b' k
    · have hb : b' = b := by injection h with h1; exact h1.symm
      have hk : k = o := by injection h with _ h2; exact h2.symm
      subst hb; subst hk
      rw [if_neg (by omega)]
      cases hc : w.cell? (mkA b' k) with
      | none =>
        rw [if_neg (by simp)]
        unfold World.cell? at hc ⊢
        simp only [World.setCell, Array.getElem?_modify] at hc ⊢
        cases hh : w.heap[b']? with
        | none => simp
        | some x => cases x <;> simp_all
      | some u =>
        rw [if_pos ⟨rfl, Nat.le_refl _, by simp, by simp⟩]
        simp [World.cell?_setCell_same _ _ _ hc]
    · rw [World.cell?_setCell_other _ _ _ _ h]
      by_cases hc : b' = b ∧ o + 1 ≤ k ∧ k < o + 1 + vs.length ∧ (w.cell? (mkA b' k)).isSome = true
      · rw [if_pos hc, if_pos ⟨hc.1, by omega, by simp; omega, hc.2.2.2⟩]
        rw [show k - o = (k - (o + 1)) + 1 by omega, List.getElem?_cons_succ]
      · rw [if_neg hc]
        by_cases hc2 : b' = b ∧ o ≤ k ∧ k < o + (v :: vs).length ∧ (w.cell? (mkA b' k)).isSome = true
        · exfalso
          obtain ⟨h1, h2, h3, h4⟩ := hc2
          simp only [List.length_cons] at h3
          have : k ≠ o := fun e => h (by rw [e, h1])
          exact hc ⟨h1, by omega, by omega, h4⟩
        · rw [if_neg hc2]

theorem frozen_setCells (b : Nat) : ∀ (vs : List Value) (o : Nat) (w : World) (a : Addr), (w.setCells b o vs).frozen? a = w.frozen? a
  | [], _, _, _ => rfl
  | v :: vs, o, w, a => by rw [World.setCells, frozen_setCells b vs, World.frozen?_setCell]
theorem heap_setCells (b : Nat) : ∀ (vs : List Value) (o : Nat) (w : World) (k : Nat), k ≠ b → (w.setCells b o vs).heap[k]? = w.heap[k]?
  | [], _, _, _, _ => rfl
  | v :: vs, o, w, k, h => by rw [World.setCells, heap_setCells b vs _ _ _ h, Below.heap_setCell _ _ _ _ h]
theorem size_setCells (b : Nat) : ∀ (vs : List Value) (o : Nat) (w : World), (w.setCells b o vs).heap.size = w.heap.size
  | [], _, _ => rfl
  | v :: vs, o, w => by rw [World.setCells, size_setCells b vs, World.size_setCell]
theorem rest_setCells (b : Nat) : ∀ (vs : List Value) (o : Nat) (w : World), (w.setCells b o vs).os = w.os ∧ (w.setCells b o vs).tape = w.tape ∧ (w.setCells b o vs).output = w.output
  | [], _, _ => ⟨rfl, rfl, rfl⟩
  | v :: vs, o, w => by rw [World.setCells]; exact rest_setCells b vs _ _

theorem cell_lt {w : World} {b k : Nat} (h : (w.cell? (mkA b k)).isSome = true) : b < w.heap.size := by
  obtain ⟨v, hv⟩ := Option.isSome_iff_exists.1 h
  exact World.block_lt_of_cell? _ _ hv

/-- A draw changes nothing of it. -/
theorem RowOK.of_same {rd : RD} {φ : Phi} {w w' : World} {pl : Pl} {row : Row} (h : RowOK rd φ w pl row)
    (hc : ∀ b q, pl.ad = some (b, q) → ∀ k, w'.cell? (mkA b k) = w.cell? (mkA b k) ∧ w'.frozen? (mkA b k) = w.frozen? (mkA b k)) : RowOK rd φ w' pl row :=
  ⟨h.wide, h.len, h.kind, h.nil, fun b q had k hk => by rw [(hc b q had _).1, (hc b q had _).2]; exact h.room b q had k hk,
   fun b q had i j c hcc => by rw [(hc b q had _).1]; exact h.cells b q had i j c hcc, fun ha => ⟨(h.frz ha).1, fun b q had k hk => by rw [(hc b q had _).1]; exact (h.frz ha).2 b q had k hk⟩⟩
theorem RowOK.mono {rd rd' : RD} {φ φ' : Phi} {w : World} {pl : Pl} {row : Row} (h : RowOK rd φ w pl row)
    (h1 : ∀ b o v, rd b o = some v → rd' b o = some v) (h2 : ∀ r g p pl, φ r g p = some pl → φ' r g p = some pl) : RowOK rd' φ' w pl row :=
  ⟨h.wide, h.len, h.kind, h.nil, h.room, fun b q had i j c hcc => by obtain ⟨v, hv, hr⟩ := h.cells b q had i j c hcc; exact ⟨v, hv, hr.mono h1 h2⟩,
   fun ha => ⟨(h.frz ha).1, fun b q had k hk => by
     have e := (h.frz ha).2 b q had k hk
     obtain ⟨v, hv⟩ := Option.isSome_iff_exists.1 (h.room b q had k (Nat.lt_of_lt_of_le hk (Nat.mul_le_mul_right _ h.len))).1
     rw [hv] at e ⊢
     exact h1 _ _ _ e⟩⟩

theorem HRel.drew {rd : RD} {φ : Phi} {O : Nat → Prop} {w0 w : World} {σ : Sig} (h : HRel rd φ O w0 σ w) : HRel rd φ O w0 σ w.drew :=
  ⟨fun r g p row hr => by obtain ⟨pl, h1, h2⟩ := h.rows r g p row hr; exact ⟨pl, h1, h2.of_same fun _ _ _ _ => ⟨rfl, rfl⟩⟩, h.sep, h.rdok, h.rdsep, h.own, h.frame, h.size, h.os, h.tape, h.output⟩

theorem rowAt_setA (σ : Sig) (d G : Nat) (f : Frag) (r g : Nat) (p : List Nat) :
    rowAt (setA σ d (G, f)) r g p = if r = d then (if G = g then f p else none) else rowAt σ r g p := by
  unfold rowAt
  rw [lookA_setA]
  by_cases h : r = d <;> simp [h]

/-- The one block that was there last is new. -/
theorem cell_alloc_old {w : World} {o : Obj} {b k : Nat} (h : b < w.heap.size) : (w.alloc o).cell? (mkA b k) = w.cell? (mkA b k) :=
  World.cell?_alloc_lt _ _ _ h
theorem frozen_alloc_old {w : World} {o : Obj} {b k : Nat} (h : b < w.heap.size) : (w.alloc o).frozen? (mkA b k) = w.frozen? (mkA b k) :=
  World.frozen?_alloc_old _ _ _ (by show b ≠ w.heap.size; omega)

/-- A NEW ROW, of one block that was just made. -/
theorem HRel.newRow {rd : RD} {φ : Phi} {O : Nat → Prop} {w0 w : World} {σ : Sig} (h : HRel rd φ O w0 σ w) {d G : Nat} (hfr : ∀ p, φ d G p = none)
    (row : Row) (hao : row.ao = false) (cap : Nat) (arr : Array Value) (T : TypeId) (fz : Nat × Nat) (hfz : arr.size ≤ fz.1 ∨ fz.2 ≤ fz.1) (hwide : ∀ e ∈ row.es, e.length = row.sz) (hlen : row.es.length ≤ cap) (hsz : cap * row.sz ≤ arr.size)
    (hflat : ∀ e ∈ row.es, KOK row.fl e)
    (hc : ∀ i j c, (row.es[i]?).bind (·[j]?) = some c → ∃ v, arr[i * row.sz + j]? = some v ∧ VRel rd φ c v) :
    HRel rd (phiSet φ d G fun p => match p with | [] => some ⟨some (w.heap.size, 0), cap⟩ | _ => none) O w0 (setA σ d (G, one row)) (w.alloc (.cells arr T fz)) ∧
    (∀ r g p pl, φ r g p = some pl → phiSet φ d G (fun p => match p with | [] => some ⟨some (w.heap.size, 0), cap⟩ | _ => none) r g p = some pl) := by
  have hext : ∀ r g p pl, φ r g p = some pl → phiSet φ d G (fun p => match p with | [] => some ⟨some (w.heap.size, 0), cap⟩ | _ => none) r g p = some pl := by
    intro r g p pl hp
    unfold phiSet
    rw [if_neg (by rintro ⟨rfl, rfl⟩; rw [hfr] at hp; cases hp)]
    exact hp
  have hlt : ∀ {r g p row pl b q}, rowAt σ r g p = some row → φ r g p = some pl → pl.ad = some (b, q) → b < w.heap.size := fun h1 h2 h3 => (h.own _ _ _ _ _ _ _ h1 h2 h3).2
  have hnew : ∀ k, (w.alloc (.cells arr T fz)).cell? (mkA w.heap.size k) = arr[k]? := by
    intro k
    show (match (w.heap.push _)[w.heap.size]? with | some (.cells c _ _) => if (mkA w.heap.size k).spot.isSome then none else c[k]? | _ => none) = _
    rw [Array.getElem?_push_size]
    rfl
  have hnewF : ∀ k, k < arr.size → (w.alloc (.cells arr T fz)).frozen? (mkA w.heap.size k) = false := by
    intro k hk
    show (match (w.heap.push _)[w.heap.size]? with | some (.cells _ _ (lo, hi)) => lo ≤ k && k < hi | _ => false) = false
    rw [Array.getElem?_push_size]
    simp
    omega
  -- what a name stands for now
  have hcase : ∀ {r g p row'}, rowAt (setA σ d (G, one row)) r g p = some row' → (d = r ∧ G = g ∧ [] = p ∧ row = row') ∨ (rowAt σ r g p = some row' ∧ r ≠ d) := by
    intro r g p row' hr
    rw [rowAt_setA] at hr
    by_cases hd : r = d
    · rw [if_pos hd] at hr
      by_cases hg : G = g
      · rw [if_pos hg] at hr
        obtain ⟨h1, h2⟩ := one_some hr
        exact .inl ⟨hd.symm, hg, h1.symm, h2.symm⟩
      · rw [if_neg hg] at hr; cases hr
    · rw [if_neg hd] at hr
      exact .inr ⟨hr, hd⟩
  have hphi : phiSet φ d G (fun p => match p with | [] => some ⟨some (w.heap.size, 0), cap⟩ | _ => none) d G [] = some ⟨some (w.heap.size, 0), cap⟩ := by simp [phiSet]
  have hold : ∀ {r g p}, r ≠ d → phiSet φ d G (fun p => match p with | [] => some ⟨some (w.heap.size, 0), cap⟩ | _ => none) r g p = φ r g p := by
    intro r g p hr
    unfold phiSet
    rw [if_neg (fun hh => hr hh.1)]
  refine ⟨⟨?_, ?_, ?_, ?_, ?_, ?_, ?_, h.os, h.tape, h.output⟩, hext⟩
  · intro r g p row' hr
    rcases hcase hr with ⟨rfl, rfl, rfl, rfl⟩ | ⟨hr, hd⟩
    · refine ⟨_, hphi, hwide, hlen, hflat, by simp, ?_, ?_, fun ha => by rw [hao] at ha; cases ha⟩
      · intro b q hb k hk
        simp only [Option.some.injEq, Prod.mk.injEq] at hb
        obtain ⟨rfl, rfl⟩ := hb
        have hk' : k < arr.size := Nat.lt_of_lt_of_le hk hsz
        rw [hnew, Nat.zero_add]
        exact ⟨by simp [hk'], hnewF k hk'⟩
      · intro b q hb i j c hcc
        simp only [Option.some.injEq, Prod.mk.injEq] at hb
        obtain ⟨rfl, rfl⟩ := hb
        obtain ⟨v, hv, hrel⟩ := hc i j c hcc
        rw [hnew, Nat.zero_add]
        exact ⟨v, hv, hrel.mono (fun _ _ _ h => h) hext⟩
    · obtain ⟨pl, h1, h2⟩ := h.rows r g p row' hr
      refine ⟨pl, by rw [hold hd]; exact h1, (h2.of_same fun b q had k => ⟨cell_alloc_old (hlt hr h1 had), frozen_alloc_old (hlt hr h1 had)⟩).mono (fun _ _ _ h => h) hext⟩
  · intro r g p row' r' g' p' row'' pl pl' b q q' h1 h2 h3 h4 h5 h6
    rcases hcase h1 with ⟨rfl, rfl, rfl, rfl⟩ | ⟨h1, hd⟩ <;> rcases hcase h2 with ⟨rfl, rfl, rfl, rfl⟩ | ⟨h2, hd'⟩
    · exact ⟨rfl, rfl⟩
    · rw [hphi] at h3
      cases h3
      cases h5
      rw [hold hd'] at h4
      exact absurd (hlt h2 h4 h6) (Nat.lt_irrefl _)
    · rw [hphi] at h4
      cases h4
      cases h6
      rw [hold hd] at h3
      exact absurd (hlt h1 h3 h5) (Nat.lt_irrefl _)
    · rw [hold hd] at h3
      rw [hold hd'] at h4
      exact h.sep _ _ _ _ _ _ _ _ _ _ _ _ _ h1 h2 h3 h4 h5 h6
  · intro b o v hv
    have := h.rdok b o v hv
    rw [cell_alloc_old (cell_lt (by rw [this]; rfl))]
    exact this
  · intro r g p row' pl b q h1 h2 h3 k hor
    rcases hcase h1 with ⟨rfl, rfl, rfl, rfl⟩ | ⟨h1, hd⟩
    · rw [hphi] at h2
      cases h2
      cases h3
      cases hk : rd w.heap.size k with
      | none => rfl
      | some v =>
        have := cell_lt (w := w) (b := w.heap.size) (k := k) (by rw [h.rdok _ _ _ hk]; rfl)
        exact absurd this (Nat.lt_irrefl _)
    · rw [hold hd] at h2
      exact h.rdsep _ _ _ _ _ _ _ h1 h2 h3 k hor
  · intro r g p row' pl b q h1 h2 h3
    rw [World.size_alloc]
    rcases hcase h1 with ⟨rfl, rfl, rfl, rfl⟩ | ⟨h1, hd⟩
    · rw [hphi] at h2
      cases h2
      cases h3
      exact ⟨.inr h.size, Nat.lt_succ_self _⟩
    · rw [hold hd] at h2
      obtain ⟨ha, hb⟩ := h.own _ _ _ _ _ _ _ h1 h2 h3
      exact ⟨ha, by omega⟩
  · intro b hb hO
    rw [Below.heap_alloc _ _ _ (Nat.lt_of_lt_of_le hb h.size)]
    exact h.frame b hb hO
  · rw [World.size_alloc]; exact Nat.le_succ_of_le h.size

/-- A ROW IS WRITTEN: cells of one element. -/
theorem HRel.store {rd : RD} {φ : Phi} {O : Nat → Prop} {w0 w : World} {σ : Sig} (h : HRel rd φ O w0 σ w) {r g : Nat} {p : List Nat} {f : Frag} {row : Row}
    (hl : lookA σ r = some (g, f)) (hf : f p = some row) {pl : Pl} {b q : Nat} (hφ : φ r g p = some pl) (had : pl.ad = some (b, q)) (hmu : row.ao = false) (row' : Row) (hmu' : row'.ao = false) (hs : row'.sz = row.sz)
    (hwide : ∀ e ∈ row'.es, e.length = row'.sz) (hlen : row'.es.length ≤ pl.cap) (hflat : ∀ e ∈ row'.es, KOK row'.fl e) (o : Nat) (vs : List Value)
    (hc : ∀ i j c, (row'.es[i]?).bind (·[j]?) = some c → (if o ≤ q + i * row.sz + j ∧ q + i * row.sz + j < o + vs.length then ∃ v, vs[q + i * row.sz + j - o]? = some v ∧ VRel rd φ c v else ∃ v, w.cell? (mkA b (q + i * row.sz + j)) = some v ∧ VRel rd φ c v)) :
    HRel rd φ O w0 (setA σ r (g, fset f p row')) (w.setCells b o vs) := by
  have hat : rowAt σ r g p = some row := by unfold rowAt; rw [hl]; simp [hf]
  obtain ⟨pl0, hp0, hok⟩ := h.rows r g p row hat
  rw [hφ] at hp0
  cases hp0
  have hcase : ∀ {r2 g2 p2 row2}, rowAt (setA σ r (g, fset f p row')) r2 g2 p2 = some row2 → (r = r2 ∧ g = g2 ∧ p = p2 ∧ row' = row2) ∨ (rowAt σ r2 g2 p2 = some row2 ∧ ¬ (r2 = r ∧ p2 = p)) := by
    intro r2 g2 p2 row2 hr
    rw [rowAt_setA] at hr
    by_cases hd : r2 = r
    · rw [if_pos hd] at hr
      by_cases hg : g = g2
      · rw [if_pos hg] at hr
        unfold fset at hr
        by_cases hp : p2 = p
        · rw [if_pos hp] at hr
          exact .inl ⟨hd.symm, hg, hp.symm, Option.some.inj hr⟩
        · rw [if_neg hp] at hr
          refine .inr ⟨?_, fun hh => hp hh.2⟩
          unfold rowAt
          rw [hd, hl]
          simp [hg, hr]
      · rw [if_neg hg] at hr; cases hr
    · rw [if_neg hd] at hr
      exact .inr ⟨hr, fun hh => hd hh.1⟩
  have hblock : ∀ {r2 g2 p2 row2 pl2 b2 q2}, rowAt σ r2 g2 p2 = some row2 → ¬ (r2 = r ∧ p2 = p) → φ r2 g2 p2 = some pl2 → pl2.ad = some (b2, q2) → b2 ≠ b := by
    intro r2 g2 p2 row2 pl2 b2 q2 h1 h2 h3 h4 e
    subst e
    exact h2 (h.sep _ _ _ _ _ _ _ _ _ _ _ _ _ h1 hat h3 hφ h4 had)
  refine ⟨?_, ?_, ?_, ?_, ?_, ?_, ?_, ?_, ?_, ?_⟩
  · intro r2 g2 p2 row2 hr
    rcases hcase hr with ⟨rfl, rfl, rfl, rfl⟩ | ⟨hr, hne⟩
    · refine ⟨pl, hφ, hwide, hlen, hflat, hok.nil, ?_, ?_, fun ha => by rw [hmu'] at ha; cases ha⟩
      · intro b2 q2 hb k hk
        rw [had] at hb
        simp only [Option.some.injEq, Prod.mk.injEq] at hb
        obtain ⟨rfl, rfl⟩ := hb
        rw [hs] at hk
        obtain ⟨h1, h2⟩ := hok.room _ _ had k hk
        rw [frozen_setCells]
        refine ⟨?_, h2⟩
        rw [cell_setCells]
        split
        · rename_i hh
          rw [List.getElem?_eq_getElem (by omega)]
          rfl
        · exact h1
      · intro b2 q2 hb i j c hcc
        rw [had] at hb
        simp only [Option.some.injEq, Prod.mk.injEq] at hb
        obtain ⟨rfl, rfl⟩ := hb
        rw [hs]
        have hz := hc i j c hcc
        rw [cell_setCells]
        by_cases hin : o ≤ q + i * row.sz + j ∧ q + i * row.sz + j < o + vs.length
        · rw [if_pos hin] at hz
          have hi : i < row'.es.length ∧ j < row'.sz := by
            cases he : row'.es[i]? with
            | none => simp [he] at hcc
            | some e =>
              have hi : i < row'.es.length := by
                rcases Nat.lt_or_ge i row'.es.length with hx | hx
                · exact hx
                · rw [List.getElem?_eq_none hx] at he; cases he
              refine ⟨hi, ?_⟩
              have := hwide e (List.mem_of_getElem? he)
              rw [← this]
              simp only [he, Option.bind_some] at hcc
              rcases Nat.lt_or_ge j e.length with hx | hx
              · exact hx
              · rw [List.getElem?_eq_none hx] at hcc; cases hcc
          have hk : i * row.sz + j < pl.cap * row.sz := by
            have h1 : (i + 1) * row.sz ≤ pl.cap * row.sz := Nat.mul_le_mul_right _ (by omega)
            have h2 : (i + 1) * row.sz = i * row.sz + row.sz := Nat.succ_mul _ _
            have h3 : j < row.sz := hs ▸ hi.2
            omega
          have h4 := (hok.room _ _ had _ hk).1
          rw [← Nat.add_assoc] at h4
          rw [if_pos ⟨rfl, hin.1, hin.2, h4⟩]
          exact hz
        · rw [if_neg hin] at hz
          rw [if_neg (fun hh => hin ⟨hh.2.1, hh.2.2.1⟩)]
          exact hz
    · obtain ⟨pl2, h1, h2⟩ := h.rows r2 g2 p2 row2 hr
      refine ⟨pl2, h1, h2.of_same fun b2 q2 had2 k => ?_⟩
      have hb := hblock hr hne h1 had2
      rw [cell_setCells, frozen_setCells, if_neg (fun hh => hb hh.1)]
      exact ⟨rfl, rfl⟩
  · intro r1 g1 p1 row1 r2 g2 p2 row2 pl1 pl2 b1 q1 q2 h1 h2 h3 h4 h5 h6
    have e1 : ∃ x, rowAt σ r1 g1 p1 = some x := by
      rcases hcase h1 with ⟨rfl, rfl, rfl, rfl⟩ | ⟨h1, _⟩
      · exact ⟨_, hat⟩
      · exact ⟨_, h1⟩
    have e2 : ∃ x, rowAt σ r2 g2 p2 = some x := by
      rcases hcase h2 with ⟨rfl, rfl, rfl, rfl⟩ | ⟨h2, _⟩
      · exact ⟨_, hat⟩
      · exact ⟨_, h2⟩
    obtain ⟨x1, e1⟩ := e1
    obtain ⟨x2, e2⟩ := e2
    exact h.sep _ _ _ _ _ _ _ _ _ _ _ _ _ e1 e2 h3 h4 h5 h6
  · intro b2 o2 v hv
    rw [cell_setCells, if_neg]
    · exact h.rdok _ _ _ hv
    · rintro ⟨rfl, _⟩
      have := h.rdsep _ _ _ _ _ _ _ hat hφ had o2 (.inl hmu)
      rw [this] at hv
      cases hv
  · intro r2 g2 p2 row2 pl2 b2 q2 h1 h2 h3 k hor
    rcases hcase h1 with ⟨rfl, rfl, rfl, rfl⟩ | ⟨h1, _⟩
    · exact h.rdsep _ _ _ _ _ _ _ hat h2 h3 k (.inl hmu)
    · exact h.rdsep _ _ _ _ _ _ _ h1 h2 h3 k hor
  · intro r2 g2 p2 row2 pl2 b2 q2 h1 h2 h3
    rw [size_setCells]
    rcases hcase h1 with ⟨rfl, rfl, rfl, rfl⟩ | ⟨h1, _⟩
    · exact h.own _ _ _ _ _ _ _ hat h2 h3
    · exact h.own _ _ _ _ _ _ _ h1 h2 h3
  · intro k hk hO
    rw [heap_setCells]
    · exact h.frame k hk hO
    · rintro rfl
      rcases (h.own _ _ _ _ _ _ _ hat hφ had).1 with hh | hh
      · exact hO hh
      · omega
  · rw [size_setCells]; exact h.size
  · rw [(rest_setCells b vs o w).1]; exact h.os
  · rw [(rest_setCells b vs o w).2.1]; exact h.tape
  · rw [(rest_setCells b vs o w).2.2]; exact h.output

/-- What a row looks like behind a change of what is known of it. -/
theorem rowAt_fset {σ : Sig} {r g : Nat} {p : List Nat} {f : Frag} {row' : Row} (hl : lookA σ r = some (g, f)) {r2 g2 : Nat} {p2 : List Nat} {row2 : Row}
    (hr : rowAt (setA σ r (g, fset f p row')) r2 g2 p2 = some row2) : (r = r2 ∧ g = g2 ∧ p = p2 ∧ row' = row2) ∨ (rowAt σ r2 g2 p2 = some row2 ∧ ¬ (r2 = r ∧ p2 = p)) := by
  rw [rowAt_setA] at hr
  by_cases hd : r2 = r
  · rw [if_pos hd] at hr
    by_cases hg : g = g2
    · rw [if_pos hg] at hr
      unfold fset at hr
      by_cases hp : p2 = p
      · rw [if_pos hp] at hr
        exact .inl ⟨hd.symm, hg, hp.symm, Option.some.inj hr⟩
      · rw [if_neg hp] at hr
        refine .inr ⟨?_, fun hh => hp hh.2⟩
        unfold rowAt
        rw [hd, hl]
        simp [hg, hr]
    · rw [if_neg hg] at hr; cases hr
  · rw [if_neg hd] at hr
    exact .inr ⟨hr, fun hh => hd hh.1⟩

/-- A ROW IS FROZEN: its cells stay as they are. -/
theorem HRel.freeze {rd : RD} {φ : Phi} {O : Nat → Prop} {w0 w : World} {σ : Sig} (h : HRel rd φ O w0 σ w) {r g : Nat} {p : List Nat} {f : Frag} {row : Row}
    (hl : lookA σ r = some (g, f)) (hf : f p = some row) (hfl : 1 ≤ row.fl) :
    ∃ rd', Ext O w0 rd rd' ∧ HRel rd' φ O w0 (setA σ r (g, fset f p ⟨row.sz, row.es, row.fl, true⟩)) w := by
  have hat : rowAt σ r g p = some row := by unfold rowAt; rw [hl]; simp [hf]
  obtain ⟨pl, hφ, hok⟩ := h.rows r g p row hat
  have hcase := fun {r2 g2 p2 row2} (hr : rowAt (setA σ r (g, fset f p ⟨row.sz, row.es, row.fl, true⟩)) r2 g2 p2 = some row2) => rowAt_fset hl hr
  have hsome : ∀ {r2 g2 p2 row2}, rowAt (setA σ r (g, fset f p ⟨row.sz, row.es, row.fl, true⟩)) r2 g2 p2 = some row2 → ∃ x, rowAt σ r2 g2 p2 = some x := by
    intro r2 g2 p2 row2 hr
    rcases hcase hr with ⟨rfl, rfl, rfl, rfl⟩ | ⟨h1, _⟩
    · exact ⟨_, hat⟩
    · exact ⟨_, h1⟩
  have sep' : ∀ r1 g1 p1 row1 r2 g2 p2 row2 pl1 pl2 b q1 q2, rowAt (setA σ r (g, fset f p ⟨row.sz, row.es, row.fl, true⟩)) r1 g1 p1 = some row1 →
      rowAt (setA σ r (g, fset f p ⟨row.sz, row.es, row.fl, true⟩)) r2 g2 p2 = some row2 → φ r1 g1 p1 = some pl1 → φ r2 g2 p2 = some pl2 → pl1.ad = some (b, q1) → pl2.ad = some (b, q2) → r1 = r2 ∧ p1 = p2 := by
    intro r1 g1 p1 row1 r2 g2 p2 row2 pl1 pl2 b q1 q2 h1 h2 h3 h4 h5 h6
    obtain ⟨x1, e1⟩ := hsome h1
    obtain ⟨x2, e2⟩ := hsome h2
    exact h.sep _ _ _ _ _ _ _ _ _ _ _ _ _ e1 e2 h3 h4 h5 h6
  have own' : ∀ r1 g1 p1 row1 pl1 b q1, rowAt (setA σ r (g, fset f p ⟨row.sz, row.es, row.fl, true⟩)) r1 g1 p1 = some row1 → φ r1 g1 p1 = some pl1 → pl1.ad = some (b, q1) → (O b ∨ w0.heap.size ≤ b) ∧ b < w.heap.size := by
    intro r1 g1 p1 row1 pl1 b q1 h1 h2 h3
    obtain ⟨x1, e1⟩ := hsome h1
    exact h.own _ _ _ _ _ _ _ e1 h2 h3
  cases had : pl.ad with
  | none =>
    refine ⟨rd, .refl, ?_, sep', h.rdok, ?_, own', h.frame, h.size, h.os, h.tape, h.output⟩
    · intro r2 g2 p2 row2 hr
      rcases hcase hr with ⟨rfl, rfl, rfl, rfl⟩ | ⟨hr, hne⟩
      · exact ⟨pl, hφ, hok.wide, hok.len, hok.kind, hok.nil, hok.room, hok.cells, fun _ => ⟨hfl, fun b q hb => by rw [had] at hb; cases hb⟩⟩
      · exact h.rows _ _ _ _ hr
    · intro r2 g2 p2 row2 pl2 b2 q2 h1 h2 h3 k hor
      rcases hcase h1 with ⟨rfl, rfl, rfl, rfl⟩ | ⟨h1, _⟩
      · rw [hφ] at h2; cases h2; rw [had] at h3; cases h3
      · exact h.rdsep _ _ _ _ _ _ _ h1 h2 h3 k hor
  | some bq =>
    obtain ⟨b, q⟩ := bq
    obtain ⟨hO, hlt⟩ := h.own _ _ _ _ _ _ _ hat hφ had
    have hgrow : ∀ b' k v, rd b' k = some v → (if b' = b ∧ q ≤ k ∧ k < q + row.es.length * row.sz then w.cell? (mkA b' k) else rd b' k) = some v := by
      intro b' k v hv
      split
      · exact h.rdok _ _ _ hv
      · exact hv
    refine ⟨fun b' k => if b' = b ∧ q ≤ k ∧ k < q + row.es.length * row.sz then w.cell? (mkA b' k) else rd b' k, ⟨hgrow, ?_⟩, ?_, sep', ?_, ?_, own', h.frame, h.size, h.os, h.tape, h.output⟩
    · intro b' o hb hOb
      refine if_neg ?_
      rintro ⟨rfl, _⟩
      rcases hO with hh | hh
      · exact hOb hh
      · omega
    · intro r2 g2 p2 row2 hr
      rcases hcase hr with ⟨rfl, rfl, rfl, rfl⟩ | ⟨hr, hne⟩
      · have hm := hok.mono (rd' := fun b' k => if b' = b ∧ q ≤ k ∧ k < q + row.es.length * row.sz then w.cell? (mkA b' k) else rd b' k) (φ' := φ) hgrow (fun _ _ _ _ h => h)
        refine ⟨pl, hφ, hm.wide, hm.len, hm.kind, hm.nil, hm.room, hm.cells, fun _ => ⟨hfl, fun b2 q2 hb k hk => ?_⟩⟩
        rw [had] at hb
        simp only [Option.some.injEq, Prod.mk.injEq] at hb
        obtain ⟨rfl, rfl⟩ := hb
        have hk : k < row.es.length * row.sz := hk
        exact if_pos ⟨rfl, by omega, by omega⟩
      · obtain ⟨pl2, e1, e2⟩ := h.rows _ _ _ _ hr
        exact ⟨pl2, e1, e2.mono hgrow (fun _ _ _ _ h => h)⟩
    · intro b' k v hv
      split at hv
      · exact hv
      · exact h.rdok _ _ _ hv
    · intro r2 g2 p2 row2 pl2 b2 q2 h1 h2 h3 k hor
      rcases hcase h1 with ⟨rfl, rfl, rfl, rfl⟩ | ⟨h1, hne⟩
      · rw [hφ] at h2
        cases h2
        rw [had] at h3
        simp only [Option.some.injEq, Prod.mk.injEq] at h3
        obtain ⟨rfl, rfl⟩ := h3
        simp only [false_or, Bool.true_eq_false] at hor
        exact (if_neg (by omega)).trans (h.rdsep _ _ _ _ _ _ _ hat hφ had k (.inr hor))
      · have hb : b2 ≠ b := by
          rintro rfl
          exact hne (h.sep _ _ _ _ _ _ _ _ _ _ _ _ _ h1 hat h2 hφ h3 had)
        exact (if_neg (fun hh => hb hh.1)).trans (h.rdsep _ _ _ _ _ _ _ h1 h2 h3 k hor)

end Go.Proofs.Ytkhemolkhegppaa.E
