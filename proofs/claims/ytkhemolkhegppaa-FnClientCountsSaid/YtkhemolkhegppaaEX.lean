/-
  E, part X: append, copy, slices that are built, structs that are built.
-/
import Derived.Test.YtkhemolkhegppaaEW
namespace Go.Proofs.Ytkhemolkhegppaa.E
open Go Go.RowKit
set_option linter.unusedVariables false

def fdel (f : Frag) (p : List Nat) : Frag := fun q => if q = p then none else f q
def delB (σ : Sig) (r : Nat) (p : List Nat) : Sig := match p with
  | [] => delA σ r
  | p => match lookA σ r with
    | some (g, f) => setA σ r (g, fdel f p)
    | none => σ
def baseOf (σ : Sig) (sz : Nat) : AV → Option (List (List AV) × Nat × Sig)
  | .nilS => some ([], 2, σ)
  | .blk r g p s off len => (rowAt σ r g p).bind fun row => match Nat.beq s sz, Nat.beq row.sz sz, row.ao with
    | true, true, false => ifLe (off + len) row.es.length (some (sub off len row.es, row.fl, delB σ r p))
    | _, _, _ => none
  | _ => none
def appR (d G esz eby : Nat) (olds : List (List AV)) (fl : Nat) (σ : Sig) (news : List (List AV)) (fn : Nat) : Option (AV × Sig) :=
  ifP ((olds ++ news).length ≤ maxLen ∧ (olds ++ news).length * eby ≤ 140737488355328)
    (some (.blk d G [] esz 0 (olds ++ news).length, setA σ d (G, one ⟨esz, olds ++ news, min fl fn, false⟩)))
def absAppend (P : Program) (d G : Nat) (σ : Sig) (t tx : Nat) (b x : AV) : Option (AV × Sig) :=
  (ti P t).bind fun i => (ti P i.el).bind fun e => e.zero.bind fun z => match i.k, Nat.beq z.length e.sz, Nat.ble 1 e.sz with
    | .slice, true, true => (srcOf P σ tx e.sz x).bind fun s => (baseOf σ e.sz b).bind fun o => appR d G e.sz e.bytes o.1 o.2.1 o.2.2 s.1 s.2
    | _, _, _ => none
def absCopy (P : Program) (σ : Sig) (t tx : Nat) (a x : AV) : Option (AV × Sig) :=
  (ti P t).bind fun i => (ti P i.el).bind fun e => match i.k, Nat.ble 1 e.sz, tk P tx with
    | .slice, true, some .slice => (srcOf P σ tx e.sz x).bind fun s => match a with
      | .blk r g p sz off len => (lookA σ r).bind fun gf => match Nat.beq gf.1 g with
        | true => (gf.2 p).bind fun row => match Nat.beq sz e.sz, Nat.beq row.sz e.sz, row.ao with
          | true, true, false => ifLe (off + len) row.es.length (some (.sc (.int .i64 (min s.1.length len : Nat)),
              setA σ r (g, fset gf.2 p ⟨row.sz, row.es.take off ++ (s.1.take len ++ (row.es.drop off).drop (min s.1.length len)), min row.fl s.2, false⟩)))
          | _, _, _ => none
        | false => none
      | _ => none
    | _, _, _ => none
def s2bR (P : Program) (d G : Nat) (σ : Sig) (t : Nat) (x : AV) : Option (AV × Sig) :=
  (ti P t).bind fun i => match tk P t, tk P i.el, x with
    | some .slice, some (.int .u8), .sc (.string s) => some (.blk d G [] 1 0 s.data.toList.length, setA σ d (G, one ⟨1, s.data.toList.map byteC, 2, false⟩))
    | _, _, _ => none
def absBuildOwn (P : Program) (d G : Nat) (σ : Sig) (t len : Nat) (parts : List (Nat × AV)) : Option (AV × Sig) :=
  (absBuildE P t len parts).bind fun x => some (.blk d G [] x.1 0 len, setA σ d (G, one ⟨x.1, x.2, flL x.2, false⟩))

section
variable {P : Program} {rd : RD} {φ : Phi} {O : Nat → Prop} {w0 w : World} {σ : Sig} {d G : Nat}

theorem HRel.less (h : HRel rd φ O w0 σ w) {σ' : Sig} (hs : ∀ r g p row, rowAt σ' r g p = some row → rowAt σ r g p = some row) : HRel rd φ O w0 σ' w :=
  ⟨fun r g p row hr => h.rows r g p row (hs _ _ _ _ hr), fun r g p row r' g' p' row' pl pl' b q q' h1 h2 => h.sep _ _ _ _ _ _ _ _ _ _ _ _ _ (hs _ _ _ _ h1) (hs _ _ _ _ h2), h.rdok,
   fun r g p row pl b q h1 => h.rdsep _ _ _ _ _ _ _ (hs _ _ _ _ h1), fun r g p row pl b q h1 => h.own _ _ _ _ _ _ _ (hs _ _ _ _ h1), h.frame, h.size, h.os, h.tape, h.output⟩
theorem rowAt_delB {r : Nat} {p : List Nat} {r2 g2 : Nat} {p2 : List Nat} {row : Row} (h : rowAt (delB σ r p) r2 g2 p2 = some row) : rowAt σ r2 g2 p2 = some row ∧ ¬ (r2 = r ∧ p2 = p) := by
  unfold delB at h
  split at h
  · unfold rowAt at h
    rw [lookA_delA] at h
    by_cases hr : r2 = r
    · rw [if_pos hr] at h; cases h
    · rw [if_neg hr] at h
      exact ⟨h, fun hh => hr hh.1⟩
  · rename_i hp
    split at h
    · rename_i g f hl
      rw [rowAt_setA] at h
      by_cases hr : r2 = r
      · rw [if_pos hr] at h
        split at h
        · rename_i hg
          unfold fdel at h
          split at h
          · cases h
          · rename_i hne
            refine ⟨?_, fun hh => hne hh.2⟩
            unfold rowAt
            rw [hr, hl]
            simp [hg, h]
        · cases h
      · rw [if_neg hr] at h
        exact ⟨h, fun hh => hr hh.1⟩
    · rename_i hl
      refine ⟨h, fun hh => ?_⟩
      unfold rowAt at h
      rw [hh.1, hl] at h
      cases h

/-- A part of a row, under a new name. -/
theorem HRel.moveRow (h : HRel rd φ O w0 σ w) (hfr : ∀ p, φ d G p = none) {r g : Nat} {p : List Nat} {row : Row} (hr : rowAt σ r g p = some row) (hao : row.ao = false) {pl : Pl} (hp : φ r g p = some pl) {off n : Nat} (hn : off + n ≤ row.es.length) (T : Sig) (hT : ∀ {r2 g2 p2 row2}, rowAt T r2 g2 p2 = some row2 → rowAt σ r2 g2 p2 = some row2 ∧ ¬ (r2 = r ∧ p2 = p)) :
    HRel rd (phiSet φ d G fun q => match q with | [] => some ⟨pl.ad.map fun x => (x.1, x.2 + off * row.sz), pl.cap - off⟩ | _ => none) O w0 (setA T d (G, one ⟨row.sz, sub off n row.es, row.fl, false⟩)) w ∧
    (∀ r g p pl', φ r g p = some pl' → phiSet φ d G (fun q => match q with | [] => some ⟨pl.ad.map fun x => (x.1, x.2 + off * row.sz), pl.cap - off⟩ | _ => none) r g p = some pl') := by
  have hext : ∀ r g p pl', φ r g p = some pl' → phiSet φ d G (fun q => match q with | [] => some (⟨pl.ad.map fun x => (x.1, x.2 + off * row.sz), pl.cap - off⟩ : Pl) | _ => none) r g p = some pl' := by
    intro r g p pl' hp
    unfold phiSet
    rw [if_neg (by rintro ⟨rfl, rfl⟩; rw [hfr] at hp; cases hp)]
    exact hp
  generalize hφ' : (phiSet φ d G fun q => match q with | [] => some (⟨pl.ad.map fun x => (x.1, x.2 + off * row.sz), pl.cap - off⟩ : Pl) | _ => none) = φ' at hext ⊢
  have hnew : φ' d G [] = some ⟨pl.ad.map fun x => (x.1, x.2 + off * row.sz), pl.cap - off⟩ := by rw [← hφ']; simp [phiSet]
  obtain ⟨pl0, hp0, hok⟩ := h.rows _ _ _ _ hr
  rw [hp] at hp0
  cases hp0
  have hcase : ∀ {r2 g2 p2 row2}, rowAt (setA T d (G, one ⟨row.sz, sub off n row.es, row.fl, false⟩)) r2 g2 p2 = some row2 → (d = r2 ∧ G = g2 ∧ [] = p2 ∧ ⟨row.sz, sub off n row.es, row.fl, false⟩ = row2) ∨ (rowAt σ r2 g2 p2 = some row2 ∧ ¬ (r2 = r ∧ p2 = p) ∧ φ' r2 g2 p2 = φ r2 g2 p2) := by
    intro r2 g2 p2 row2 h2
    rw [rowAt_setA] at h2
    by_cases hd : r2 = d
    · rw [if_pos hd] at h2
      by_cases hg : G = g2
      · rw [if_pos hg] at h2
        obtain ⟨e1, e2⟩ := one_some h2
        exact .inl ⟨hd.symm, hg, e1.symm, e2.symm⟩
      · rw [if_neg hg] at h2; cases h2
    · rw [if_neg hd] at h2
      obtain ⟨e1, e2⟩ := hT h2
      refine .inr ⟨e1, e2, ?_⟩
      obtain ⟨pl2, e3, _⟩ := h.rows _ _ _ _ e1
      rw [hext _ _ _ _ e3, e3]
  refine ⟨⟨?_, ?_, h.rdok, ?_, ?_, h.frame, h.size, h.os, h.tape, h.output⟩, hext⟩
  · intro r2 g2 p2 row2 h2
    rcases hcase h2 with ⟨rfl, rfl, rfl, rfl⟩ | ⟨e1, e2, e3⟩
    · refine ⟨_, hnew, fun e he => hok.wide e (List.mem_of_mem_drop (List.mem_of_mem_take he)), by simp [sub]; have := hok.len; omega, fun e he => hok.kind e (List.mem_of_mem_drop (List.mem_of_mem_take he)), fun ha => ?_, ?_, ?_, fun ha => by cases ha⟩
      · cases hq : pl.ad with
        | none => have := hok.nil hq; simp; omega
        | some x => rw [hq] at ha; cases ha
      · intro b q hb k hk
        cases hq : pl.ad with
        | none => rw [hq] at hb; cases hb
        | some x =>
          rw [hq] at hb
          simp only [Option.map_some, Option.some.injEq, Prod.mk.injEq] at hb
          obtain ⟨rfl, rfl⟩ := hb
          have := hok.room x.1 x.2 hq (off * row.sz + k) (by
            have hk' : k < (pl.cap - off) * row.sz := hk
            rw [Nat.sub_mul] at hk'
            omega)
          rwa [Nat.add_assoc]
      · intro b q hb i j c hc
        cases hq : pl.ad with
        | none => rw [hq] at hb; cases hb
        | some x =>
          rw [hq] at hb
          simp only [Option.map_some, Option.some.injEq, Prod.mk.injEq] at hb
          obtain ⟨rfl, rfl⟩ := hb
          have hc' : (row.es[off + i]?).bind (·[j]?) = some c := by
            simp only [sub, List.getElem?_take] at hc
            split at hc
            · rwa [List.getElem?_drop] at hc
            · cases hc
          obtain ⟨v, hv, hrel⟩ := hok.cells x.1 x.2 hq _ _ _ hc'
          refine ⟨v, ?_, hrel.mono (fun _ _ _ h => h) hext⟩
          rw [← hv]
          congr 2
          show x.2 + off * row.sz + i * row.sz + j = x.2 + (off + i) * row.sz + j
          rw [Nat.add_mul]; omega
    · obtain ⟨pl2, e4, e5⟩ := h.rows _ _ _ _ e1
      exact ⟨pl2, hext _ _ _ _ e4, e5.mono (fun _ _ _ h => h) hext⟩
  · intro r1 g1 p1 row1 r2 g2 p2 row2 pl1 pl2 b q1 q2 h1 h2 h3 h4 h5 h6
    have aux : ∀ {pl2 q q2}, (pl.ad.map fun x => (x.1, x.2 + off * row.sz)) = some (b, q) → rowAt σ r2 g2 p2 = some row2 → φ r2 g2 p2 = some pl2 → pl2.ad = some (b, q2) → r2 = r ∧ p2 = p := by
      intro pl2 q q2 e1 e2 e3 e4
      cases hq : pl.ad with
      | none => rw [hq] at e1; cases e1
      | some x =>
        rw [hq] at e1
        simp only [Option.map_some, Option.some.injEq, Prod.mk.injEq] at e1
        exact h.sep _ _ _ _ _ _ _ _ _ _ b q2 x.2 e2 hr e3 hp e4 (by rw [hq, ← e1.1])
    have aux1 : ∀ {pl2 q q2}, (pl.ad.map fun x => (x.1, x.2 + off * row.sz)) = some (b, q) → rowAt σ r1 g1 p1 = some row1 → φ r1 g1 p1 = some pl2 → pl2.ad = some (b, q2) → r1 = r ∧ p1 = p := by
      intro pl2 q q2 e1 e2 e3 e4
      cases hq : pl.ad with
      | none => rw [hq] at e1; cases e1
      | some x =>
        rw [hq] at e1
        simp only [Option.map_some, Option.some.injEq, Prod.mk.injEq] at e1
        exact h.sep _ _ _ _ _ _ _ _ _ _ b q2 x.2 e2 hr e3 hp e4 (by rw [hq, ← e1.1])
    rcases hcase h1 with ⟨a1, a2, a3, a4⟩ | ⟨a1, a2, a3⟩ <;> rcases hcase h2 with ⟨b1, b2, b3, b4⟩ | ⟨b1, b2, b3⟩
    · exact ⟨a1.symm.trans b1, a3.symm.trans b3⟩
    · subst a1; subst a2; subst a3
      rw [hnew] at h3
      cases h3
      rw [b3] at h4
      exact absurd (aux h5 b1 h4 h6) b2
    · subst b1; subst b2; subst b3
      rw [hnew] at h4
      cases h4
      rw [a3] at h3
      exact absurd (aux1 h6 a1 h3 h5) a2
    · rw [a3] at h3
      rw [b3] at h4
      exact h.sep _ _ _ _ _ _ _ _ _ _ _ _ _ a1 b1 h3 h4 h5 h6
  · intro r2 g2 p2 row2 pl2 b q h1 h2 h3 k hor
    rcases hcase h1 with ⟨rfl, rfl, rfl, rfl⟩ | ⟨e1, e2, e3⟩
    · rw [hnew] at h2
      cases h2
      cases hq : pl.ad with
      | none => rw [hq] at h3; cases h3
      | some x =>
        rw [hq] at h3
        simp only [Option.map_some, Option.some.injEq, Prod.mk.injEq] at h3
        obtain ⟨rfl, rfl⟩ := h3
        exact h.rdsep _ _ _ _ _ _ _ hr hp hq k (.inl hao)
    · rw [e3] at h2
      exact h.rdsep _ _ _ _ _ _ _ e1 h2 h3 k hor
  · intro r2 g2 p2 row2 pl2 b q h1 h2 h3
    rcases hcase h1 with ⟨rfl, rfl, rfl, rfl⟩ | ⟨e1, e2, e3⟩
    · rw [hnew] at h2
      cases h2
      cases hq : pl.ad with
      | none => rw [hq] at h3; cases h3
      | some x =>
        rw [hq] at h3
        simp only [Option.map_some, Option.some.injEq, Prod.mk.injEq] at h3
        obtain ⟨rfl, rfl⟩ := h3
        exact h.own _ _ _ _ _ _ _ hr hp hq
    · rw [e3] at h2
      exact h.own _ _ _ _ _ _ _ e1 h2 h3

/-- The nil slice, as a row of its own without room. -/
theorem HRel.newNil (h : HRel rd φ O w0 σ w) (hfr : ∀ p, φ d G p = none) (sz fl : Nat) :
    HRel rd (phiSet φ d G fun q => match q with | [] => some ⟨none, 0⟩ | _ => none) O w0 (setA σ d (G, one ⟨sz, [], fl, false⟩)) w ∧
    (∀ r g p pl', φ r g p = some pl' → phiSet φ d G (fun q => match q with | [] => some ⟨none, 0⟩ | _ => none) r g p = some pl') := by
  have hext : ∀ r g p pl', φ r g p = some pl' → phiSet φ d G (fun q => match q with | [] => some (⟨none, 0⟩ : Pl) | _ => none) r g p = some pl' := by
    intro r g p pl' hp
    unfold phiSet
    rw [if_neg (by rintro ⟨rfl, rfl⟩; rw [hfr] at hp; cases hp)]
    exact hp
  generalize hφ' : (phiSet φ d G fun q => match q with | [] => some (⟨none, 0⟩ : Pl) | _ => none) = φ' at hext ⊢
  have hnew : φ' d G [] = some ⟨none, 0⟩ := by rw [← hφ']; simp [phiSet]
  have hcase : ∀ {r2 g2 p2 row2}, rowAt (setA σ d (G, one ⟨sz, [], fl, false⟩)) r2 g2 p2 = some row2 → (d = r2 ∧ G = g2 ∧ [] = p2 ∧ ⟨sz, [], fl, false⟩ = row2) ∨ (rowAt σ r2 g2 p2 = some row2 ∧ φ' r2 g2 p2 = φ r2 g2 p2) := by
    intro r2 g2 p2 row2 h2
    rw [rowAt_setA] at h2
    by_cases hd : r2 = d
    · rw [if_pos hd] at h2
      by_cases hg : G = g2
      · rw [if_pos hg] at h2
        obtain ⟨e1, e2⟩ := one_some h2
        exact .inl ⟨hd.symm, hg, e1.symm, e2.symm⟩
      · rw [if_neg hg] at h2; cases h2
    · rw [if_neg hd] at h2
      refine .inr ⟨h2, ?_⟩
      obtain ⟨pl2, e3, _⟩ := h.rows _ _ _ _ h2
      rw [hext _ _ _ _ e3, e3]
  refine ⟨⟨?_, ?_, h.rdok, ?_, ?_, h.frame, h.size, h.os, h.tape, h.output⟩, hext⟩
  · intro r2 g2 p2 row2 h2
    rcases hcase h2 with ⟨rfl, rfl, rfl, rfl⟩ | ⟨e1, e2⟩
    · exact ⟨_, hnew, by simp, by simp, by simp, fun _ => rfl, by simp, by simp, fun ha => by cases ha⟩
    · obtain ⟨pl2, e4, e5⟩ := h.rows _ _ _ _ e1
      exact ⟨pl2, hext _ _ _ _ e4, e5.mono (fun _ _ _ h => h) hext⟩
  · intro r1 g1 p1 row1 r2 g2 p2 row2 pl1 pl2 b q1 q2 h1 h2 h3 h4 h5 h6
    rcases hcase h1 with ⟨a1, a2, a3, a4⟩ | ⟨a1, a3⟩ <;> rcases hcase h2 with ⟨b1, b2, b3, b4⟩ | ⟨b1, b3⟩
    · exact ⟨a1.symm.trans b1, a3.symm.trans b3⟩
    · subst a1; subst a2; subst a3
      rw [hnew] at h3
      cases h3
      cases h5
    · subst b1; subst b2; subst b3
      rw [hnew] at h4
      cases h4
      cases h6
    · rw [a3] at h3
      rw [b3] at h4
      exact h.sep _ _ _ _ _ _ _ _ _ _ _ _ _ a1 b1 h3 h4 h5 h6
  · intro r2 g2 p2 row2 pl2 b q h1 h2 h3 k hor
    rcases hcase h1 with ⟨rfl, rfl, rfl, rfl⟩ | ⟨e1, e3⟩
    · rw [hnew] at h2
      cases h2
      cases h3
    · rw [e3] at h2
      exact h.rdsep _ _ _ _ _ _ _ e1 h2 h3 k hor
  · intro r2 g2 p2 row2 pl2 b q h1 h2 h3
    rcases hcase h1 with ⟨rfl, rfl, rfl, rfl⟩ | ⟨e1, e3⟩
    · rw [hnew] at h2
      cases h2
      cases h3
    · rw [e3] at h2
      exact h.own _ _ _ _ _ _ _ e1 h2 h3

--X2
theorem setA_setA {α : Type} (l : List (Nat × α)) (n : Nat) (x y : α) : setA (setA l n x) n y = setA l n y := by
  induction l with
  | nil => simp [setA]
  | cons z l ih =>
    obtain ⟨k, v⟩ := z
    simp only [setA]
    cases h : k == n with
    | true => simp [setA, h]
    | false => simp [setA, h, ih]
theorem lookA_self {α : Type} (l : List (Nat × α)) (n : Nat) (x : α) : lookA (setA l n x) n = some x := by rw [lookA_setA, if_pos rfl]

theorem HRel.lowFl {T : Sig} {row : Row} {fl' : Nat} (h : HRel rd φ O w0 (setA T d (G, one row)) w) (hle : fl' ≤ row.fl) (hao : row.ao = false) : HRel rd φ O w0 (setA T d (G, one ⟨row.sz, row.es, fl', row.ao⟩)) w := by
  have hcase : ∀ {r g p row2}, rowAt (setA T d (G, one ⟨row.sz, row.es, fl', row.ao⟩)) r g p = some row2 → ∃ row1, rowAt (setA T d (G, one row)) r g p = some row1 ∧ row2.sz = row1.sz ∧ row2.es = row1.es ∧ row2.ao = row1.ao ∧ row2.fl ≤ row1.fl ∧ (row2.ao = true → row2.fl = row1.fl) := by
    intro r g p row2 hr
    rw [rowAt_setA] at hr ⊢
    by_cases hd : r = d
    · rw [if_pos hd] at hr ⊢
      by_cases hg : G = g
      · rw [if_pos hg] at hr ⊢
        obtain ⟨rfl, rfl⟩ := one_some hr
        exact ⟨row, rfl, rfl, rfl, rfl, hle, fun ha => by rw [hao] at ha; cases ha⟩
      · rw [if_neg hg] at hr; cases hr
    · rw [if_neg hd] at hr ⊢
      exact ⟨row2, hr, rfl, rfl, rfl, Nat.le_refl _, fun _ => rfl⟩
  refine ⟨?_, ?_, h.rdok, ?_, ?_, h.frame, h.size, h.os, h.tape, h.output⟩
  · intro r g p row2 hr
    obtain ⟨row1, h1, e1, e2, e3, e4, e5⟩ := hcase hr
    obtain ⟨pl, hp, hok⟩ := h.rows _ _ _ _ h1
    refine ⟨pl, hp, by rw [e1, e2]; exact hok.wide, by rw [e2]; exact hok.len, fun x hx => (hok.kind x (by rwa [← e2])).le e4, hok.nil, by rw [e1]; exact hok.room, by rw [e1, e2]; exact hok.cells, fun ha => ?_⟩
    rw [e5 ha, e1, e2]
    exact hok.frz (by rw [← e3]; exact ha)
  · intro r g p row r' g' p' row' pl pl' b q q' h1 h2 h3 h4 h5 h6
    obtain ⟨x1, k1, _⟩ := hcase h1
    obtain ⟨x2, k2, _⟩ := hcase h2
    exact h.sep _ _ _ _ _ _ _ _ _ _ _ _ _ k1 k2 h3 h4 h5 h6
  · intro r g p row pl b q h1 h2 h3 k hor
    obtain ⟨x1, k1, e1, e2, e3, _⟩ := hcase h1
    rw [e1, e2, e3] at hor
    exact h.rdsep _ _ _ _ _ _ _ k1 h2 h3 k hor
  · intro r g p row pl b q h1 h2 h3
    obtain ⟨x1, k1, _⟩ := hcase h1
    exact h.own _ _ _ _ _ _ _ k1 h2 h3
theorem append_sound (h : HRel rd φ O w0 σ w) (hfr : ∀ p, φ d G p = none) {t tx ty : Nat} {b x v : AV} {cb cx : Value} (hb : VRel rd φ b cb) (hx : VRel rd φ x cx) {σ' : Sig} (ha : absAppend P d G σ t tx b x = some (v, σ')) :
    After rd φ O w0 d G σ' v ((Builtin.append_ #[t, tx] ty #[cb, cx]).run P w) := by
  unfold absAppend at ha
  obtain ⟨i, hi, ha1⟩ := Option.bind_eq_some_iff.1 ha
  obtain ⟨e, he, ha2⟩ := Option.bind_eq_some_iff.1 ha1
  obtain ⟨z, hz, ha3⟩ := Option.bind_eq_some_iff.1 ha2
  clear ha ha1 ha2
  split at ha3
  · rename_i hk hzl hpos
    have hzl := Nat.eq_of_beq_eq_true hzl
    have hpos := Nat.le_of_ble_eq_true hpos
    obtain ⟨⟨es, fn⟩, hs, ha4⟩ := Option.bind_eq_some_iff.1 ha3
    obtain ⟨⟨olds, fl, T⟩, hbase, ha5⟩ := Option.bind_eq_some_iff.1 ha4
    clear ha3 ha4
    unfold appR at ha5
    obtain ⟨⟨hm1, hm2⟩, ha6⟩ := ifP_some ha5
    clear ha5
    simp only at hm1 hm2 ha6
    cases ha6
    have hu := ti_el_slice hi hk
    obtain ⟨inf, dsc, e1, e2, e3, e4, e5, e6, -⟩ := ti_some he
    rw [e6] at hz
    obtain ⟨zv, hzv, hzz⟩ := Option.map_eq_some_iff.1 hz
    have hzs : zv.cells.size = e.sz := by rw [← hzl, ← hzz]; simp
    obtain ⟨news, s1, s2, s3, s4, s5⟩ := srcOf_sound h hx hs
    simp only at s1 s2 s3 s4
    clear s5
    rw [e3] at s1
    have hnl : news.length = es.length * e.sz := by rw [s1.newsLen, e3]
    have hlen : (olds ++ es).length = olds.length + es.length := by simp
    have hfit : ∀ old, old < olds.length + es.length → Builtin.nextslicecap (olds.length + es.length) old * inf.bytes ≤ 281474976710656 := fun old ho => growslice_fits ho (by rw [← e4, ← hlen]; exact hm2)
    have h63 : ((olds.length + es.length : Nat) : Int) ≤ 9223372036854775807 := by rw [hlen] at hm1; simp only [maxLen] at hm1; omega
    have keep : ∀ {a : List (List AV)}, (∀ x ∈ a, KOK fl x) → ∀ x ∈ a ++ es, KOK (min fl fn) x := fun ha x hx => (List.mem_append.1 hx).elim (fun hx => (ha x hx).le (Nat.min_le_left _ _)) (fun hx => (s4 x hx).le (Nat.min_le_right _ _))
    -- a new row
    have grow : ∀ {T : Sig}, (∀ r g p row, rowAt T r g p = some row → rowAt σ r g p = some row) → ∀ (base : Option Addr) (cap : Nat) (vo : List Value), cap < olds.length + es.length →
        (Builtin.firstCells inf.size olds.length (.slice base olds.length cap)).run P w.drew = .ok vo.toArray w.drew → vo.length = olds.length * e.sz → (∀ x ∈ olds, x.length = e.sz) → (∀ x ∈ olds, KOK fl x) →
        (∀ i j c, (olds[i]?).bind (·[j]?) = some c → ∃ v, vo[i * e.sz + j]? = some v ∧ VRel rd φ c v) →
        After rd φ O w0 d G (setA T d (G, one ⟨e.sz, olds ++ es, min fl fn, false⟩)) (.blk d G [] e.sz 0 (olds ++ es).length) ((Builtin.append_ #[t, tx] ty #[.slice base olds.length cap, cx]).run P w) := by
      intro T hT base cap vo hcap hvo hvl hw hko hrel
      have hrun := run_append_grow_src (P := P) w t tx ty i.el inf zv hu e1 hzv base olds.length cap vo hvo cx es.length news s1 hcap h63 (hfit cap hcap)
      have hge := grownCap_ge w (olds.length + es.length) cap i.el
      have hwide : ∀ x ∈ olds ++ es, x.length = e.sz := fun x hx => (List.mem_append.1 hx).elim (hw x) (s3 x)
      have hn := ((h.less hT).drew).newRow hfr ⟨e.sz, olds ++ es, min fl fn, false⟩ rfl (grownCap w (olds.length + es.length) cap i.el)
        ((vo ++ news).toArray ++ Builtin.zeroCells zv.cells (grownCap w (olds.length + es.length) cap i.el - (olds.length + es.length))) i.el (0, 0) (.inr (Nat.le_refl _)) hwide (by simpa using hge)
        (by
          simp only [Array.size_append, List.size_toArray, List.length_append, hvl, hnl, size_zeroCells, hzs, ← Nat.add_mul]
          refine Nat.mul_le_mul_right _ ?_
          omega)
        (keep hko)
        (fun a b c hc => by
          have hlt : a * e.sz + b < (vo ++ news).length ∧ ∃ v, (vo ++ news)[a * e.sz + b]? = some v ∧ VRel rd φ c v := by
            rw [List.getElem?_append] at hc
            split at hc
            · rename_i hlt
              obtain ⟨v, hv, hr⟩ := hrel a b c hc
              have hl : a * e.sz + b < vo.length := by
                rcases Nat.lt_or_ge (a * e.sz + b) vo.length with hx | hx
                · exact hx
                · rw [List.getElem?_eq_none hx] at hv; cases hv
              exact ⟨by simp; omega, v, by rw [List.getElem?_append_left hl]; exact hv, hr⟩
            · rename_i hge'
              obtain ⟨v, hv, hr⟩ := s2 (a - olds.length) b c hc
              have hl : (a - olds.length) * e.sz + b < news.length := by
                rcases Nat.lt_or_ge ((a - olds.length) * e.sz + b) news.length with hx | hx
                · exact hx
                · rw [List.getElem?_eq_none hx] at hv; cases hv
              have e0 : a * e.sz + b = vo.length + ((a - olds.length) * e.sz + b) := by
                rw [hvl, ← Nat.add_assoc, ← Nat.add_mul]
                congr 2
                omega
              refine ⟨by rw [e0]; simp; omega, v, ?_, hr⟩
              rw [e0, List.getElem?_append_right (by omega), Nat.add_sub_cancel_left]
              exact hv
          obtain ⟨hlt, v, hv, hr⟩ := hlt
          refine ⟨v, ?_, hr⟩
          rw [Array.getElem?_append_left (by simpa using hlt)]
          simpa using hv)
      rw [hrun]
      refine ⟨_, _, _, rfl, hn.1, ?_, hn.2, fun r g p hh => phiSet_new r g p hh⟩
      have := VRel.blk (rd := rd) (φ := phiSet φ d G fun p => match p with | [] => some ⟨some (w.heap.size, 0), grownCap w (olds.length + es.length) cap i.el⟩ | _ => none) d G [] e.sz 0 (olds ++ es).length ⟨some (w.heap.size, 0), grownCap w (olds.length + es.length) cap i.el⟩ (some (mkA w.heap.size 0)) (by simp [phiSet]) (.inr (by simp)) (by simpa using hge)
      rw [hlen] at this ⊢
      exact this
    unfold baseOf at hbase
    split at hbase
    · cases hbase
      cases hb
      simp only [List.nil_append, List.length_nil, Nat.zero_add] at *
      by_cases hz0 : es.length = 0
      · have hes : es = [] := List.eq_nil_of_length_eq_zero hz0
        subst hes
        have hnews : news = [] := List.eq_nil_of_length_eq_zero (by simpa using hnl)
        subst hnews
        have hrun : (Builtin.append_ #[t, tx] ty #[.slice none 0 0, cx]).run P w = .ok (.slice none 0 0) w := by
          have hl := s1.len
          have hc := s1.cells
          simp only [List.length_nil] at hl hc
          rcases s1.kind with ⟨e', hk'⟩ | hk' <;> simp [Builtin.append_, run_underlying hu, run_underlying hk', sizeOf, typeInfo, e1, hl, hc]
        rw [hrun]
        have hn := h.newNil hfr e.sz (min 2 fn)
        refine ⟨_, _, _, rfl, hn.1, ?_, hn.2, fun r g p hh => phiSet_new r g p hh⟩
        exact .blk d G [] e.sz 0 0 ⟨none, 0⟩ none (by simp [phiSet]) (.inl rfl) (Nat.zero_le _)
      · exact grow (fun _ _ _ _ h => h) none 0 [] (by omega) (by simp [Builtin.firstCells]) (by simp) (by simp) (by simp) (by simp)
    · rename_i r g p s0 off len
      obtain ⟨row, hrow, hb1⟩ := Option.bind_eq_some_iff.1 hbase
      clear hbase
      split at hb1
      · rename_i q1 q2 q3
        have q1 := Nat.eq_of_beq_eq_true q1
        have q2 := Nat.eq_of_beq_eq_true q2
        subst q1
        unfold ifLe at hb1
        split at hb1
        · rename_i hle
          have hle := Nat.le_of_ble_eq_true hle
          simp only [Option.some.injEq, Prod.mk.injEq] at hb1
          obtain ⟨rfl, rfl, rfl⟩ := hb1
          obtain ⟨pl, hp, hok⟩ := h.rows _ _ _ _ hrow
          have hll : (sub off len row.es).length = len := by simp [sub]; omega
          have hmem : ∀ x ∈ sub off len row.es, x ∈ row.es := fun x hx => List.mem_of_mem_drop (List.mem_of_mem_take hx)
          have hw : ∀ x ∈ sub off len row.es, x.length = e.sz := fun x hx => by rw [hok.wide x (hmem x hx), q2]
          have hko : ∀ x ∈ sub off len row.es, KOK row.fl x := fun x hx => hok.kind x (hmem x hx)
          have hsubc : ∀ {i j : Nat} {c : AV}, ((sub off len row.es)[i]?).bind (·[j]?) = some c → (row.es[off + i]?).bind (·[j]?) = some c := by
            intro i j c hc
            simp only [sub, List.getElem?_take] at hc
            split at hc
            · rwa [List.getElem?_drop] at hc
            · cases hc
          cases hb with
          | blk _ _ _ _ _ _ pl' A hφ hA hl =>
            rw [hφ] at hp
            cases hp
            by_cases hroom : len + es.length ≤ pl.cap - off
            · -- in place
              obtain ⟨m1, m2⟩ := h.moveRow hfr hrow q3 hφ (off := off) (n := len) hle (delB σ r p) (fun hh => rowAt_delB hh)
              rw [q2] at m1 m2
              generalize hφ' : (phiSet φ d G fun q => match q with | [] => some (⟨pl.ad.map fun x => (x.1, x.2 + off * e.sz), pl.cap - off⟩ : Pl) | _ => none) = φ' at m1 m2
              have hnew : φ' d G [] = some ⟨pl.ad.map fun x => (x.1, x.2 + off * e.sz), pl.cap - off⟩ := by rw [← hφ']; simp [phiSet]
              have hfresh : ∀ r g p, φ' r g p ≠ none → φ r g p ≠ none ∨ (r = d ∧ g = G) := fun r g p hh => phiSet_new (ψ := fun q => match q with | [] => some (⟨pl.ad.map fun x => (x.1, x.2 + off * e.sz), pl.cap - off⟩ : Pl) | _ => none) r g p (by rw [hφ']; exact hh)
              by_cases hz0 : es.length = 0
              · have hes : es = [] := List.eq_nil_of_length_eq_zero hz0
                subst hes
                have hnews : news = [] := List.eq_nil_of_length_eq_zero (by simpa using hnl)
                subst hnews
                have hrun : (Builtin.append_ #[t, tx] ty #[.slice A len (pl.cap - off), cx]).run P w = .ok (.slice A len (pl.cap - off)) w := by
                  have hl' := s1.len
                  have hc := s1.cells
                  simp only [List.length_nil] at hl' hc
                  have hroom' : len ≤ pl.cap - off := hl
                  rcases s1.kind with ⟨e', hk'⟩ | hk' <;> cases A <;> simp [Builtin.append_, run_underlying hu, run_underlying hk', sizeOf, typeInfo, e1, hl', hc, hroom', storeCells]
                rw [hrun]
                simp only [List.append_nil, hll]
                refine ⟨_, _, φ', rfl, m1.lowFl (Nat.min_le_left _ _) rfl, ?_, m2, hfresh⟩
                · have := VRel.blk (rd := rd) (φ := φ') d G [] e.sz 0 len ⟨pl.ad.map fun x => (x.1, x.2 + off * e.sz), pl.cap - off⟩ A hnew (by
                    rcases hA with hA | hA
                    · left; simpa using hA
                    · right; rw [hA]; cases pl.ad <;> simp) (by simpa using hl)
                  simpa using this
              · have hcap : pl.cap - off ≠ 0 := by omega
                rcases hA with hA | hA
                · exact absurd hA hcap
                · cases had : pl.ad with
                  | none => exact absurd (hok.nil had) (by omega)
                  | some bq =>
                    obtain ⟨b0, q0⟩ := bq
                    rw [had] at hA hnew
                    simp only [Option.map_some] at hA hnew
                    subst hA
                    have hidx : ∀ j, j < news.length → off * e.sz + (len * e.sz + j) < pl.cap * e.sz := by
                      intro j hj
                      rw [hnl] at hj
                      have : (off + len + es.length) * e.sz ≤ pl.cap * e.sz := Nat.mul_le_mul_right _ (by omega)
                      rw [Nat.add_mul, Nat.add_mul] at this
                      omega
                    have hroomc := fun j (hj : j < news.length) => hok.room b0 q0 had (off * e.sz + (len * e.sz + j)) (by rw [q2]; exact hidx j hj)
                    have hrun := run_append_room_src (P := P) w t tx ty i.el inf hu e1 b0 (q0 + off * e.sz) len (pl.cap - off) cx es.length news s1 hroom
                      (fun j hj => by rw [← e3, show q0 + off * e.sz + len * e.sz + j = q0 + (off * e.sz + (len * e.sz + j)) by omega]; exact (hroomc j hj).1)
                      (fun j hj => by rw [← e3, show q0 + off * e.sz + len * e.sz + j = q0 + (off * e.sz + (len * e.sz + j)) by omega]; exact (hroomc j hj).2)
                    rw [← e3] at hrun
                    have hst := m1.store (r := d) (g := G) (p := []) (f := one ⟨e.sz, sub off len row.es, row.fl, false⟩) (row := ⟨e.sz, sub off len row.es, row.fl, false⟩) (lookA_self _ _ _) rfl hnew rfl rfl ⟨e.sz, sub off len row.es ++ es, min row.fl fn, false⟩ rfl rfl
                      (fun x hx => (List.mem_append.1 hx).elim (hw x) (s3 x)) (by simp only [List.length_append, hll]; exact hroom) (keep hko) (q0 + off * e.sz + len * e.sz) news
                      (fun a b c hc => by
                        rw [List.getElem?_append] at hc
                        split at hc
                        · rename_i hlt
                          rw [hll] at hlt
                          have hb : b < e.sz := by
                            cases hh : (sub off len row.es)[a]? with
                            | none => rw [hh] at hc; cases hc
                            | some x =>
                              rw [hh] at hc
                              rw [← hw x (List.mem_of_getElem? hh)]
                              rcases Nat.lt_or_ge b x.length with hx | hx
                              · exact hx
                              · rw [Option.bind_some, List.getElem?_eq_none hx] at hc; cases hc
                          have hm := Nat.mul_le_mul_right e.sz (show a + 1 ≤ len from hlt)
                          rw [Nat.succ_mul] at hm
                          rw [if_neg (by simp only; omega)]
                          obtain ⟨v, hv, hr⟩ := hok.cells b0 q0 had _ _ _ (hsubc hc)
                          refine ⟨v, ?_, hr.mono (fun _ _ _ h => h) m2⟩
                          rw [← hv]
                          congr 2
                          simp only [q2, Nat.add_mul]
                          omega
                        · rename_i hge
                          rw [hll] at hge hc
                          obtain ⟨v, hv, hr⟩ := s2 (a - len) b c hc
                          have hl' : (a - len) * e.sz + b < news.length := by
                            rcases Nat.lt_or_ge ((a - len) * e.sz + b) news.length with hx | hx
                            · exact hx
                            · rw [List.getElem?_eq_none hx] at hv; cases hv
                          have e0 : a * e.sz = len * e.sz + (a - len) * e.sz := by rw [← Nat.add_mul]; congr 1; omega
                          rw [if_pos (by simp only; omega)]
                          refine ⟨v, ?_, hr.mono (fun _ _ _ h => h) m2⟩
                          rw [← hv]
                          congr 1
                          simp only
                          omega)
                    rw [setA_setA, fset_one] at hst
                    rw [show mkA b0 (q0 + off * e.sz) = (⟨b0, q0 + off * e.sz, none⟩ : Addr) from rfl, hrun]
                    refine ⟨_, _, φ', rfl, hst, ?_, m2, hfresh⟩
                    have := VRel.blk (rd := rd) (φ := φ') d G [] e.sz 0 (sub off len row.es ++ es).length ⟨some (b0, q0 + off * e.sz), pl.cap - off⟩ (some (mkA b0 (q0 + off * e.sz))) hnew (.inr (by simp)) (by simp only [List.length_append, hll]; omega)
                    simpa [hll] using this
            · -- a new row
              have hT : ∀ r2 g2 p2 row2, rowAt (delB σ r p) r2 g2 p2 = some row2 → rowAt σ r2 g2 p2 = some row2 := fun _ _ _ _ hh => (rowAt_delB hh).1
              by_cases hz0 : len = 0
              · subst hz0
                have hsub : sub off 0 row.es = [] := by simp [sub]
                rw [hsub] at grow ⊢
                exact grow hT A (pl.cap - off) [] (by simp; omega) (by cases A <;> simp [Builtin.firstCells, loadCells, loadCellsFrom]) (by simp) (by simp) (by simp) (by simp)
              · rcases hA with hA | hA
                · omega
                · cases had : pl.ad with
                  | none => exact absurd (hok.nil had) (by omega)
                  | some bq =>
                    obtain ⟨b0, q0⟩ := bq
                    rw [had] at hA
                    simp only [Option.map_some] at hA
                    subst hA
                    have hcell : ∀ k, k < len * e.sz → (w.cell? (mkA b0 (q0 + off * e.sz + k))).isSome = true := by
                      intro k hk
                      have h1 := (hok.room b0 q0 had (off * e.sz + k) (by
                        rw [q2]
                        have : (off + len) * e.sz ≤ pl.cap * e.sz := Nat.mul_le_mul_right _ (by omega)
                        rw [Nat.add_mul] at this
                        omega)).1
                      rwa [← Nat.add_assoc] at h1
                    have hvo : (Builtin.firstCells inf.size len (.slice (some (mkA b0 (q0 + off * e.sz))) len (pl.cap - off))).run P w.drew = .ok (cellsAt w b0 (q0 + off * e.sz) (len * e.sz)).toArray w.drew := by
                      refine run_firstCells_some w.drew inf.size len _ _ _ _ (by rw [cellsAt_len, e3]) fun j u hu => ?_
                      obtain ⟨h1, rfl⟩ := cellsAt_inv hu
                      obtain ⟨x, hx⟩ := Option.isSome_iff_exists.1 (hcell j h1)
                      rw [mkA_add, hx]
                      simpa using hx
                    have := grow hT (some (mkA b0 (q0 + off * e.sz))) (pl.cap - off) (cellsAt w b0 (q0 + off * e.sz) (len * e.sz)) (by rw [hll]; omega) (by rw [hll]; exact hvo) (by rw [cellsAt_len, hll]) hw hko
                      (fun a b c hc => by
                        have hab : a * e.sz + b < len * e.sz := by
                          cases hh : (sub off len row.es)[a]? with
                          | none => rw [hh] at hc; cases hc
                          | some x =>
                            have ha' : a < len := by
                              rw [← hll]
                              rcases Nat.lt_or_ge a (sub off len row.es).length with hx | hx
                              · exact hx
                              · rw [List.getElem?_eq_none hx] at hh; cases hh
                            rw [hh] at hc
                            have hb' : b < e.sz := by
                              rw [← hw x (List.mem_of_getElem? hh)]
                              rcases Nat.lt_or_ge b x.length with hx | hx
                              · exact hx
                              · rw [Option.bind_some, List.getElem?_eq_none hx] at hc; cases hc
                            have hm := Nat.mul_le_mul_right e.sz (show a + 1 ≤ len from ha')
                            rw [Nat.succ_mul] at hm
                            omega
                        obtain ⟨v, hv, hr⟩ := hok.cells b0 q0 had _ _ _ (hsubc hc)
                        refine ⟨v, cellsAt_get hab ?_, hr⟩
                        rw [← hv]
                        congr 2
                        rw [q2, Nat.add_mul]
                        omega)
                    rw [hll] at this
                    exact this
        · cases hb1
      · cases hb1
    · cases hbase
  · cases ha3
theorem HRel.fsetLow {r g : Nat} {p : List Nat} {f : Frag} {row : Row} {fl' : Nat} (h : HRel rd φ O w0 σ w) (hl : lookA σ r = some (g, f)) (hf : f p = some row) (hao : row.ao = false) (hle : fl' ≤ row.fl) : HRel rd φ O w0 (setA σ r (g, fset f p ⟨row.sz, row.es, fl', false⟩)) w := by
  have hat : rowAt σ r g p = some row := by unfold rowAt; rw [hl]; simp [hf]
  have hcase : ∀ {r2 g2 p2 row2}, rowAt (setA σ r (g, fset f p ⟨row.sz, row.es, fl', false⟩)) r2 g2 p2 = some row2 → ∃ row1, rowAt σ r2 g2 p2 = some row1 ∧ row2.sz = row1.sz ∧ row2.es = row1.es ∧ row2.ao = row1.ao ∧ row2.fl ≤ row1.fl ∧ (row2.ao = true → row2.fl = row1.fl) := by
    intro r2 g2 p2 row2 hr
    rcases rowAt_fset hl hr with ⟨rfl, rfl, rfl, rfl⟩ | ⟨h1, _⟩
    · exact ⟨row, hat, rfl, rfl, hao.symm, hle, fun ha => by cases ha⟩
    · exact ⟨row2, h1, rfl, rfl, rfl, Nat.le_refl _, fun _ => rfl⟩
  refine ⟨?_, ?_, h.rdok, ?_, ?_, h.frame, h.size, h.os, h.tape, h.output⟩
  · intro r g p row2 hr
    obtain ⟨row1, h1, e1, e2, e3, e4, e5⟩ := hcase hr
    obtain ⟨pl, hp, hok⟩ := h.rows _ _ _ _ h1
    refine ⟨pl, hp, by rw [e1, e2]; exact hok.wide, by rw [e2]; exact hok.len, fun x hx => (hok.kind x (by rwa [← e2])).le e4, hok.nil, by rw [e1]; exact hok.room, by rw [e1, e2]; exact hok.cells, fun ha => ?_⟩
    rw [e5 ha, e1, e2]
    exact hok.frz (by rw [← e3]; exact ha)
  · intro r g p row r' g' p' row' pl pl' b q q' h1 h2 h3 h4 h5 h6
    obtain ⟨x1, k1, _⟩ := hcase h1
    obtain ⟨x2, k2, _⟩ := hcase h2
    exact h.sep _ _ _ _ _ _ _ _ _ _ _ _ _ k1 k2 h3 h4 h5 h6
  · intro r g p row pl b q h1 h2 h3 k hor
    obtain ⟨x1, k1, e1, e2, e3, _⟩ := hcase h1
    rw [e1, e2, e3] at hor
    exact h.rdsep _ _ _ _ _ _ _ k1 h2 h3 k hor
  · intro r g p row pl b q h1 h2 h3
    obtain ⟨x1, k1, _⟩ := hcase h1
    exact h.own _ _ _ _ _ _ _ k1 h2 h3
theorem copy_sound (h : HRel rd φ O w0 σ w) {t tx ty : Nat} {a x v : AV} {ca cx : Value} (hab : VRel rd φ a ca) (hx : VRel rd φ x cx) {σ' : Sig} (ha : absCopy P σ t tx a x = some (v, σ')) :
    After0 rd φ O w0 σ' v ((Builtin.copy_ #[t, tx] ty #[ca, cx]).run P w) := by
  unfold absCopy at ha
  obtain ⟨i, hi, ha1⟩ := Option.bind_eq_some_iff.1 ha
  obtain ⟨e, he, ha2⟩ := Option.bind_eq_some_iff.1 ha1
  clear ha ha1
  split at ha2
  · rename_i hk hpos htx
    have hpos := Nat.le_of_ble_eq_true hpos
    obtain ⟨⟨es, fn⟩, hs, ha3⟩ := Option.bind_eq_some_iff.1 ha2
    clear ha2
    obtain ⟨news, s1, s2, s3, s4, s5⟩ := srcOf_sound h hx hs
    simp only at s1 s2 s3 s4 s5 ha3
    split at ha3
    · rename_i r g p sz off len
      obtain ⟨⟨g', f⟩, hl, ha4⟩ := Option.bind_eq_some_iff.1 ha3
      clear ha3
      split at ha4
      · rename_i hg
        have hg := Nat.eq_of_beq_eq_true hg
        simp only at hg
        subst hg
        obtain ⟨row, hrow, ha5⟩ := Option.bind_eq_some_iff.1 ha4
        clear ha4
        split at ha5
        · rename_i q1 q2 q3
          have q1 := Nat.eq_of_beq_eq_true q1
          have q2 := Nat.eq_of_beq_eq_true q2
          subst q1
          unfold ifLe at ha5
          split at ha5
          · rename_i hle
            have hle := Nat.le_of_ble_eq_true hle
            simp only [Option.some.injEq, Prod.mk.injEq] at ha5
            obtain ⟨rfl, rfl⟩ := ha5
            have hrow' : f p = some row := hrow
            have hat : rowAt σ r g' p = some row := by unfold rowAt; rw [hl]; simp [hrow']
            obtain ⟨pl, hp, hok⟩ := h.rows _ _ _ _ hat
            have hu := ti_el_slice hi hk
            have hn : min es.length len ≤ es.length := Nat.min_le_left _ _
            have hcells := s5 htx (min es.length len) hn
            have hnl : (news.take (min es.length len * e.sz)).length = min es.length len * e.sz := by
              rw [List.length_take, s1.newsLen]
              exact Nat.min_eq_left (Nat.mul_le_mul_right _ hn)
            have hmin : Nat.min es.length len = min es.length len := rfl
            cases hab with
            | blk _ _ _ _ _ _ pl' A hφ hA hl' =>
              rw [hφ] at hp
              cases hp
              by_cases hz : min es.length len = 0
              · have hrun : (Builtin.copy_ #[t, tx] ty #[.slice A len (pl.cap - off), cx]).run P w = .ok (goInt 0) w := by
                  rw [hz] at hcells
                  simp only [Nat.zero_mul, List.take_zero] at hcells
                  cases A <;> simp [Builtin.copy_, run_underlying hu, s1.len, run_size he, hmin, hz, hcells, storeCells]
                rw [hrun]
                have e0 : row.es.take off ++ (es.take len ++ (row.es.drop off).drop (min es.length len)) = row.es := by
                  have : es.take len = [] := by
                    apply List.eq_nil_of_length_eq_zero
                    rw [List.length_take, Nat.min_comm]; exact hz
                  rw [hz, this]
                  simp
                refine ⟨_, _, rfl, ?_, by rw [hz]; exact .sc _ rfl⟩
                rw [e0]
                refine HRel.fsetLow h hl hrow' q3 (Nat.min_le_left _ _)
              · rcases hA with hA | hA
                · omega
                · cases had : pl.ad with
                  | none => exact absurd (hok.nil had) (by omega)
                  | some bq =>
                    obtain ⟨b0, q0⟩ := bq
                    rw [had] at hA
                    simp only [Option.map_some] at hA
                    subst hA
                    have hone : ∀ u ∈ news.take (min es.length len * e.sz), u.oneCell' = true := fun u hu => s1.one u (List.mem_of_mem_take hu)
                    have hidx : ∀ j, j < min es.length len * e.sz → off * e.sz + j < pl.cap * e.sz := by
                      intro j hj
                      have : (off + min es.length len) * e.sz ≤ pl.cap * e.sz := Nat.mul_le_mul_right _ (by omega)
                      rw [Nat.add_mul] at this
                      omega
                    have hroomc := fun j (hj : j < min es.length len * e.sz) => hok.room b0 q0 had (off * e.sz + j) (by rw [q2]; exact hidx j hj)
                    have hst := run_storeCells_cells (P := P) b0 (q0 + off * e.sz) (news.take (min es.length len * e.sz)) 0 w
                      (fun j hj => by have := (hroomc j (by rw [← hnl]; exact hj)).1; rwa [Nat.add_zero, Nat.add_assoc]) (fun j hj => by have := (hroomc j (by rw [← hnl]; exact hj)).2; rwa [Nat.add_zero, Nat.add_assoc]) hone
                    simp only [Nat.add_zero] at hst
                    have hrun : (Builtin.copy_ #[t, tx] ty #[.slice (some (mkA b0 (q0 + off * e.sz))) len (pl.cap - off), cx]).run P w = .ok (goInt (min es.length len : Nat)) (w.setCells b0 (q0 + off * e.sz) (news.take (min es.length len * e.sz))) := by
                      simp [Builtin.copy_, run_underlying hu, s1.len, run_size he, hmin, hcells, hst, goInt]
                    rw [hrun]
                    refine ⟨_, _, rfl, ?_, .sc _ rfl⟩
                    refine h.store hl hrow' hφ had q3 ⟨row.sz, row.es.take off ++ (es.take len ++ (row.es.drop off).drop (min es.length len)), min row.fl fn, false⟩ rfl rfl ?_ ?_ ?_ (q0 + off * e.sz) (news.take (min es.length len * e.sz)) ?_
                    · intro y hy
                      rcases List.mem_append.1 hy with hy | hy
                      · exact hok.wide y (List.mem_of_mem_take hy)
                      · rcases List.mem_append.1 hy with hy | hy
                        · rw [q2]; exact s3 y (List.mem_of_mem_take hy)
                        · exact hok.wide y (List.mem_of_mem_drop (List.mem_of_mem_drop hy))
                    · have := hok.len
                      simp only [List.length_append, List.length_take, List.length_drop]
                      omega
                    · intro y hy
                      rcases List.mem_append.1 hy with hy | hy
                      · exact (hok.kind y (List.mem_of_mem_take hy)).le (Nat.min_le_left _ _)
                      · rcases List.mem_append.1 hy with hy | hy
                        · exact (s4 y (List.mem_of_mem_take hy)).le (Nat.min_le_right _ _)
                        · exact (hok.kind y (List.mem_of_mem_drop (List.mem_of_mem_drop hy))).le (Nat.min_le_left _ _)
                    · intro a' b' c hc
                      rw [hnl, q2]
                      have hoff : (row.es.take off).length = off := by simp; omega
                      have htk : (es.take len).length = min es.length len := by simp [Nat.min_comm]
                      have inb : ∀ {l : List (List AV)} {k : Nat}, (∀ x ∈ l, x.length = e.sz) → (l[k]?).bind (·[b']?) = some c → b' < e.sz := by
                        intro l k hw hh
                        cases hx : l[k]? with
                        | none => rw [hx] at hh; cases hh
                        | some x =>
                          rw [hx] at hh
                          rw [← hw x (List.mem_of_getElem? hx)]
                          rcases Nat.lt_or_ge b' x.length with hy | hy
                          · exact hy
                          · rw [Option.bind_some, List.getElem?_eq_none hy] at hh; cases hh
                      have hwrow : ∀ x ∈ row.es, x.length = e.sz := fun x hx => by rw [hok.wide x hx, q2]
                      rw [List.getElem?_append, hoff] at hc
                      split at hc
                      · rename_i hlt
                        rw [List.getElem?_take, if_pos hlt] at hc
                        have hb := inb hwrow hc
                        have hm := Nat.mul_le_mul_right e.sz (show a' + 1 ≤ off from hlt)
                        rw [Nat.succ_mul] at hm
                        rw [if_neg (by omega)]
                        have := hok.cells b0 q0 had _ _ _ hc
                        rwa [q2] at this
                      · rename_i hge
                        rw [List.getElem?_append, htk] at hc
                        split at hc
                        · rename_i hlt
                          rw [List.getElem?_take, if_pos (by omega)] at hc
                          have hb := inb s3 hc
                          have hm := Nat.mul_le_mul_right e.sz (show a' - off + 1 ≤ min es.length len from hlt)
                          rw [Nat.succ_mul] at hm
                          have e1 : a' * e.sz = off * e.sz + (a' - off) * e.sz := by rw [← Nat.add_mul]; congr 1; omega
                          rw [if_pos (by omega)]
                          obtain ⟨v, hv, hr⟩ := s2 _ _ _ hc
                          refine ⟨v, ?_, hr⟩
                          rw [List.getElem?_take, if_pos (by omega), ← hv]
                          congr 1
                          omega
                        · rename_i hge2
                          rw [List.getElem?_drop, List.getElem?_drop] at hc
                          have hb := inb hwrow hc
                          have e1 : off + (min es.length len + (a' - off - min es.length len)) = a' := by omega
                          rw [e1] at hc
                          have hm := Nat.mul_le_mul_right e.sz (show off + min es.length len ≤ a' by omega)
                          rw [Nat.add_mul] at hm
                          rw [if_neg (by omega)]
                          have := hok.cells b0 q0 had _ _ _ hc
                          rwa [q2] at this
          · cases ha5
        · cases ha5
      · cases ha4
    · cases ha3
  · cases ha2
theorem buildOwn_sound (h : HRel rd φ O w0 σ w) (hfr : ∀ p, φ d G p = none) {t len : Nat} {v : AV} {ev : Operand → AV} {ρ : Operand → Value} (hev : ∀ x, VRel rd φ (ev x) (ρ x)) {parts : Array (Nat × Operand)} {σ' : Sig}
    (ha : absBuildOwn P d G σ t len (parts.toList.map fun x => (x.1, ev x.2)) = some (v, σ')) : After rd φ O w0 d G σ' v ((Instr.buildSlice t len (parts.map fun (i, x) => (i, ρ x))).run P w) := by
  unfold absBuildOwn at ha
  obtain ⟨x, hx, ha1⟩ := Option.bind_eq_some_iff.1 ha
  cases ha1
  obtain ⟨arr, T, h1, h2, h3, h4⟩ := buildE_sound (P := P) (w := w) hev hx
  rw [h4]
  have hn := h.newRow hfr ⟨x.1, x.2, flL x.2, false⟩ rfl len arr T (0, 0) (.inr (Nat.le_refl _)) h2.2.1 (by simp [h1]) (by rw [h2.1, h1]; exact Nat.le_refl _) flL_kok h2.2.2
  refine ⟨_, _, _, rfl, hn.1, ?_, hn.2, fun r g p hh => phiSet_new r g p hh⟩
  exact VRel.blk (rd := rd) (φ := phiSet φ d G fun p => match p with | [] => some ⟨some (w.heap.size, 0), len⟩ | _ => none) d G [] x.1 0 len ⟨some (w.heap.size, 0), len⟩ (some (mkA w.heap.size 0)) (by simp [phiSet]) (.inr (by simp)) (by simp)
--X2E
end

end Go.Proofs.Ytkhemolkhegppaa.E
