/-
  E, part G: a call of a function by its contract; regions in order; control; the contract of a function out of its code.
-/
import Derived.Test.YtbamamgeamnmnaaEF
namespace Go.Proofs.Ytbamamgeamnmnaa.E
open Go Go.RowKit

section
variable {P : Program} {rd : RD} {φ : Phi} {O : Nat → Prop} {w0 w : World} {s : St} {a : Act}

theorem lookF_mem {l : List (List Nat × Row)} {p : List Nat} {row : Row} (h : lookF l p = some row) : ∃ q, (q, row) ∈ l := by
  induction l with
  | nil => cases h
  | cons x l ih =>
    obtain ⟨q, r⟩ := x
    simp only [lookF] at h
    split at h
    · cases h; exact ⟨q, by simp⟩
    · obtain ⟨q', hq⟩ := ih h; exact ⟨q', by simp [hq]⟩

/-- What a callee hands back joins what the caller has. -/
theorem HRel.join {rd' : RD} {σ : Sig} {w' : World} {d G : Nat} {ψ : List Nat → Option Pl} {rf : List (List Nat × Row)} (h : HRel rd φ O w0 σ w) (hfr : ∀ p, φ d G p = none)
    (hx : Ext (fun _ => False) w rd rd') (k : HRel rd' (phi0 ψ) (fun _ => False) w (sigOf rf) w')
    (hrow : ∀ p row, lookF rf p = some row → 1 ≤ row.fl) :
    HRel rd' (phiSet φ d G ψ) O w0 (addF σ d G rf) w' ∧ (∀ r g p pl, φ r g p = some pl → phiSet φ d G ψ r g p = some pl) := by
  have hext : ∀ r g p pl, φ r g p = some pl → phiSet φ d G ψ r g p = some pl := by
    intro r g p pl hp
    unfold phiSet
    rw [if_neg (by rintro ⟨rfl, rfl⟩; rw [hfr] at hp; cases hp)]
    exact hp
  have hold : ∀ b, b < w.heap.size → w'.heap[b]? = w.heap[b]? := fun b hb => k.frame b hb (fun h => h)
  have hcell : ∀ b q, b < w.heap.size → w'.cell? (mkA b q) = w.cell? (mkA b q) := fun b q hb => World.cell?_of_block (hold b hb)
  have hfroz : ∀ b q, b < w.heap.size → w'.frozen? (mkA b q) = w.frozen? (mkA b q) := fun b q hb => World.frozen?_of_block (hold b hb)
  have hat : ∀ p row, lookF rf p = some row → rowAt (sigOf rf) 0 0 p = some row := by
    intro p row hp
    cases rf with
    | nil => cases hp
    | cons x l => simp [rowAt, sigOf, lookA, hp]
  have hcase : ∀ {r g p row}, rowAt (addF σ d G rf) r g p = some row → (d = r ∧ G = g ∧ lookF rf p = some row) ∨ (rowAt σ r g p = some row ∧ (rf = [] ∨ r ≠ d)) := by
    intro r g p row hr
    cases rf with
    | nil => exact .inr ⟨hr, .inl rfl⟩
    | cons x l =>
      simp only [addF, rowAt_setA] at hr
      by_cases hd : r = d
      · rw [if_pos hd] at hr
        by_cases hg : G = g
        · rw [if_pos hg] at hr; exact .inl ⟨hd.symm, hg, hr⟩
        · rw [if_neg hg] at hr; cases hr
      · rw [if_neg hd] at hr; exact .inr ⟨hr, .inr hd⟩
  have hphi : ∀ p, phiSet φ d G ψ d G p = ψ p := fun p => by simp [phiSet]
  have hphio : ∀ {r g p row}, rowAt σ r g p = some row → phiSet φ d G ψ r g p = φ r g p := by
    intro r g p row hr
    obtain ⟨pl, hp, _⟩ := h.rows _ _ _ _ hr
    rw [hext _ _ _ _ hp, hp]
  have hlt : ∀ {r g p row pl b q}, rowAt σ r g p = some row → φ r g p = some pl → pl.ad = some (b, q) → b < w.heap.size := fun h1 h2 h3 => (h.own _ _ _ _ _ _ _ h1 h2 h3).2
  have hnew : ∀ {p row pl b q}, lookF rf p = some row → ψ p = some pl → pl.ad = some (b, q) → w.heap.size ≤ b ∧ b < w'.heap.size := by
    intro p row pl b q h1 h2 h3
    obtain ⟨h4, h5⟩ := k.own 0 0 p row pl b q (hat _ _ h1) (by simpa [phi0] using h2) h3
    exact ⟨h4.elim (fun h => h.elim) id, h5⟩
  refine ⟨⟨?_, ?_, ?_, ?_, ?_, ?_, ?_, k.os.trans h.os, k.tape.trans h.tape, k.output.trans h.output⟩, hext⟩
  · intro r g p row hr
    rcases hcase hr with ⟨rfl, rfl, hp⟩ | ⟨hr1, _⟩
    · obtain ⟨pl, h1, h2⟩ := k.rows _ _ _ _ (hat _ _ hp)
      refine ⟨pl, by rw [hphi]; simpa [phi0] using h1, h2.wide, h2.len, h2.kind, h2.nil, h2.room, fun b q had i j c hc => ?_, h2.frz⟩
      obtain ⟨v, hv, hrel⟩ := h2.cells b q had i j c hc
      refine ⟨v, hv, ?_⟩
      have hf1 := hrow p row hp
      have hm : ∃ e ∈ row.es, c ∈ e := by
        cases he : row.es[i]? with
        | none => rw [he] at hc; cases hc
        | some e => rw [he] at hc; exact ⟨e, List.mem_of_getElem? he, List.mem_of_getElem? hc⟩
      obtain ⟨e, he, hce⟩ := hm
      have hs := (h2.kind e he).1 hf1 c hce
      have hsf : sf c = true := by cases c <;> first | rfl | cases hs
      exact hrel.of_sf hsf
    · obtain ⟨pl, h1, h2⟩ := h.rows _ _ _ _ hr1
      refine ⟨pl, hext _ _ _ _ h1, (h2.of_same fun b q had k => ⟨hcell b k (hlt hr1 h1 had), hfroz b k (hlt hr1 h1 had)⟩).mono hx.1 hext⟩
  · intro r g p row r' g' p' row' pl pl' b q q' h1 h2 h3 h4 h5 h6
    rcases hcase h1 with ⟨e3, e4, k1⟩ | ⟨k1, hd⟩ <;> rcases hcase h2 with ⟨e1, e2, k2⟩ | ⟨k2, hd'⟩
    · subst e1; subst e2; subst e3
      rw [← e4, hphi] at h3
      rw [hphi] at h4
      exact ⟨rfl, (k.sep 0 0 p row 0 0 p' row' pl pl' b q q' (hat _ _ k1) (hat _ _ k2) (by simpa [phi0] using h3) (by simpa [phi0] using h4) h5 h6).2⟩
    · subst e3; subst e4
      rw [hphi] at h3
      rw [hphio k2] at h4
      have := (hnew k1 h3 h5).1
      have := hlt k2 h4 h6
      omega
    · subst e1; subst e2
      rw [hphi] at h4
      rw [hphio k1] at h3
      have := (hnew k2 h4 h6).1
      have := hlt k1 h3 h5
      omega
    · rw [hphio k1] at h3
      rw [hphio k2] at h4
      exact h.sep _ _ _ _ _ _ _ _ _ _ _ _ _ k1 k2 h3 h4 h5 h6
  · exact k.rdok
  · intro r g p row pl b q h1 h2 h3 i hor
    rcases hcase h1 with ⟨rfl, rfl, k1⟩ | ⟨k1, hd⟩
    · rw [hphi] at h2
      exact k.rdsep 0 0 p row pl b q (hat _ _ k1) (by simpa [phi0] using h2) h3 i hor
    · rw [hphio k1] at h2
      rw [hx.2 b i (hlt k1 h2 h3) (fun h => h)]
      exact h.rdsep _ _ _ _ _ _ _ k1 h2 h3 i hor
  · intro r g p row pl b q h1 h2 h3
    rcases hcase h1 with ⟨rfl, rfl, k1⟩ | ⟨k1, hd⟩
    · rw [hphi] at h2
      obtain ⟨ha, hb⟩ := hnew k1 h2 h3
      exact ⟨.inr (Nat.le_trans h.size ha), hb⟩
    · rw [hphio k1] at h2
      obtain ⟨ha, hb⟩ := h.own _ _ _ _ _ _ _ k1 h2 h3
      exact ⟨ha, Nat.lt_of_lt_of_le hb k.size⟩
  · intro b hb hO
    rw [hold b (Nat.lt_of_lt_of_le hb h.size)]
    exact h.frame b hb hO
  · exact Nat.le_trans h.size k.size

theorem vcCall_sound {rd0 : RD} (hx0 : Ext O w0 rd0 rd) {o : Oper} {n : Nat} {args : List AV} {K : St → Prop} (h : Rel rd φ O w0 s a w) {cargs : Array Value} (hargs : PW rd φ args cargs.toList) (hv : vcCall P s o n args K) :
    FnOK P n ∧ Calls P n cargs w fun e w' => ∃ v s', e = .returned v ∧ K s' ∧ RelE rd0 O w0 s' (a.put o.dst v) w' := by
  unfold vcCall at hv
  obtain ⟨⟨σ1, args'⟩, hl, hv⟩ := onSome_elim hv
  obtain ⟨res, rf, ⟨hfn, hc⟩, hok, hk⟩ := hv
  refine ⟨hfn, ?_⟩
  obtain ⟨rd1, x1, h1, l1⟩ := frzAll_sound h.heap hargs hl
  have hfr : ∀ p, φ (o.dst.getD 0) s.G p = none := fun p => by
    cases hp : φ (o.dst.getD 0) s.G p with
    | none => rfl
    | some x => exact absurd (h.gen _ s.G p (by rw [hp]; simp)) (Nat.lt_irrefl _)
  refine (hc w rd1 cargs h1.rdok (l1 _)).mono ?_
  rintro e w' ⟨v, rd', ψ, rfl, x2, h2, h4⟩
  obtain ⟨j1, j2⟩ := h1.join hfr x2 h2 (fun p row hp => by
    obtain ⟨q, hq⟩ := lookF_mem hp
    exact Nat.le_of_ble_eq_true (List.all_eq_true.1 hok _ hq))
  have hr := nm_rel (φ := φ) (d := o.dst.getD 0) (G := s.G) h4
  have x3 : Ext O w0 rd1 rd' := ⟨x2.1, fun b k hb hO => x2.2 b k (Nat.lt_of_lt_of_le hb h1.size) (fun h => h)⟩
  obtain ⟨s', hs, hrel⟩ := h.put hk (x1.trans x3).1 j1 hr j2 (fun r g p hp => phiSet_new r g p hp)
  exact ⟨v, s', rfl, hs, rd', _, hx0.trans (x1.trans x3), hrel⟩

/-- All that may come of a region or a code. -/
abbrev Post (rd : RD) (O : Nat → Prop) (w0 : World) (Q : Exit → St → Prop) : Exit → Act → World → Prop := fun e a w => ∃ s, Q e s ∧ RelE rd O w0 s a w

theorem vcOp_sound {rd0 : RD} (hx0 : Ext O w0 rd0 rd) {o : Oper} {K : St → Prop} {Q : Exit → Act → World → Prop} {next : Act → World → Prop} (h : Rel rd φ O w0 s a w)
    (hv : vcOp P o s K) (hn : ∀ s' a' w', K s' → RelE rd0 O w0 s' a' w' → next a' w') : o.wp P a w next Q := by
  have hfr : ∀ p, φ (o.dst.getD 0) s.G p = none := fun p => by
    cases hp : φ (o.dst.getD 0) s.G p with
    | none => rfl
    | some x => exact absurd (h.gen _ s.G p (by rw [hp]; simp)) (Nat.lt_irrefl _)
  have plain : onSome (absOp P (o.dst.getD 0) s.G (ev s) s.σ o.op) (PutK s o.dst K) → o.wp P a w next Q := by
    intro hg
    · obtain ⟨⟨v, σ'⟩, ha, hg⟩ := onSome_elim hg
      obtain ⟨nx, cv, w', rd', φ', h1, h2, hx, h3, h4, h5, h6⟩ := absOp_sound h.heap hfr (fun x => h.ev x) ha
      obtain ⟨s', hs, hrel⟩ := h.put hg hx.1 h3 h4 h5 h6
      unfold Oper.wp
      rw [h1]
      rcases h2 with rfl | ⟨rfl, rfl⟩
      · exact hn _ _ _ hs ⟨rd', φ', hx0.trans hx, hrel⟩
      · exact hn _ _ _ hs ⟨rd', φ', hx0.trans hx, hrel⟩
  unfold vcOp at hv
  split at hv
  · rename_i c hop
    split at hv
    · rename_i n hcal
      have hpw : PW rd φ (c.args.toList.map (ev s)) (c.args.map a.eval).toList := by
        refine ⟨by simp, fun j x hj => ?_⟩
        rw [List.getElem?_map] at hj
        obtain ⟨y, hy, rfl⟩ := Option.map_eq_some_iff.1 hj
        exact ⟨a.eval y, by simp [hy] , h.ev y⟩
      obtain ⟨⟨fn, hf1, hf2, hf3⟩, hcall⟩ := vcCall_sound (P := P) hx0 h hpw hv
      have hrun : (execOp a.eval o).run P w = .ok (.enter n (c.args.map a.eval)) w := by
        unfold execOp
        rw [hop]
        have hf2' : ¬ fn.name = "runtime.NumGoroutine" := by simpa using hf2
        have hf3' : ¬ fn.body = none := fun e => by rw [e] at hf3; cases hf3
        simp [resolve, hcal, Act.eval, Deferred.ofValue, invoke, callFunc, hf1, hf2', hf3']
      unfold Oper.wp
      rw [hrun]
      show Calls P n _ w _
      refine hcall.mono ?_
      rintro e w' ⟨v, s', rfl, hk, hrel⟩
      exact hn _ _ _ hk hrel
    · exact plain hv
  · exact plain hv


theorem Rel.known (h : Rel rd φ O w0 s a w) {t : Nat} {b : Bool} (hl : lookA s.tm t = some (.sc (.bool b))) :
    a.tmps[t]? = some (.bool b) ∧ Rel rd φ O w0 ⟨s.n, (t, .sc (.bool b)) :: s.tm, s.σ, s.G⟩ a w := by
  have hv := sc_inv (h.tm t _ hl)
  have hlt : t < a.tmps.size := by
    rcases Nat.lt_or_ge t a.tmps.size with hx | hx
    · exact hx
    · simp [Array.getElem?_eq_none hx, undef] at hv
  refine ⟨?_, h.heap, fun t' v hl' => ?_, h.size, h.defers, h.gen⟩
  · have : a.tmps.getD t undef = a.tmps[t] := by simp [hlt]
    rw [this] at hv
    rw [Array.getElem?_eq_getElem hlt, hv]
  · simp only [lookA_cons] at hl'
    split at hl'
    · rename_i e
      subst e
      cases hl'
      exact h.tm _ _ hl
    · exact h.tm _ _ hl'

theorem vcStep_sound {rd0 : RD} (hx0 : Ext O w0 rd0 rd) {ops : Array Oper} {i : Nat} {o : Oper} (ho : ops[i]? = some o) {K : St → Prop} {Q : Exit → Act → World → Prop} {rest : List Nat} (h : Rel rd φ O w0 s a w)
    (hv : vcStep P ops o s K) (hn : ∀ s' a' w', K s' → RelE rd0 O w0 s' a' w' → wpOps P ops Q rest a' w') : wpOps P ops Q (i :: rest) a w := by
  have skip : ∀ {s : St}, Rel rd φ O w0 s a w → put s o.dst .dead s.σ K → wpOps P ops Q rest (a.put o.dst undef) w := by
    intro s h hk
    obtain ⟨s', hs, hrel⟩ := h.put hk (fun _ _ _ h => h) h.heap (.dead undef) (fun _ _ _ _ h => h) (fun _ _ _ h => .inl h)
    exact hn _ _ _ hs ⟨rd, φ, hx0, hrel⟩
  simp only [wpOps, ho]
  unfold vcStep at hv
  split at hv
  · rename_i hg
    have hw : Region.wanted o (yielded ops a.tmps) = true := by simp [Region.wanted, hg]
    rw [if_pos hw]
    exact .inl (vcOp_sound hx0 h hv hn)
  · rename_i j want hg
    split at hv
    · cases hv
    · rename_i t hslot
      have hslot' : (ops[j]?).bind (·.dst) = some t := by
        unfold slotOf at hslot
        split at hslot
        · rename_i hx; rw [hx]; exact hslot
        · cases hslot
      split at hv
      · rename_i b hl
        obtain ⟨h1, _⟩ := h.known hl
        have hw : Region.wanted o (yielded ops a.tmps) = (b == want) := by
          simp [Region.wanted, hg, yielded, hslot', h1]
        cases b with
        | true =>
          rw [Br_true] at hv
          cases want with
          | true => rw [if_pos (by rw [hw]; rfl)]; exact .inl (vcOp_sound hx0 h hv hn)
          | false => rw [if_neg (by rw [hw]; decide)]; exact skip h hv
        | false =>
          rw [Br_false] at hv
          cases want with
          | false => rw [if_pos (by rw [hw]; rfl)]; exact .inl (vcOp_sound hx0 h hv hn)
          | true => rw [if_neg (by rw [hw]; decide)]; exact skip h hv
      · cases hv

theorem vcOps_sound {ops : Array Oper} {K : St → Prop} {Q : Exit → Act → World → Prop} (hn : ∀ s' a' w', K s' → RelE rd O w0 s' a' w' → Q .normal a' w') :
    ∀ (l : List Nat) (os : List Oper), l.map (ops[·]?) = os.map some → ∀ s a w, RelE rd O w0 s a w → vcOps P ops os s K → wpOps P ops Q l a w
  | [], [], _, s, a, w, h, hv => hn _ _ _ hv h
  | [], _ :: _, hl, _, _, _, _, _ => by cases hl
  | _ :: _, [], hl, _, _, _, _, _ => by cases hl
  | i :: l, o :: os, hl, s, a, w, ⟨rd', φ, hx, h⟩, hv => by
    simp only [List.map_cons, List.cons.injEq] at hl
    exact vcStep_sound hx hl.1 h hv fun s' a' w' hk hr => vcOps_sound hn l os hl.2 s' a' w' hr hk
end

/-- What is known of one state is enough for the other. -/
def Weak (s s' : St) : Prop := ∀ (rd : RD) (O : Nat → Prop) (w0 : World) (a : Act) (w : World), RelE rd O w0 s a w → RelE rd O w0 s' a w
theorem Weak.rel {s s' : St} (hw : Weak s s') {rd : RD} {O : Nat → Prop} {w0 w : World} {a : Act} (h : RelE rd O w0 s a w) : RelE rd O w0 s' a w := hw _ _ _ _ _ h
theorem Weak.refl (s : St) : Weak s s := fun _ _ _ _ _ h => h
theorem Weak.trans {s s' s'' : St} (h : Weak s s') (k : Weak s' s'') : Weak s s'' := fun _ _ _ _ _ x => k _ _ _ _ _ (h _ _ _ _ _ x)

/-- What is no longer asked for may be forgotten. -/
theorem Weak.forget {n G : Nat} {tm tm' : List (Nat × AV)} {σ σ' : Sig} (e2 : ∀ t v, lookA tm' t = some v → lookA tm t = some v) (e3 : ∀ r x, lookA σ' r = some x → lookA σ r = some x) : Weak ⟨n, tm, σ, G⟩ ⟨n, tm', σ', G⟩ := by
  intro rd O w0 a w ⟨rd', φ, hx, h⟩
  have hat : ∀ {r g p row}, rowAt σ' r g p = some row → rowAt σ r g p = some row := by
    intro r g p row hr
    unfold rowAt at hr ⊢
    cases hl : lookA σ' r with
    | none => rw [hl] at hr; cases hr
    | some x => rw [hl] at hr; rw [e3 _ _ hl]; exact hr
  exact ⟨rd', φ, hx, ⟨fun r g p row hr => h.heap.rows _ _ _ _ (hat hr), fun r g p row r' g' p' row' pl pl' b q q' h1 h2 => h.heap.sep _ _ _ _ _ _ _ _ _ _ _ _ _ (hat h1) (hat h2), h.heap.rdok,
    fun r g p row pl b q h1 => h.heap.rdsep _ _ _ _ _ _ _ (hat h1), fun r g p row pl b q h1 => h.heap.own _ _ _ _ _ _ _ (hat h1), h.heap.frame, h.heap.size, h.heap.os, h.heap.tape, h.heap.output⟩,
    fun t v hl => h.tm _ _ (e2 _ _ hl), h.size, h.defers, h.gen⟩

/-! ### Control -/
def thenK (Q : Exit → St → Prop) (K : St → Prop) : Exit → St → Prop
  | .normal, s => K s
  | .exit id, s => Q (.exit id) s
  | .goto l, s => Q (.goto l) s
  | .ret, s => Q .ret s
  | .panic c, s => Q (.panic c) s
  | .outgrown, s => Q .outgrown s
def blockK (id : Nat) (Q : Exit → St → Prop) : Exit → St → Prop
  | .normal, s => Q .normal s
  | .exit id', s => match id' == id with
    | true => Q .normal s
    | false => Q (.exit id') s
  | .goto l, s => Q (.goto l) s
  | .ret, s => Q .ret s
  | .panic c, s => Q (.panic c) s
  | .outgrown, s => Q .outgrown s

/-- THE CONDITION that a code comes to Q. -/
def vc (P : Program) : Code → St → (Exit → St → Prop) → Prop
  | .skip, s, Q => Q .normal s
  | .ret, s, Q => Q .ret s
  | .exit id, s, Q => Q (.exit id) s
  | .seq a b, s, Q => vc P a s (thenK Q fun s' => ∃ s'', Weak s' s'' ∧ vc P b s'' Q)
  | .cond c x y, s, Q => match ev s c with
    | .sc (.bool b) => Br b (vc P x s Q) (vc P y s Q)
    | _ => False
  | .block id c, s, Q => vc P c s (blockK id Q)
  | .loop c, s, Q => ∃ (I : Nat → St → Prop) (n : Nat) (s1 : St), Weak s s1 ∧ I n s1 ∧ ∀ m s2, I m s2 → vc P c s2 (thenK Q fun s3 => ∃ m' s4, m' < m ∧ Weak s3 s4 ∧ I m' s4)
  | .region _ ops draw, s, Q => match draw with
    | false => vcOps P ops ops.toList s (Q .normal)
    | true => False
  | _, _, _ => False

theorem wp_loop_fam {P : Program} {Q : Exit → Act → World → Prop} {c : Code} (I : Nat → Act → World → Prop)
    (round : ∀ n a w, I n a w → c.wp P (Exit.then (fun a' w' => ∃ m, m < n ∧ I m a' w') Q) a w) (n : Nat) (a : Act) (w : World) (h : I n a w) : (Code.loop c).wp P Q a w := by
  intro b k cs
  have key : ∀ n a w, I n a w → ∃ e a' w', Q e a' w' ∧ Arrives P (lone (b.at a (.code c :: .inLoop c :: k)) cs w) b k cs e a' w' := by
    intro n
    induction n using Nat.strongRecOn with
    | _ n ih =>
      intro a w hI
      obtain ⟨e, a1, w1, hq, harr⟩ := round n a w hI b (.inLoop c :: k) cs
      cases e with
      | normal =>
        obtain ⟨m, hm, hI1⟩ := hq
        obtain ⟨e2, a2, w2, hq2, harr2⟩ := ih m hm a1 w1 hI1
        exact ⟨e2, a2, w2, hq2, .of_steps (Steps.trans harr (.one step_inLoop)) harr2⟩
      | _ => exact ⟨_, a1, w1, hq, .pass (x := .inLoop c) rfl (fun _ _ => .inl (by simp)) harr⟩
  obtain ⟨e, a', w', hq, harr⟩ := key n a w h
  exact ⟨e, a', w', hq, .of_steps (.one step_loop) harr⟩

theorem range_map (ops : Array Oper) : (List.range ops.size).map (ops[·]?) = ops.toList.map some := by
  apply List.ext_getElem?
  intro i
  rw [List.getElem?_map, List.getElem?_map]
  rcases Nat.lt_or_ge i ops.size with h | h
  · rw [List.getElem?_range h]
    simp [h]
  · rw [List.getElem?_eq_none (by simpa using h), List.getElem?_eq_none (by simpa using h)]
    rfl

theorem vc_sound {P : Program} {rd : RD} {O : Nat → Prop} {w0 : World} : ∀ (c : Code) (s : St) (Q : Exit → St → Prop), vc P c s Q → ∀ a w, RelE rd O w0 s a w → c.wp P (Post rd O w0 Q) a w
  | .skip, s, Q, hv, a, w, h => wp_skip ⟨s, hv, h⟩
  | .ret, s, Q, hv, a, w, h => wp_ret ⟨s, hv, h⟩
  | .exit id, s, Q, hv, a, w, h => wp_exit ⟨s, hv, h⟩
  | .seq x y, s, Q, hv, a, w, h => by
    refine wp_seq (wp_mono (vc_sound x s _ hv a w h) ?_)
    rintro e a' w' ⟨s', hk, hr⟩
    cases e with
    | normal =>
      obtain ⟨s'', hw, hk⟩ := hk
      exact vc_sound y s'' Q hk a' w' (hw.rel hr)
    | _ => exact ⟨s', hk, hr⟩
  | .cond c x y, s, Q, hv, a, w, h => by
    simp only [vc] at hv
    split at hv
    · rename_i b hb
      obtain ⟨rd', φ, hx, hrel⟩ := h
      have hev := hrel.ev c
      rw [hb] at hev
      have hev := sc_inv hev
      cases b with
      | true => exact wp_cond_true hev (vc_sound x s Q hv a w ⟨rd', φ, hx, hrel⟩)
      | false => exact wp_cond_false hev (vc_sound y s Q hv a w ⟨rd', φ, hx, hrel⟩)
    · cases hv
  | .block id c, s, Q, hv, a, w, h => by
    refine wp_block (wp_mono (vc_sound c s _ hv a w h) ?_)
    rintro e a' w' ⟨s', hk, hr⟩
    cases e with
    | exit id' =>
      simp only [blockK] at hk
      simp only [Exit.inBlock]
      by_cases hid : id' = id
      · rw [if_pos hid]
        have : (id' == id) = true := by simp [hid]
        rw [this] at hk
        exact ⟨s', hk, hr⟩
      · rw [if_neg hid]
        have : (id' == id) = false := by simp [hid]
        rw [this] at hk
        exact ⟨s', hk, hr⟩
    | _ => exact ⟨s', hk, hr⟩
  | .loop c, s, Q, hv, a, w, h => by
    obtain ⟨I, n, s1, hw, hI, hround⟩ := hv
    refine wp_loop_fam (fun n a w => ∃ s, I n s ∧ RelE rd O w0 s a w) ?_ n a w ⟨s1, hI, hw.rel h⟩
    rintro m a2 w2 ⟨s2, h2, hr2⟩
    refine wp_mono (vc_sound c s2 _ (hround m s2 h2) a2 w2 hr2) ?_
    rintro e a' w' ⟨s3, hk, hr⟩
    cases e with
    | normal =>
      obtain ⟨m', s4, hlt, hweak, hI4⟩ := hk
      exact ⟨m', hlt, s4, hI4, hweak.rel hr⟩
    | _ => exact ⟨s3, hk, hr⟩
  | .region id ops draw, s, Q, hv, a, w, h => by
    simp only [vc] at hv
    cases draw with
    | false => exact wp_region (vcOps_sound (fun s' a' w' hk hr => ⟨s', hk, hr⟩) _ _ (range_map ops) s a w h hv)
    | true => cases hv
  | .rangeFunc .., s, Q, hv, a, w, h => by cases hv
  | .scope _, s, Q, hv, a, w, h => by cases hv
  | .label _, s, Q, hv, a, w, h => by cases hv
  | .goto _, s, Q, hv, a, w, h => by cases hv
  | .refuse _, s, Q, hv, a, w, h => by cases hv

/-! ### The contract of a function, out of its code -/
def absRes (P : Program) (s : St) : List ResultVar → Option (List AV)
  | [] => some []
  | .tmp t :: l => match absRes P s l with
    | some vs => some (ev s (.tmp t) :: vs)
    | none => none
  | .cell t ty :: l => match absLoad P s.σ ty (ev s (.tmp t)) with
    | some v => match absRes P s l with
      | some vs => some (v :: vs)
      | none => none
    | none => none
def packRes : List AV → AV
  | [v] => v
  | vs => .tup vs

def resVar (tmps : Array Value) : ResultVar → Sem Value
  | .tmp t => pure (tmps.getD t undef)
  | .cell a t => do loadVar t (← asAddr (tmps.getD a undef))

theorem absRes_sound {P : Program} {rd : RD} {φ : Phi} {O : Nat → Prop} {w0 w : World} {s : St} {a : Act} (h : Rel rd φ O w0 s a w) : ∀ {l : List ResultVar} {vs : List AV}, absRes P s l = some vs →
    ∃ us, PW rd φ vs us ∧ (l.mapM (resVar a.tmps)).run P w = Result.ok us w
  | [], vs, he => by cases he; exact ⟨[], PW.nil, by simp⟩
  | .tmp t :: l, vs, he => by
    simp only [absRes] at he
    split at he
    · rename_i vs' hl
      cases he
      obtain ⟨us, h1, h2⟩ := absRes_sound h hl
      have hv := h.ev (.tmp t)
      refine ⟨a.tmps.getD t undef :: us, ⟨by simp [h1.1], fun j c hc => ?_⟩, ?_⟩
      · cases j with
        | zero => cases hc; exact ⟨_, rfl, hv⟩
        | succ j => simpa using h1.2 j c (by simpa using hc)
      · simp only [List.mapM_cons, Sem.run_bind, resVar, Sem.run_pure, Result.andThen_ok, h2]
    · cases he
  | .cell t ty :: l, vs, he => by
    simp only [absRes] at he
    split at he
    · rename_i v hv
      split at he
      · rename_i vs' hl
        cases he
        obtain ⟨us, h1, h2⟩ := absRes_sound h hl
        have hx := h.ev (.tmp t)
        obtain ⟨cv, e1, e2⟩ := load_val h.heap hx hv
        have e3 : (resVar a.tmps (.cell t ty)).run P w = .ok cv w := by
          rw [show a.eval (.tmp t) = a.tmps.getD t undef from rfl] at e1
          cases hp : a.tmps.getD t undef with
          | pointer A =>
            rw [hp] at e1
            cases A with
            | none => simp [Instr.loadAt, Instr.sureAddr] at e1
            | some A =>
              simp only [Instr.loadAt, Instr.sureAddr, Sem.run_bind, Sem.run_pure, Result.andThen_ok] at e1
              simp only [resVar, hp, asAddr, Sem.run_bind, Sem.run_pure, Result.andThen_ok, e1]
          | _ => rw [hp] at e1; simp [Instr.loadAt, Instr.sureAddr] at e1
        refine ⟨cv :: us, ⟨by simp [h1.1], fun j c hc => ?_⟩, ?_⟩
        · cases j with
          | zero => cases hc; exact ⟨_, rfl, e2⟩
          | succ j => simpa using h1.2 j c (by simpa using hc)
        · simp only [List.mapM_cons, Sem.run_bind, e3, Result.andThen_ok, h2, Sem.run_pure]
      · cases he
    · cases he

theorem results_sound {P : Program} {rd : RD} {φ : Phi} {O : Nat → Prop} {w0 w : World} {s : St} {a : Act} (h : Rel rd φ O w0 s a w) {fn : Func} {vs : List AV} (he : absRes P s fn.results.toList = some vs) :
    ∃ v, (results fn a.tmps).run P w = .ok v w ∧ VRel rd φ (packRes vs) v := by
  obtain ⟨us, h1, h2⟩ := absRes_sound h he
  have h3 : (fn.results.mapM (resVar a.tmps)).run P w = .ok us.toArray w := by
    rw [Array.mapM_eq_mapM_toList]
    simp [h2]
  have h4 : results fn a.tmps = (do
    let vs ← fn.results.mapM (resVar a.tmps)
    pure (if h : vs.size = 1 then vs[0] else .tuple vs)) := rfl
  rw [h4, Sem.run_bind, h3]
  refine ⟨_, rfl, ?_⟩
  split
  · rename_i hs
    have hs' : us.length = 1 := by simpa using hs
    match us, vs, h1, hs' with
    | [u], [x], h1, _ =>
      obtain ⟨v', hv', hr⟩ := h1.2 0 x rfl
      cases hv'
      exact hr
    | [u], [], h1, _ => exact absurd h1.1 (by simp)
    | [u], _ :: _ :: _, h1, _ => exact absurd h1.1 (by simp)
  · rename_i hs
    have hs' : us.length ≠ 1 := by simpa using hs
    have hp : packRes vs = .tup vs := by
      match vs, h1 with
      | [], _ => rfl
      | [x], h1 => exact absurd (h1.1.symm.trans rfl) hs'
      | _ :: _ :: _, _ => rfl
    rw [hp]
    exact PW.tup h1

end Go.Proofs.Ytbamamgeamnmnaa.E
