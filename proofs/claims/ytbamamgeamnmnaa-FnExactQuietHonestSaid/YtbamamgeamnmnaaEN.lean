/-
  E, part N: regions that draw their order: whatever order is drawn, it comes to what one order comes to.
-/
import Derived.Test.YtbamamgeamnmnaaEG
import Derived.Orders
namespace Go.Proofs.Ytbamamgeamnmnaa.E
open Go Go.RowKit
set_option linter.unusedVariables false

/-- The same state, as far as it can be asked. -/
def Eqv (s s' : St) : Prop := s.n = s'.n ∧ s.σ = s'.σ ∧ s.G = s'.G ∧ ∀ t, lookA s.tm t = lookA s'.tm t
theorem Eqv.refl (s : St) : Eqv s s := ⟨rfl, rfl, rfl, fun _ => rfl⟩
theorem Eqv.symm {s s' : St} (h : Eqv s s') : Eqv s' s := ⟨h.1.symm, h.2.1.symm, h.2.2.1.symm, fun t => (h.2.2.2 t).symm⟩
theorem Eqv.trans {s s' s'' : St} (h : Eqv s s') (k : Eqv s' s'') : Eqv s s'' := ⟨h.1.trans k.1, h.2.1.trans k.2.1, h.2.2.1.trans k.2.2.1, fun t => (h.2.2.2 t).trans (k.2.2.2 t)⟩
theorem Eqv.ev {s s' : St} (h : Eqv s s') : ev s = ev s' := by
  funext x
  cases x with
  | tmp t => simp only [E.ev, h.2.2.2 t]
  | _ => rfl
def upto (K : St → Prop) (s : St) : Prop := ∃ t, Eqv t s ∧ K t
theorem put_eqv {s s' : St} {d : Option Nat} {v : AV} {σ : Sig} {b : Bool} {K : St → Prop} (h : Eqv s s') (hk : put s d v σ b K) : put s' d v σ b (upto K) := by
  obtain ⟨n, tm, σ0, G⟩ := s
  obtain ⟨n', tm', σ1, G'⟩ := s'
  obtain ⟨h1, h2, h3, h4⟩ := h
  simp only at h1 h2 h3 h4
  subst h1; subst h2; subst h3
  unfold put at hk ⊢
  cases d with
  | none => exact ⟨⟨n, tm, σ, bmp b G⟩, ⟨rfl, rfl, rfl, h4⟩, hk⟩
  | some d =>
    simp only at hk ⊢
    split at hk
    · exact ⟨⟨n, (d, v) :: tm, σ, bmp b G⟩, ⟨rfl, rfl, rfl, fun t => by simp only [lookA_cons, h4]⟩, hk⟩
    · cases hk
theorem vcOp_eqv {P : Program} {o : Oper} {s s' : St} {K : St → Prop} (h : Eqv s s') (hk : vcOp P o s K) : vcOp P o s' (upto K) := by
  have he := h.ev
  have plain : onSome (absOp P (o.dst.getD 0) s.G (ev s) s.σ o.op) (PutK s o.dst (bumps o.op) K) → onSome (absOp P (o.dst.getD 0) s'.G (ev s') s'.σ o.op) (PutK s' o.dst (bumps o.op) (upto K)) := by
    intro hk
    rw [← he, ← h.2.1, ← h.2.2.1]
    obtain ⟨x, hx, hk⟩ := onSome_elim hk
    exact onSome_intro hx (put_eqv h hk)
  unfold vcOp at hk ⊢
  split at hk
  · split at hk
    · unfold vcCall at hk ⊢
      rw [← he, ← h.2.1]
      obtain ⟨x, hx, res, rf, h1, h2, h3⟩ := onSome_elim hk
      refine onSome_intro hx ⟨res, rf, h1, h2, ?_⟩
      rw [← h.2.2.1]
      exact put_eqv h h3
    · exact plain hk
  · exact plain hk
theorem vcStep_eqv {P : Program} {ops : Array Oper} {o : Oper} {s s' : St} {K : St → Prop} (h : Eqv s s') (hk : vcStep P ops o s K) : vcStep P ops o s' (upto K) := by
  unfold vcStep at hk ⊢
  split at hk
  · exact vcOp_eqv h hk
  · split at hk
    · cases hk
    · rename_i t ht
      rw [← h.2.2.2 t, ← h.2.1]
      split at hk
      · rename_i b hb
        cases b <;> rename_i want _ _ _ <;> cases want <;> simp only [Br_true, Br_false] at hk ⊢ <;> first | exact vcOp_eqv h hk | exact put_eqv h hk
      · exact put_eqv h hk
      · cases hk

/-- Operations that make nothing and change nothing. -/
def pureK : Op → Bool
  | .move _ | .assign _ | .pick .. | .load .. | .fieldAddr .. | .extract .. | .nilCheck _ | .binOp .. | .unOp .. | .convert .. | .indexAddr .. => true
  | .call c => match c.callee with
    | .builtin .len => true
    | _ => false
  | _ => false
def pureV (P : Program) (σ : Sig) (ev : Operand → AV) (op : Op) : Option AV := (absOp P 0 0 ev σ op).map (·.1)
theorem absOp_pure {P : Program} {d G : Nat} {ev : Operand → AV} {σ : Sig} {op : Op} (h : pureK op = true) (hs : ∀ t a x, op ≠ .store t a x) : absOp P d G ev σ op = (pureV P σ ev op).map fun v => (v, σ) := by
  unfold pureV
  cases op <;> simp [pureK] at h <;> simp [absOp, Option.map_map, Function.comp_def]
  rename_i c
  split at h
  · rename_i hc
    rw [hc]
    split
    · simp [Option.map_map, Function.comp_def]
    · rfl
  · cases h
theorem pureK_bumps {op : Op} (h : pureK op = true) : bumps op = false := by cases op <;> first | rfl | cases h
theorem absOp_congr {P : Program} {d G : Nat} {e e' : Operand → AV} {σ : Sig} {op : Op} (h : ∀ x ∈ op.operands, e x = e' x) : absOp P d G e σ op = absOp P d G e' σ op := by
  cases op <;> simp only [Op.operands] at h <;> simp only [absOp]
  case call c =>
    split
    · rename_i x t h1 h2 h3
      have hx : x ∈ c.args := by rw [← Array.mem_toList_iff, h2]; simp
      rw [h x (by simp [Call.operands, hx])]
    · rfl
  all_goals (first | rfl | (simp_all; done))

theorem vcOp_pure {P : Program} {o : Oper} {s : St} {K : St → Prop} (h : pureK o.op = true) : vcOp P o s K = onSome (pureV P s.σ (ev s) o.op) fun v => put s o.dst v s.σ false K := by
  have plain : onSome (absOp P (o.dst.getD 0) s.G (ev s) s.σ o.op) (PutK s o.dst (bumps o.op) K) = onSome (pureV P s.σ (ev s) o.op) fun v => put s o.dst v s.σ false K := by
    rw [absOp_pure h (fun t a x e => by rw [e] at h; cases h), pureK_bumps h]
    cases pureV P s.σ (ev s) o.op <;> rfl
  unfold vcOp
  split
  · rename_i c hc
    split
    · rename_i n hcal
      rw [hc] at h
      simp [pureK, hcal] at h
    · exact plain
  · exact plain
def stepV (P : Program) (ops : Array Oper) (σ : Sig) (e : Operand → AV) (o : Oper) : Option AV := match o.guard with
  | none => pureV P σ e o.op
  | some (j, want) => match slotOf ops j with
    | none => none
    | some t => match e (.tmp t) with
      | .sc (.bool b) => match b == want with
        | true => pureV P σ e o.op
        | false => some (.tup [])
      | .tup [] => some (.tup [])
      | _ => none
theorem vcStep_pure {P : Program} {ops : Array Oper} {o : Oper} {s : St} {K : St → Prop} (h : pureK o.op = true) : vcStep P ops o s K = onSome (stepV P ops s.σ (ev s) o) fun v => put s o.dst v s.σ false K := by
  unfold vcStep stepV
  cases hg : o.guard with
  | none => exact vcOp_pure h
  | some jw =>
    obtain ⟨j, want⟩ := jw
    simp only
    cases hs : slotOf ops j with
    | none => rfl
    | some t =>
      simp only [ev]
      cases hl : lookA s.tm t with
      | none => rfl
      | some v =>
        cases v with
        | sc v =>
          cases v with
          | bool b => cases b <;> cases want <;> first | exact vcOp_pure h | rfl
          | _ => rfl
        | tup vs => cases vs <;> rfl
        | _ => rfl
theorem stepV_congr {P : Program} {ops : Array Oper} {σ : Sig} {e e' : Operand → AV} {o : Oper} (ht : ∀ t ∈ o.looksAt ops, e (.tmp t) = e' (.tmp t)) (hn : ∀ x, (∀ t, x ≠ .tmp t) → e x = e' x) : stepV P ops σ e o = stepV P ops σ e' o := by
  have hop : pureV P σ e o.op = pureV P σ e' o.op := by
    unfold pureV
    rw [absOp_congr fun x hx => ?_]
    by_cases hx2 : ∃ t, x = .tmp t
    · obtain ⟨t, rfl⟩ := hx2
      exact ht t (List.mem_append_left _ (List.mem_filterMap.2 ⟨.tmp t, by simpa using hx, rfl⟩))
    · exact hn x fun t e => hx2 ⟨t, e⟩
  unfold stepV
  split
  · exact hop
  · rename_i j want hg
    cases hs : slotOf ops j with
    | none => rfl
    | some t =>
      have : e (.tmp t) = e' (.tmp t) := ht t (by
        have hs' : (ops[j]?).bind (·.dst) = some t := by
          unfold slotOf at hs
          split at hs
          · rename_i hx; rw [hx]; exact hs
          · cases hs
        simp [Oper.looksAt, hg, hs'])
      simp only [this, hop]
/-- Rows keep their contents. -/
def Pres (σ σ' : Sig) : Prop := ∀ r g p row, rowAt σ r g p = some row → ∃ row', rowAt σ' r g p = some row' ∧ row'.sz = row.sz ∧ row'.es = row.es
theorem Pres.refl (σ : Sig) : Pres σ σ := fun r g p row h => ⟨row, h, rfl, rfl⟩
theorem load_pres {P : Program} {σ σ' : Sig} (h : Pres σ σ') {t : Nat} {a v : AV} (ha : absLoad P σ t a = some v) : absLoad P σ' t a = some v := by
  unfold absLoad at ha ⊢
  obtain ⟨i, hi, ha1⟩ := Option.bind_eq_some_iff.1 ha
  rw [hi, Option.bind_some]
  split at ha1
  · obtain ⟨row, hr, ha2⟩ := Option.bind_eq_some_iff.1 ha1
    obtain ⟨row', hr', h1, h2⟩ := h _ _ _ _ hr
    rw [hr', Option.bind_some, h1, h2]
    exact ha2
  · exact ha1
  · cases ha1
theorem index_pres {P : Program} {σ σ' : Sig} (h : Pres σ σ') {t : Nat} {a x v : AV} (ha : absIndexAddr P σ t a x = some v) : absIndexAddr P σ' t a x = some v := by
  unfold absIndexAddr at ha ⊢
  obtain ⟨i, hi, ha1⟩ := Option.bind_eq_some_iff.1 ha
  rw [hi, Option.bind_some]
  obtain ⟨e, he, ha2⟩ := Option.bind_eq_some_iff.1 ha1
  rw [he, Option.bind_some]
  split at ha2
  · split at ha2
    · exact ha2
    · split at ha2
      · rename_i hb
        obtain ⟨row, hr, ha3⟩ := Option.bind_eq_some_iff.1 ha2
        obtain ⟨row', hr', h1, h2⟩ := h _ _ _ _ hr
        simp only [hb, hr', Option.bind_some]
        exact ha3
      · cases ha2
    · exact ha2
    · exact ha2
    · cases ha2
  · cases ha2
theorem pureV_pres {P : Program} {σ σ' : Sig} (h : Pres σ σ') {e : Operand → AV} {op : Op} (hp : pureK op = true) {v : AV} (hv : pureV P σ e op = some v) : pureV P σ' e op = some v := by
  unfold pureV at hv ⊢
  cases op <;> simp [pureK] at hp <;> simp only [absOp, Option.map_map, Option.map_eq_some_iff, Function.comp] at hv ⊢
  case load t a => obtain ⟨a, h1, h2⟩ := hv; exact ⟨a, load_pres h h1, h2⟩
  case indexAddr t x y => obtain ⟨a, h1, h2⟩ := hv; exact ⟨a, index_pres h h1, h2⟩
  case call c =>
    split at hp
    · rename_i hc
      rw [hc] at hv ⊢
      obtain ⟨a, h1, h2⟩ := hv
      refine ⟨(a.1, σ'), ?_, h2⟩
      split at h1
      · simp only [Option.map_eq_some_iff] at h1 ⊢
        obtain ⟨u, h3, h4⟩ := h1
        exact ⟨u, h3, by rw [← h4]⟩
      · cases h1
    · cases hp
  all_goals first | exact hv | (obtain ⟨a, h1, h2⟩ := hv; cases h1; exact ⟨_, rfl, h2⟩)

theorem Pres.trans {σ σ' σ'' : Sig} (h : Pres σ σ') (k : Pres σ' σ'') : Pres σ σ'' := fun r g p row hr => by
  obtain ⟨row', h1, h2, h3⟩ := h r g p row hr
  obtain ⟨row'', k1, k2, k3⟩ := k r g p row' h1
  exact ⟨row'', k1, k2.trans h2, k3.trans h3⟩
theorem Pres.new {σ : Sig} {d : Nat} (h : lookA σ d = none) (x : Nat × Frag) : Pres σ (setA σ d x) := fun r g p row hr => by
  refine ⟨row, ?_, rfl, rfl⟩
  obtain ⟨G, f⟩ := x
  rw [rowAt_setA, if_neg]
  · exact hr
  · rintro rfl
    unfold rowAt at hr
    rw [h] at hr
    cases hr
theorem Pres.frz {σ : Sig} {r g : Nat} {p : List Nat} {f : Frag} {row : Row} (hl : lookA σ r = some (g, f)) (hf : f p = some row) : Pres σ (setA σ r (g, fset f p ⟨row.sz, row.es, row.fl, true⟩)) := fun r2 g2 p2 row2 hr => by
  rw [rowAt_setA]
  by_cases hd : r2 = r
  · subst hd
    unfold rowAt at hr
    rw [hl] at hr
    simp only at hr
    split at hr
    · rename_i hg
      subst hg
      simp only [if_true, fset]
      by_cases hp : p2 = p
      · subst hp
        rw [hf] at hr
        cases hr
        simp
      · rw [if_neg hp]
        exact ⟨row2, hr, rfl, rfl⟩
    · cases hr
  · rw [if_neg hd]
    exact ⟨row2, hr, rfl, rfl⟩
theorem frzC_pres {σ σ' : Sig} {c c' : AV} (h : frzC σ c = some (σ', c')) : Pres σ σ' := by
  cases c with
  | blk r g p sz off len =>
    simp only [frzC] at h
    obtain ⟨⟨g', f⟩, hl, h1⟩ := Option.bind_eq_some_iff.1 h
    simp only at h1
    split at h1
    · rename_i hg
      have hg := Nat.eq_of_beq_eq_true hg
      subst hg
      obtain ⟨row, hrow, h2⟩ := Option.bind_eq_some_iff.1 h1
      split at h2
      · unfold ifLe at h2
        split at h2
        · split at h2
          · cases h2; exact Pres.refl _
          · cases h2; exact Pres.frz hl hrow
        · cases h2
      · cases h2
    · cases h1
  | sc v => cases h; exact Pres.refl _
  | nilS => cases h; exact Pres.refl _
  | ro sz es => cases h; exact Pres.refl _
  | _ => cases h
theorem frzL_pres : ∀ {cs cs' : List AV} {σ σ' : Sig}, frzL σ cs = some (σ', cs') → Pres σ σ'
  | [], cs', σ, σ', h => by cases h; exact Pres.refl _
  | c :: cs, cs', σ, σ', h => by
    simp only [frzL] at h
    obtain ⟨⟨σ1, c1⟩, h1, h2⟩ := Option.bind_eq_some_iff.1 h
    obtain ⟨⟨σ2, cs2⟩, h3, h4⟩ := Option.map_eq_some_iff.1 h2
    cases h4
    exact (frzC_pres h1).trans (frzL_pres h3)
theorem frz_pres {σ σ' : Sig} {c c' : AV} (h : frz σ c = some (σ', c')) : Pres σ σ' := by
  cases c with
  | agg cs =>
    obtain ⟨⟨σ1, cs1⟩, h1, h2⟩ := Option.map_eq_some_iff.1 h
    cases h2
    exact frzL_pres h1
  | _ => simp only [frz] at h; exact frzC_pres h
theorem frzAll_pres : ∀ {cs cs' : List AV} {σ σ' : Sig}, frzAll σ cs = some (σ', cs') → Pres σ σ'
  | [], cs', σ, σ', h => by cases h; exact Pres.refl _
  | c :: cs, cs', σ, σ', h => by
    simp only [frzAll] at h
    obtain ⟨⟨σ1, c1⟩, h1, h2⟩ := Option.bind_eq_some_iff.1 h
    obtain ⟨⟨σ2, cs2⟩, h3, h4⟩ := Option.map_eq_some_iff.1 h2
    cases h4
    exact (frz_pres h1).trans (frzAll_pres h3)

/-- Operations that make something new. -/
def effK : Op → Bool
  | .alloc _ | .box .. | .makeSlice .. => true
  | .call c => match c.callee with
    | .value (.func _) => true
    | _ => false
  | _ => false
theorem absOp_new {P : Program} {d G : Nat} {e : Operand → AV} {σ σ' : Sig} {op : Op} {v : AV} (hk : effK op = true) (hd : lookA σ d = none) (h : absOp P d G e σ op = some (v, σ')) : Pres σ σ' := by
  cases op <;> simp [effK] at hk <;> simp only [absOp] at h
  case alloc t =>
    unfold absAlloc at h
    obtain ⟨i, hi, h1⟩ := Option.bind_eq_some_iff.1 h
    obtain ⟨z, hz, h2⟩ := Option.bind_eq_some_iff.1 h1
    split at h2
    · cases h2; exact Pres.new hd _
    · cases h2
  case box t x =>
    unfold absBox at h
    obtain ⟨i, hi, h1⟩ := Option.bind_eq_some_iff.1 h
    split at h1
    · cases h1; exact Pres.new hd _
    · cases h1
  case makeSlice t l c =>
    unfold absMake at h
    obtain ⟨i, hi, h1⟩ := Option.bind_eq_some_iff.1 h
    obtain ⟨e, he, h2⟩ := Option.bind_eq_some_iff.1 h1
    obtain ⟨z, hz, h3⟩ := Option.bind_eq_some_iff.1 h2
    split at h3
    · split at h3
      · obtain ⟨_, h4⟩ := ifP_some h3
        cases h4
        exact Pres.new hd _
      · cases h3
    · cases h3
  case call c =>
    split at hk
    · rename_i n hc
      rw [hc] at h
      cases h
    · cases hk
theorem addF_pres {σ : Sig} {d G : Nat} (h : lookA σ d = none) (rf : List (List Nat × Row)) : Pres σ (addF σ d G rf) := by
  cases rf with
  | nil => exact Pres.refl _
  | cons x l => exact Pres.new h _
theorem lookA_frzC {σ σ' : Sig} {c c' : AV} (h : frzC σ c = some (σ', c')) {d : Nat} (hd : lookA σ d = none) : lookA σ' d = none := by
  cases c with
  | blk r g p sz off len =>
    simp only [frzC] at h
    obtain ⟨⟨g', f⟩, hl, h1⟩ := Option.bind_eq_some_iff.1 h
    simp only at h1
    split at h1
    · obtain ⟨row, hrow, h2⟩ := Option.bind_eq_some_iff.1 h1
      split at h2
      · unfold ifLe at h2
        split at h2
        · split at h2
          · cases h2; exact hd
          · cases h2
            rw [lookA_setA, if_neg]
            · exact hd
            · rintro rfl
              rw [hd] at hl
              cases hl
        · cases h2
      · cases h2
    · cases h1
  | sc v => cases h; exact hd
  | nilS => cases h; exact hd
  | ro sz es => cases h; exact hd
  | _ => cases h
theorem lookA_frzL : ∀ {cs cs' : List AV} {σ σ' : Sig}, frzL σ cs = some (σ', cs') → ∀ {d : Nat}, lookA σ d = none → lookA σ' d = none
  | [], cs', σ, σ', h, d, hd => by cases h; exact hd
  | c :: cs, cs', σ, σ', h, d, hd => by
    simp only [frzL] at h
    obtain ⟨⟨σ1, c1⟩, h1, h2⟩ := Option.bind_eq_some_iff.1 h
    obtain ⟨⟨σ2, cs2⟩, h3, h4⟩ := Option.map_eq_some_iff.1 h2
    cases h4
    exact lookA_frzL h3 (lookA_frzC h1 hd)
theorem lookA_frz {σ σ' : Sig} {c c' : AV} (h : frz σ c = some (σ', c')) {d : Nat} (hd : lookA σ d = none) : lookA σ' d = none := by
  cases c with
  | agg cs =>
    obtain ⟨⟨σ1, cs1⟩, h1, h2⟩ := Option.map_eq_some_iff.1 h
    cases h2
    exact lookA_frzL h1 hd
  | _ => simp only [frz] at h; exact lookA_frzC h hd
theorem lookA_frzAll : ∀ {cs cs' : List AV} {σ σ' : Sig}, frzAll σ cs = some (σ', cs') → ∀ {d : Nat}, lookA σ d = none → lookA σ' d = none
  | [], cs', σ, σ', h, d, hd => by cases h; exact hd
  | c :: cs, cs', σ, σ', h, d, hd => by
    simp only [frzAll] at h
    obtain ⟨⟨σ1, c1⟩, h1, h2⟩ := Option.bind_eq_some_iff.1 h
    obtain ⟨⟨σ2, cs2⟩, h3, h4⟩ := Option.map_eq_some_iff.1 h2
    cases h4
    exact lookA_frzAll h3 (lookA_frz h1 hd)

/-- What a step of a drawn region may do. -/
def StepTo (y : Oper) (s s' : St) : Prop := ∃ cy σ' G', s' = ⟨s.n, cy ++ s.tm, σ', G'⟩ ∧ ((cy = [] ∧ y.dst = none) ∨ ∃ t u, y.dst = some t ∧ cy = [(t, u)]) ∧ Pres s.σ σ'
/-- May an operation stand in a region that draws? -/
def DrawK (y : Oper) (s : St) : Prop := pureK y.op = true ∨ (effK y.op = true ∧ lookA s.σ (y.dst.getD 0) = none)
theorem put_to {y : Oper} {s : St} {v : AV} {σ : Sig} {b : Bool} {K : St → Prop} (hp : Pres s.σ σ) (h : put s y.dst v σ b K) : put s y.dst v σ b fun s' => K s' ∧ StepTo y s s' := by
  unfold put at h ⊢
  cases hd : y.dst with
  | none => rw [hd] at h; exact ⟨h, [], σ, _, rfl, .inl ⟨rfl, hd⟩, hp⟩
  | some d =>
    rw [hd] at h
    simp only at h ⊢
    split at h
    · exact ⟨h, [(d, v)], σ, _, rfl, .inr ⟨d, v, hd, rfl⟩, hp⟩
    · cases h
theorem vcOp_to {P : Program} {y : Oper} {s : St} {K : St → Prop} (hk : DrawK y s) (h : vcOp P y s K) : vcOp P y s fun s' => K s' ∧ StepTo y s s' := by
  rcases hk with hk | ⟨hk, hl⟩
  · rw [vcOp_pure hk] at h ⊢
    obtain ⟨v, hv, h1⟩ := onSome_elim h
    exact onSome_intro hv (put_to (Pres.refl _) h1)
  · have plain : onSome (absOp P (y.dst.getD 0) s.G (ev s) s.σ y.op) (PutK s y.dst (bumps y.op) K) → onSome (absOp P (y.dst.getD 0) s.G (ev s) s.σ y.op) (PutK s y.dst (bumps y.op) fun s' => K s' ∧ StepTo y s s') := by
      intro h
      obtain ⟨⟨v, σ'⟩, hv, h1⟩ := onSome_elim h
      exact onSome_intro hv (put_to (absOp_new hk hl hv) h1)
    unfold vcOp at h ⊢
    split at h
    · split at h
      · unfold vcCall at h ⊢
        obtain ⟨⟨σ1, as⟩, hx, res, rf, h1, h2, h3⟩ := onSome_elim h
        exact onSome_intro hx ⟨res, rf, h1, h2, put_to ((frzAll_pres hx).trans (addF_pres (lookA_frzAll hx hl) rf)) h3⟩
      · exact plain h
    · exact plain h
theorem vcStep_to {P : Program} {ops : Array Oper} {y : Oper} {s : St} {K : St → Prop} (hk : DrawK y s) (h : vcStep P ops y s K) : vcStep P ops y s fun s' => K s' ∧ StepTo y s s' := by
  unfold vcStep at h ⊢
  split at h
  · exact vcOp_to hk h
  · split at h
    · cases h
    · rename_i want _ _ t ht
      split at h
      · rename_i b hb
        cases b <;> cases want <;> simp only [Br_true, Br_false] at h ⊢ <;> first | exact vcOp_to hk h | exact put_to (Pres.refl _) h
      · exact put_to (Pres.refl _) h
      · cases h

/-- What a step comes to with one slot more known, told from the step without it. -/
def InsK (n d : Nat) (v : AV) (tm : List (Nat × AV)) (K : St → Prop) (s2 : St) : Prop := ∃ cy σ' G', s2 = ⟨n, cy ++ tm, σ', G'⟩ ∧ K ⟨n, cy ++ (d, v) :: tm, σ', G'⟩
theorem ev_ins {n d G : Nat} {v : AV} {tm : List (Nat × AV)} {σ : Sig} {x : Operand} (hx : x ≠ .tmp d) : ev ⟨n, (d, v) :: tm, σ, G⟩ x = ev ⟨n, tm, σ, G⟩ x := by
  cases x with
  | tmp t =>
    simp only [ev, lookA_cons]
    rw [if_neg (fun e => hx (by rw [e]))]
  | _ => rfl
theorem put_ins {n d G : Nat} {v u : AV} {tm : List (Nat × AV)} {σ0 σ : Sig} {dst : Option Nat} {b : Bool} {K : St → Prop} (h : put ⟨n, (d, v) :: tm, σ0, G⟩ dst u σ b K) : put ⟨n, tm, σ0, G⟩ dst u σ b (InsK n d v tm K) := by
  unfold put at h ⊢
  cases dst with
  | none => exact ⟨[], σ, _, rfl, h⟩
  | some t =>
    simp only at h ⊢
    split at h
    · exact ⟨[(t, u)], σ, _, rfl, h⟩
    · cases h
theorem vcOp_ins {P : Program} {y : Oper} {n d G : Nat} {v : AV} {tm : List (Nat × AV)} {σ : Sig} {K : St → Prop} (hy : ∀ x ∈ y.op.operands, x ≠ .tmp d) (h : vcOp P y ⟨n, (d, v) :: tm, σ, G⟩ K) : vcOp P y ⟨n, tm, σ, G⟩ (InsK n d v tm K) := by
  have plain : onSome (absOp P (y.dst.getD 0) G (ev ⟨n, (d, v) :: tm, σ, G⟩) σ y.op) (PutK ⟨n, (d, v) :: tm, σ, G⟩ y.dst (bumps y.op) K) → onSome (absOp P (y.dst.getD 0) G (ev ⟨n, tm, σ, G⟩) σ y.op) (PutK ⟨n, tm, σ, G⟩ y.dst (bumps y.op) (InsK n d v tm K)) := by
    intro h
    rw [absOp_congr (e' := ev ⟨n, tm, σ, G⟩) fun x hx => ev_ins (hy x hx)] at h
    obtain ⟨x, hx, h1⟩ := onSome_elim h
    exact onSome_intro hx (put_ins h1)
  unfold vcOp at h ⊢
  split at h
  · rename_i c hc
    split at h
    · unfold vcCall at h ⊢
      have ha : c.args.toList.map (ev ⟨n, (d, v) :: tm, σ, G⟩) = c.args.toList.map (ev ⟨n, tm, σ, G⟩) := by
        apply List.map_congr_left
        intro x hx
        refine ev_ins (hy x ?_)
        rw [hc]
        simp only [Op.operands, Call.operands]
        exact Array.mem_append_right _ (by simpa using hx)
      rw [ha] at h
      obtain ⟨⟨σ1, as⟩, hx, res, rf, h1, h2, h3⟩ := onSome_elim h
      exact onSome_intro hx ⟨res, rf, h1, h2, put_ins h3⟩
    · exact plain h
  · exact plain h
theorem vcStep_ins {P : Program} {ops : Array Oper} {y : Oper} {n d G : Nat} {v : AV} {tm : List (Nat × AV)} {σ : Sig} {K : St → Prop} (hd : d ∉ y.looksAt ops) (h : vcStep P ops y ⟨n, (d, v) :: tm, σ, G⟩ K) : vcStep P ops y ⟨n, tm, σ, G⟩ (InsK n d v tm K) := by
  have hy : ∀ x ∈ y.op.operands, x ≠ .tmp d := by
    rintro x hx rfl
    exact hd (List.mem_append_left _ (List.mem_filterMap.2 ⟨.tmp d, by simpa using hx, rfl⟩))
  unfold vcStep at h ⊢
  split at h
  · exact vcOp_ins hy h
  · rename_i j want hg
    split at h
    · cases h
    · rename_i t ht
      have hne : d ≠ t := by
        rintro rfl
        have hs' : (ops[j]?).bind (·.dst) = some d := by
          unfold slotOf at ht
          split at ht
          · rename_i hx; rw [hx]; exact ht
          · cases ht
        exact hd (by simp [Oper.looksAt, hg, hs'])
      simp only [lookA_cons, if_neg hne] at h
      split at h
      · rename_i b hb
        simp only [hb]
        cases b <;> cases want <;> simp only [Br_true, Br_false] at h ⊢ <;> first | exact vcOp_ins hy h | exact put_ins h
      · rename_i hb
        simp only [hb]
        exact put_ins h
      · cases h

theorem stepV_pres {P : Program} {ops : Array Oper} {σ σ' : Sig} (h : Pres σ σ') {e : Operand → AV} {o : Oper} (hp : pureK o.op = true) {v : AV} (hv : stepV P ops σ e o = some v) : stepV P ops σ' e o = some v := by
  unfold stepV at hv ⊢
  cases hg : o.guard with
  | none => rw [hg] at hv; exact pureV_pres h hp hv
  | some jw =>
    obtain ⟨j, want⟩ := jw
    rw [hg] at hv
    simp only at hv ⊢
    split at hv
    · cases hv
    · split at hv
      · rename_i b hb
        split at hv
        · exact pureV_pres h hp hv
        · exact hv
      · exact hv
      · cases hv
/-- Behind a step that is apart a pure one tells what it told. -/
theorem stepV_behind {P : Program} {ops : Array Oper} {x y : Oper} (hx : pureK x.op = true) (hd : ∀ d, y.dst = some d → d ∉ x.looksAt ops) {s s2 : St} (hs : StepTo y s s2) {v : AV} (hv : stepV P ops s.σ (ev s) x = some v) : stepV P ops s2.σ (ev s2) x = some v := by
  obtain ⟨cy, σ', G', rfl, hcy, hp⟩ := hs
  refine stepV_pres hp hx ?_
  rw [← hv]
  refine stepV_congr (fun t ht => ?_) (fun z hz => ?_)
  · rcases hcy with ⟨rfl, _⟩ | ⟨t', u, hy, rfl⟩
    · rfl
    · simp only [ev, List.cons_append, List.nil_append, lookA_cons]
      rw [if_neg]
      rintro rfl
      exact hd _ hy ht
  · cases z with
    | tmp t => exact absurd rfl (hz t)
    | _ => rfl
theorem vcPut_mono {s : St} {d : Option Nat} {v : AV} {σ : Sig} {b : Bool} {K1 K2 : St → Prop} (hk : ∀ s, K1 s → K2 s) (h : put s d v σ b K1) : put s d v σ b K2 := by
  unfold put at h ⊢
  cases d with
  | none => exact hk _ h
  | some d =>
    simp only at h ⊢
    split at h
    · exact hk _ h
    · cases h
theorem vcOp_mono {P : Program} {y : Oper} {s : St} {K1 K2 : St → Prop} (hk : ∀ s, K1 s → K2 s) (h : vcOp P y s K1) : vcOp P y s K2 := by
  unfold vcOp at h ⊢
  split at h
  · split at h
    · unfold vcCall at h ⊢
      obtain ⟨x, hx, res, rf, h1, h2, h3⟩ := onSome_elim h
      exact onSome_intro hx ⟨res, rf, h1, h2, vcPut_mono hk h3⟩
    · obtain ⟨x, hx, h⟩ := onSome_elim h
      exact onSome_intro hx (vcPut_mono hk h)
  · obtain ⟨x, hx, h⟩ := onSome_elim h
    exact onSome_intro hx (vcPut_mono hk h)
theorem vcStep_mono {P : Program} {ops : Array Oper} {y : Oper} {s : St} {K1 K2 : St → Prop} (hk : ∀ s, K1 s → K2 s) (h : vcStep P ops y s K1) : vcStep P ops y s K2 := by
  unfold vcStep at h ⊢
  split at h
  · exact vcOp_mono hk h
  · split at h
    · cases h
    · rename_i want _ _ t ht
      split at h
      · rename_i b hb
        cases b <;> cases want <;> simp only [Br_true, Br_false] at h ⊢ <;> first | exact vcOp_mono hk h | exact vcPut_mono hk h
      · exact vcPut_mono hk h
      · cases h
/-- A pure step may as well be taken behind the next one. -/
theorem swap {P : Program} {ops : Array Oper} {x y : Oper} {s : St} {K : St → Prop} (hx : pureK x.op = true) (hap : x.apart ops y = true) (hy : DrawK y s) (h : vcStep P ops x s fun s1 => vcStep P ops y s1 K) :
    vcStep P ops y s fun s2 => vcStep P ops x s2 (upto K) := by
  obtain ⟨a1, a2, a3⟩ := Oper.apart_spec hap
  rw [vcStep_pure hx] at h
  obtain ⟨v, hv, h1⟩ := onSome_elim h
  obtain ⟨n, tm, σ, G⟩ := s
  have mono : ∀ {K1 K2 : St → Prop}, (∀ s, K1 s → K2 s) → vcStep P ops y ⟨n, tm, σ, G⟩ K1 → vcStep P ops y ⟨n, tm, σ, G⟩ K2 := fun hk h => vcStep_mono hk h
  unfold put at h1
  cases hdx : x.dst with
  | none =>
    rw [hdx] at h1
    have h1 : vcStep P ops y ⟨n, tm, σ, G⟩ K := h1
    refine mono ?_ (vcStep_to hy h1)
    rintro s2 ⟨hk, hs⟩
    rw [vcStep_pure hx]
    refine onSome_intro (stepV_behind hx a3 hs hv) ?_
    unfold put
    rw [hdx]
    exact ⟨s2, .refl _, hk⟩
  | some d =>
    rw [hdx] at h1
    simp only at h1
    split at h1
    · rename_i hb
      have h1 : vcStep P ops y ⟨n, (d, v) :: tm, σ, G⟩ K := h1
      refine mono ?_ (vcStep_to hy (vcStep_ins (a1 d hdx) h1))
      rintro s2 ⟨⟨cy, σ', G', rfl, hk⟩, hs⟩
      rw [vcStep_pure hx]
      refine onSome_intro (stepV_behind hx a3 hs hv) ?_
      unfold put
      rw [hdx]
      simp only [hb]
      refine ⟨⟨n, cy ++ (d, v) :: tm, σ', G'⟩, ⟨rfl, rfl, rfl, fun t => ?_⟩, hk⟩
      obtain ⟨cy2, σ2, G2, e, hcy, _⟩ := hs
      simp only [St.mk.injEq, true_and] at e
      have e1 := List.append_cancel_right e.1
      subst e1
      rcases hcy with ⟨rfl, _⟩ | ⟨t', u, hyd, rfl⟩
      · rfl
      · have hne : t' ≠ d := fun e => a2 d hdx (by rw [hyd, e])
        simp only [List.cons_append, List.nil_append, lookA_cons]
        by_cases h1 : t' = t
        · subst h1
          have h2 : ¬ d = t' := fun e => hne e.symm
          simp [h2]
        · simp [h1]
    · cases h1

/-- Whom an operation waits for, as a list. -/
def waitL (o : Oper) : List Nat := (o.after.toList.filter fun e => Region.binds .any e).map (·.on)
/-- THE CONDITION of a drawn region, along one order. -/
def vcD (P : Program) (ops : Array Oper) : List Nat → St → (St → Prop) → Prop
  | [], s, K => K s
  | i :: R, s, K => match ops[i]? with
    | none => False
    | some o => DrawK o s ∧ vcStep P ops o s fun s' => vcD P ops R s' K
theorem upto_upto {K : St → Prop} {s : St} (h : upto (upto K) s) : upto K s := by
  obtain ⟨t, e, u, e2, hk⟩ := h
  exact ⟨u, e2.trans e, hk⟩
theorem vcD_mono {P : Program} {ops : Array Oper} : ∀ {R : List Nat} {s : St} {K1 K2 : St → Prop}, (∀ s, K1 s → K2 s) → vcD P ops R s K1 → vcD P ops R s K2
  | [], s, K1, K2, hk, h => hk _ h
  | i :: R, s, K1, K2, hk, h => by
    unfold vcD at h ⊢
    split at h
    · cases h
    · exact ⟨h.1, vcStep_mono (fun s' hs => vcD_mono hk hs) h.2⟩
theorem vcD_eqv {P : Program} {ops : Array Oper} : ∀ {R : List Nat} {s s' : St} {K : St → Prop}, Eqv s s' → vcD P ops R s K → vcD P ops R s' (upto K)
  | [], s, s', K, e, h => ⟨s, e, h⟩
  | i :: R, s, s', K, e, h => by
    unfold vcD at h ⊢
    split at h
    · cases h
    · refine ⟨?_, vcStep_mono (fun s2 hs => ?_) (vcStep_eqv e h.2)⟩
      · have := h.1
        unfold DrawK at this ⊢
        rwa [← e.2.1]
      · obtain ⟨t, e2, ht⟩ := hs
        exact vcD_eqv e2 ht
theorem put_same {s : St} {d : Option Nat} {v : AV} {K : St → Prop} (h : put s d v s.σ false K) : ∃ s1, K s1 ∧ s1.σ = s.σ := by
  unfold put at h
  cases d with
  | none => exact ⟨_, h, rfl⟩
  | some d =>
    simp only at h
    split at h
    · exact ⟨_, h, rfl⟩
    · cases h
/-- What is drawn next is moved to the front. -/
theorem vcD_front {P : Program} {ops : Array Oper} {i : Nat} {o : Oper} (hi : ops[i]? = some o) : ∀ {R1 R2 : List Nat} {s : St} {K : St → Prop},
    (∀ k ∈ R1, ∀ x, ops[k]? = some x → pureK x.op = true ∧ x.apart ops o = true) → vcD P ops (R1 ++ i :: R2) s K → DrawK o s ∧ vcStep P ops o s fun s' => vcD P ops (R1 ++ R2) s' (upto K)
  | [], R2, s, K, _, h => by
    rw [List.nil_append] at h
    unfold vcD at h
    rw [hi] at h
    exact ⟨h.1, vcStep_mono (fun s' hs => vcD_mono (fun s hk => ⟨s, .refl s, hk⟩) hs) h.2⟩
  | k :: R1, R2, s, K, ha, h => by
    rw [List.cons_append] at h
    unfold vcD at h
    split at h
    · cases h
    · rename_i x hx
      obtain ⟨hp, hap⟩ := ha k (by simp) x hx
      have h1 := vcStep_mono (fun s' hs => vcD_front hi (fun k hk => ha k (by simp [hk])) hs) h.2
      have hd : DrawK o s := by
        have h2 := h1
        rw [vcStep_pure hp] at h2
        obtain ⟨v, hv, h3⟩ := onSome_elim h2
        obtain ⟨s1, ⟨h4, _⟩, h5⟩ := put_same h3
        unfold DrawK at h4 ⊢
        rwa [← h5]
      refine ⟨hd, ?_⟩
      have h2 := swap hp hap hd (vcStep_mono (fun s' hs => hs.2) h1)
      refine vcStep_mono (fun s2 hs => ?_) h2
      rw [List.cons_append]
      unfold vcD
      rw [hx]
      refine ⟨.inl hp, vcStep_mono (fun s3 hs3 => ?_) hs⟩
      obtain ⟨t, e, ht⟩ := hs3
      exact vcD_mono (fun _ h => upto_upto h) (vcD_eqv e ht)

/-! ### All orders -/
section
variable {P : Program} {ops : Array Oper}
/-- Whom an operation waits for. -/
def waits (o : Oper) (k : Nat) : Prop := ∃ e ∈ o.after, Region.binds .any e = true ∧ e.on = k
theorem waitL_iff {o : Oper} {k : Nat} : k ∈ waitL o ↔ waits o k := by
  unfold waitL waits
  simp only [List.mem_map, List.mem_filter, Array.mem_toList_iff]
  constructor
  · rintro ⟨e, ⟨h1, h2⟩, h3⟩; exact ⟨e, h1, h2, h3⟩
  · rintro ⟨e, h1, h2, h3⟩; exact ⟨e, ⟨h1, h2⟩, h3⟩
structure Static (ops : Array Oper) (A : Nat → List Nat) : Prop where
  less : ∀ i o k, ops[i]? = some o → waits o k → k < i
  anc : ∀ i k, k ∈ A i → ∃ o j, ops[i]? = some o ∧ waits o j ∧ (j = k ∨ k ∈ A j)
/-- An order as one may go by. -/
def OkPair (ops : Array Oper) (A : Nat → List Nat) (k i : Nat) : Prop :=
  k ≠ i ∧ (∀ x, ops[k]? = some x → ¬ waits x i) ∧ (k ∈ A i ∨ ∀ x o, ops[k]? = some x → ops[i]? = some o → pureK x.op = true ∧ x.apart ops o = true)
def Closed (ops : Array Oper) (L : Array Bool) : Prop := ∀ j o k, L.getD j false = true → ops[j]? = some o → waits o k → L.getD k false = true
theorem anc_listed {A : Nat → List Nat} (hs : Static ops A) {L : Array Bool} (hc : Closed ops L) : ∀ (i : Nat), (∀ o k, ops[i]? = some o → waits o k → L.getD k false = true) → ∀ k ∈ A i, L.getD k false = true := by
  intro i
  induction i using Nat.strongRecOn with
  | _ i ih =>
    intro hp k hk
    obtain ⟨o, j, ho, hw, hj⟩ := hs.anc i k hk
    have hL := hp o j ho hw
    rcases hj with rfl | hj
    · exact hL
    · exact ih j (hs.less i o j ho hw) (fun o' k' ho' hw' => hc j o' k' hL ho' hw') k hj
theorem ready_iff {L : Array Bool} {i : Nat} : i ∈ Region.ready .any ops L ↔ L.getD i true = false ∧ ∃ o, ops[i]? = some o ∧ ∀ k, waits o k → L.getD k false = true := by
  rw [mem_ready]
  constructor
  · rintro ⟨h1, o, ho, h⟩
    refine ⟨h1, o, ho, ?_⟩
    rintro k ⟨e, he, hb, rfl⟩
    exact h e he hb
  · rintro ⟨h1, o, ho, h⟩
    exact ⟨h1, o, ho, fun e he hb => h e.on ⟨e, he, hb, rfl⟩⟩

theorem Eqv.rel {s s' : St} (e : Eqv s s') {rd : RD} {O : Nat → Prop} {w0 w : World} {a : Act} (h : RelE rd O w0 s a w) : RelE rd O w0 s' a w := by
  obtain ⟨rd', φ, hx, h1, h2, h3, h4, h5⟩ := h
  exact ⟨rd', φ, hx, e.2.1 ▸ h1, fun t v hl => h2 t v ((e.2.2.2 t).trans hl), by rw [h3, e.1], h4, fun r g p hp => e.2.2.1 ▸ h5 r g p hp⟩
theorem getD_ff {L : Array Bool} {k : Nat} (hk : k < L.size) (h : L.getD k false ≠ true) : L.getD k true = false := by
  simp only [Array.getD_eq_getD_getElem?, Array.getElem?_eq_getElem hk, Option.getD_some] at h ⊢
  simpa using h
theorem vcD_any {rd : RD} {O : Nat → Prop} {w0 : World} {K : St → Prop} {Q : Exit → Act → World → Prop} {A : Nat → List Nat} (hs : Static ops A) (hn : ∀ s a w, K s → RelE rd O w0 s a w → Q .normal a w) :
    ∀ (fuel : Nat) (L : Array Bool) (R : List Nat) (s : St) (a : Act) (w : World), R.Pairwise (OkPair ops A) → (∀ i, i ∈ R ↔ i < ops.size ∧ L.getD i true = false) → R.length ≤ fuel → Closed ops L →
      RelE rd O w0 s a w → vcD P ops R s (upto K) → wpAny P .any ops Q fuel L a w := by
  intro fuel
  have fin : ∀ {s : St} {a : Act} {w : World}, RelE rd O w0 s a w → vcD P ops [] s (upto K) → Q .normal a w := by
    intro s a w hr hv
    obtain ⟨t, e, hk⟩ := hv
    exact hn t a w hk (e.symm.rel hr)
  induction fuel with
  | zero =>
    intro L R s a w hp hR hl hc hr hv
    have : R = [] := List.eq_nil_of_length_eq_zero (by omega)
    subst this
    refine ⟨?_, fin hr hv⟩
    apply List.eq_nil_iff_forall_not_mem.2
    intro i hi
    obtain ⟨h1, o, ho, _⟩ := ready_iff.1 hi
    have hlt : i < ops.size := (Array.getElem?_eq_some_iff.1 ho).1
    have := (hR i).2 ⟨hlt, h1⟩
    simp at this
  | succ fuel ih =>
    intro L R s a w hp hR hl hc hr hv
    refine ⟨fun h0 => ?_, fun i hi => ?_⟩
    · cases R with
      | nil => exact fin hr hv
      | cons r R =>
        exfalso
        obtain ⟨hr1, hr2⟩ := (hR r).1 (by simp)
        have hsz : r < L.size := by
          rcases Nat.lt_or_ge r L.size with hx | hx
          · exact hx
          · simp [Array.getElem?_eq_none hx] at hr2
        have : r ∈ Region.ready .any ops L := by
          refine ready_iff.2 ⟨hr2, ops[r], by simp [hr1], fun k hk => ?_⟩
          have hkr := hs.less r ops[r] k (by simp [hr1]) hk
          rcases Classical.em (L.getD k false = true) with hx | hx
          · exact hx
          · exfalso
            have hkR := (hR k).2 ⟨by omega, getD_ff (by omega) hx⟩
            rcases List.mem_cons.1 hkR with rfl | hkR
            · omega
            · exact ((List.pairwise_cons.1 hp).1 k hkR).2.1 ops[r] (by simp [hr1]) hk
        rw [h0] at this
        simp at this
    · obtain ⟨h1, o, ho, hw⟩ := ready_iff.1 hi
      have hlt : i < ops.size := (Array.getElem?_eq_some_iff.1 ho).1
      have hiR := (hR i).2 ⟨hlt, h1⟩
      obtain ⟨R1, R2, rfl⟩ := List.append_of_mem hiR
      have hpp := List.pairwise_append.1 hp
      have hfront : ∀ k ∈ R1, ∀ x, ops[k]? = some x → pureK x.op = true ∧ x.apart ops o = true := by
        intro k hk x hx
        rcases (hpp.2.2 k hk i (by simp)).2.2 with h2 | h2
        · exfalso
          have h3 := anc_listed hs hc i (fun o' k' ho' hw' => by rw [ho] at ho'; cases ho'; exact hw k' hw') k h2
          have h4 := ((hR k).1 (by simp [hk])).2
          have hksz : k < L.size := by
            rcases Nat.lt_or_ge k L.size with hx | hx
            · exact hx
            · simp [Array.getElem?_eq_none hx] at h4
          simp only [Array.getD_eq_getD_getElem?, Array.getElem?_eq_getElem hksz, Option.getD_some] at h3 h4
          rw [h3] at h4
          cases h4
        · exact h2 x o hx ho
      obtain ⟨hd, hstep⟩ := vcD_front ho hfront hv
      obtain ⟨rd', φ, hx, hrel⟩ := hr
      unfold wpOp
      simp only [ho]
      have hisz : i < L.size := by
        rcases Nat.lt_or_ge i L.size with hx | hx
        · exact hx
        · simp [Array.getElem?_eq_none hx] at h1
      refine vcStep_gen hx ho hrel hstep fun s' a' w' hk hr' => ?_
      refine ih (L.setIfInBounds i true) (R1 ++ R2) s' a' w' ?_ ?_ ?_ ?_ hr' (vcD_mono (fun _ h => upto_upto h) hk)
      · exact List.Pairwise.sublist (List.Sublist.append_left (List.sublist_cons_self i R2) R1) hp
      · intro j
        have hnod : ∀ j ∈ R1 ++ R2, j ≠ i := by
          intro j hj
          rcases List.mem_append.1 hj with hj | hj
          · exact (hpp.2.2 j hj i (by simp)).1
          · exact fun e => (((List.pairwise_cons.1 hpp.2.1).1 j hj).1 e.symm)
        constructor
        · intro hj
          have h2 := (hR j).1 (by rcases List.mem_append.1 hj with hj | hj <;> simp [hj])
          exact ⟨h2.1, by rw [getD_set_ne true (fun e => hnod j hj e.symm)]; exact h2.2⟩
        · rintro ⟨h2, h3⟩
          have hji : j ≠ i := by
            rintro rfl
            simp [hisz] at h3
          rw [getD_set_ne true (fun e => hji e.symm)] at h3
          have h4 := (hR j).2 ⟨h2, h3⟩
          rcases List.mem_append.1 h4 with h4 | h4
          · simp [h4]
          · rcases List.mem_cons.1 h4 with rfl | h4
            · exact absurd rfl hji
            · simp [h4]
      · simp only [List.length_append, List.length_cons] at hl ⊢
        omega
      · intro j o' k hj ho' hw'
        by_cases hji : i = j
        · subst hji
          rw [ho] at ho'
          cases ho'
          exact getD_set_true (hw k hw')
        · rw [getD_set_ne false hji] at hj
          exact getD_set_true (hc j o' k hj ho' hw')
end

end Go.Proofs.Ytbamamgeamnmnaa.E
