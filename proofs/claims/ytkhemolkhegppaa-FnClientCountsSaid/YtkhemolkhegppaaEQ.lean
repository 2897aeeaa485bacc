/-
  E, part Q: regions that draw their order: a tree of orders.
-/
import Derived.Test.YtkhemolkhegppaaEN
namespace Go.Proofs.Ytkhemolkhegppaa.E
open Go Go.RowKit
set_option linter.unusedVariables false

/-- Pure operations (pu) are taken as soon as they may be; effects (ef) in their order, 'rc' told: what was read ahead and must be read the same behind; where the order of effects is open, all ways (or). -/
inductive DT where
  | nil
  | pu (i : Nat) (t : DT)
  | ef (i : Nat) (rc : List Nat) (t : DT)
  | or (a b : DT)
def opsT : DT → List Nat
  | .nil => []
  | .pu i t => i :: opsT t
  | .ef i _ t => i :: opsT t
  | .or a _ => opsT a
def nodesT : DT → List (Nat × Option (List Nat))
  | .nil => []
  | .pu i t => (i, none) :: nodesT t
  | .ef i rc t => (i, some rc) :: nodesT t
  | .or a b => nodesT a ++ nodesT b
def headsT : DT → List Nat
  | .nil => []
  | .pu i _ => [i]
  | .ef i _ _ => [i]
  | .or a b => headsT a ++ headsT b
def Same (P : Program) (ops : Array Oper) (rc : List Nat) (s : St) (σ' : Sig) : Prop := ∀ k ∈ rc, ∀ x, ops[k]? = some x → stepV P ops σ' (ev s) x = stepV P ops s.σ (ev s) x
def vcT (P : Program) (ops : Array Oper) : DT → St → (St → Prop) → Prop
  | .nil, s, K => K s
  | .pu i t, s, K => match ops[i]? with
    | none => False
    | some o => pureK o.op = true ∧ vcPure P ops o s fun s' => vcT P ops t s' K
  | .ef i rc t, s, K => match ops[i]? with
    | none => False
    | some o => vcStep2 P ops o s fun s' => Same P ops rc s s'.σ ∧ vcT P ops t s' K
  | .or a b, s, K => vcT P ops a s K ∧ vcT P ops b s K

section
variable {P : Program} {ops : Array Oper}
theorem vcT_mono : ∀ {t : DT} {s : St} {K1 K2 : St → Prop}, (∀ s, K1 s → K2 s) → vcT P ops t s K1 → vcT P ops t s K2
  | .nil, s, K1, K2, hk, h => hk _ h
  | .pu i t, s, K1, K2, hk, h => by
    unfold vcT at h ⊢
    split at h
    · cases h
    · exact ⟨h.1, vcPure_mono (fun s' hs => vcT_mono hk hs) h.2⟩
  | .ef i rc t, s, K1, K2, hk, h => by
    unfold vcT at h ⊢
    split at h
    · cases h
    · exact vcStep2_mono (fun s' hs => ⟨hs.1, vcT_mono hk hs.2⟩) h
  | .or a b, s, K1, K2, hk, h => ⟨vcT_mono hk h.1, vcT_mono hk h.2⟩
theorem vcPure_eqv {o : Oper} {s s' : St} {K : St → Prop} (h : Eqv s s') (hk : vcPure P ops o s K) : vcPure P ops o s' (upto K) := by
  obtain ⟨v, h1, h2⟩ := onSome_elim hk
  rw [h.ev, h.2.1] at h1
  refine onSome_intro h1 ?_
  rw [← h.2.1]
  exact put_eqv h h2
theorem vcT_eqv : ∀ {t : DT} {s s' : St} {K : St → Prop}, Eqv s s' → vcT P ops t s K → vcT P ops t s' (upto K)
  | .nil, s, s', K, e, h => ⟨s, e, h⟩
  | .pu i t, s, s', K, e, h => by
    unfold vcT at h ⊢
    split at h
    · cases h
    · refine ⟨h.1, vcPure_mono (fun s2 hs => ?_) (vcPure_eqv e h.2)⟩
      obtain ⟨u, e2, hu⟩ := hs
      exact vcT_eqv e2 hu
  | .ef i rc t, s, s', K, e, h => by
    unfold vcT at h ⊢
    split at h
    · cases h
    · refine vcStep2_mono (fun s2 hs => ?_) (vcStep2_eqv e h)
      obtain ⟨u, e2, h1, hu⟩ := hs
      refine ⟨fun k hk x hx => ?_, vcT_eqv e2 hu⟩
      have := h1 k hk x hx
      rwa [e.ev, e.2.1, e2.2.1] at this
  | .or a b, s, s', K, e, h => ⟨vcT_eqv e h.1, vcT_eqv e h.2⟩

/-- What a step comes to with one slot more known, told from the step without it. -/
def InsK (n d : Nat) (v : AV) (tm : List (Nat × AV)) (K : St → Prop) (s2 : St) : Prop := ∃ cy σ' G', s2 = ⟨n, cy ++ tm, σ', G'⟩ ∧ K ⟨n, cy ++ (d, v) :: tm, σ', G'⟩
theorem ev_ins {n d G : Nat} {v : AV} {tm : List (Nat × AV)} {σ : Sig} {x : Operand} (hx : x ≠ .tmp d) : ev ⟨n, (d, v) :: tm, σ, G⟩ x = ev ⟨n, tm, σ, G⟩ x := by
  cases x with
  | tmp t =>
    simp only [ev, lookA_cons]
    rw [if_neg (fun e => hx (by rw [e]))]
  | _ => rfl
theorem put_ins {n d G : Nat} {v u : AV} {tm : List (Nat × AV)} {σ0 σ : Sig} {dst : Option Nat} {b : Bool} {K : St → Prop} (h : put ⟨n, (d, v) :: tm, σ0, G⟩ dst u σ b K) : put ⟨n, tm, σ0, G⟩ dst u σ b (InsK n d v tm K) := by
  unfold put at h ⊢
  cases dst with
  | none => exact ⟨[], σ, _, rfl, h⟩
  | some t =>
    simp only at h ⊢
    split at h
    · exact ⟨[(t, u)], σ, _, rfl, h⟩
    · cases h
theorem vcStep2_ins {y : Oper} {n d G : Nat} {v : AV} {tm : List (Nat × AV)} {σ : Sig} {K : St → Prop} (hd : d ∉ y.looksAt ops) (h : vcStep2 P ops y ⟨n, (d, v) :: tm, σ, G⟩ K) : vcStep2 P ops y ⟨n, tm, σ, G⟩ (InsK n d v tm K) := by
  have hy : ∀ x ∈ y.op.operands, x ≠ .tmp d := by
    rintro x hx rfl
    exact hd (List.mem_append_left _ (List.mem_filterMap.2 ⟨.tmp d, by simpa using hx, rfl⟩))
  refine vcStep2_map (fun j w t hg ht => ?_) (fun hv => ?_) put_ins h
  · have hne : d ≠ t := by
      rintro rfl
      have hs' : (ops[j]?).bind (·.dst) = some d := by
        unfold slotOf at ht
        split at ht
        · rename_i hx; rw [hx]; exact ht
        · cases ht
      exact hd (by simp [Oper.looksAt, hg, hs'])
    simp only [lookA_cons, if_neg hne]
  · obtain ⟨u, σ', b, h1, h2⟩ := hv
    exact ⟨u, σ', b, Can_congr (fun x hx => ev_ins (hy x hx)) h1, put_ins h2⟩

/-- An operation that may be moved to the front of a tree: over pure ones (whose slots are listed). -/
inductive Fr (ops : Array Oper) (j : Nat) (o : Oper) : Option (List Nat) → List Nat → DT → DT → Prop
  | pu {t} : Fr ops j o none [] (.pu j t) t
  | ef {rc t} : Fr ops j o (some rc) [] (.ef j rc t) t
  | over {i x k D t t'} (hi : ops[i]? = some x) (hap : x.apart ops o = true) (hself : ∀ d, x.dst = some d → d ∉ x.looksAt ops) (hD : ∀ d ∈ D, d ∉ x.looksAt ops)
      (hfree : freeK x.op = true ∨ k = none ∨ ∃ rc, k = some rc ∧ i ∈ rc) (h : Fr ops j o k D t t') : Fr ops j o k (x.dst.toList ++ D) (.pu i t) (.pu i t')
  | left {k D a b t'} (h : Fr ops j o k D a t') : Fr ops j o k D (.or a b) t'
  | right {k D a b t'} (h : Fr ops j o k D b t') : Fr ops j o k D (.or a b) t'
def Ag (P : Program) (ops : Array Oper) (k : Option (List Nat)) (D : List Nat) (s : St) (σ' : Sig) : Prop := match k with
  | none => σ' = s.σ
  | some rc => ∀ i ∈ rc, ∀ x, ops[i]? = some x → (∀ d ∈ D, d ∉ x.looksAt ops) → ∀ e : Operand → AV, (∀ t ∈ x.looksAt ops, e (.tmp t) = ev s (.tmp t)) → (∀ y, (∀ t, y ≠ .tmp t) → e y = ev s y) → stepV P ops σ' e x = stepV P ops s.σ e x
theorem put_same {s : St} {d : Option Nat} {v : AV} {K : St → Prop} (h : put s d v s.σ false K) : put s d v s.σ false fun s' => s'.σ = s.σ ∧ K s' := by
  unfold put at h ⊢
  cases d with
  | none => exact ⟨rfl, h⟩
  | some d =>
    simp only at h ⊢
    split at h
    · exact ⟨trivial, h⟩
    · cases h
theorem front_sound {j : Nat} {o : Oper} (ho : ops[j]? = some o) {k : Option (List Nat)} {D : List Nat} {t t' : DT} (hf : Fr ops j o k D t t') : ∀ {s : St} {K : St → Prop}, vcT P ops t s K → vcStep2 P ops o s fun s' => Ag P ops k D s s'.σ ∧ vcT P ops t' s' (upto K) := by
  have up : ∀ {t : DT} {s : St} {K : St → Prop}, vcT P ops t s K → vcT P ops t s (upto K) := fun h => vcT_mono (fun s hk => ⟨s, .refl s, hk⟩) h
  induction hf with
  | pu =>
    intro s K h
    unfold vcT at h
    rw [ho] at h
    refine vcPure_step h.1 ?_
    obtain ⟨v, h1, h2⟩ := onSome_elim h.2
    exact onSome_intro h1 (putM (fun s' hs => ⟨hs.1, up hs.2⟩) (put_same h2))
  | ef =>
    intro s K h
    unfold vcT at h
    rw [ho] at h
    refine vcStep2_mono (fun s' hs => ⟨fun i hi x hx hD e he hn => ?_, up hs.2⟩) h
    have h1 := hs.1 i hi x hx
    rw [stepV_congr (e := e) (e' := ev s) rfl he hn, stepV_congr (e := e) (e' := ev s) rfl he hn]
    exact h1
  | @over i x k D t t' hi hap hself hD hfree hf ih =>
    intro s K h
    unfold vcT at h
    rw [hi] at h
    obtain ⟨hp, h⟩ := h
    obtain ⟨a1, a2, a3⟩ := Oper.apart_spec hap
    obtain ⟨v, hv, h1⟩ := onSome_elim h
    obtain ⟨n, tm, σ, G⟩ := s
    -- what x tells behind the step
    have tells : ∀ {s1 : St} {σ' : Sig} {e : Operand → AV}, s1.σ = σ → (∀ t ∈ x.looksAt ops, ev s1 (.tmp t) = ev ⟨n, tm, σ, G⟩ (.tmp t)) → Ag P ops k D s1 σ' → (∀ t ∈ x.looksAt ops, e (.tmp t) = ev ⟨n, tm, σ, G⟩ (.tmp t)) → (∀ y, (∀ t, y ≠ .tmp t) → e y = ev ⟨n, tm, σ, G⟩ y) → stepV P ops σ' e x = some v := by
      intro s1 σ' e hσ hs1 hag he hn
      have h2 : stepV P ops σ e x = some v := by rw [← hv]; exact stepV_congr rfl he hn
      rcases hfree with hfr | rfl | ⟨rc, rfl, hrc⟩
      · rw [← h2]
        refine stepV_congr (pureV_free hfr) (fun _ _ => rfl) (fun _ _ => rfl)
      · simp only [Ag] at hag
        rw [hag, hσ]; exact h2
      · have := hag i hrc x hi hD e (fun t ht => by rw [he t ht, hs1 t ht]) (fun y hy => by
          rw [hn y hy]
          cases y with
          | tmp t => exact absurd rfl (hy t)
          | _ => rfl)
        rw [this, hσ]; exact h2
    unfold put at h1
    cases hdx : x.dst with
    | none =>
      rw [hdx] at h1
      have h1 : vcT P ops t ⟨n, tm, σ, G⟩ K := h1
      refine vcStep2_mono ?_ (vcStep2_shape (ih h1))
      rintro s2 ⟨⟨hag, hk⟩, cy, σ', G', rfl, hcy⟩
      refine ⟨by simpa using hag, ?_⟩
      unfold vcT
      rw [hi]
      refine ⟨hp, onSome_intro (tells (s1 := ⟨n, tm, σ, G⟩) rfl (fun _ _ => rfl) hag (fun t ht => ?_) (fun y hy => ?_)) ?_⟩
      · rcases hcy with ⟨rfl, _⟩ | ⟨t', u, hy, rfl⟩
        · rfl
        · simp only [ev, List.cons_append, List.nil_append, lookA_cons]
          rw [if_neg]
          rintro rfl
          exact a3 _ hy ht
      · cases y with
        | tmp t => exact absurd rfl (hy t)
        | _ => rfl
      · unfold put
        rw [hdx]
        exact hk
    | some d =>
      rw [hdx] at h1
      simp only at h1
      split at h1
      · rename_i hb
        have h1 : vcT P ops t ⟨n, (d, v) :: tm, σ, G⟩ K := h1
        have hs1 : ∀ t ∈ x.looksAt ops, ev ⟨n, (d, v) :: tm, σ, G⟩ (.tmp t) = ev ⟨n, tm, σ, G⟩ (.tmp t) := fun t ht => ev_ins (fun e => by cases e; exact hself d hdx ht)
        refine vcStep2_mono ?_ (vcStep2_shape (vcStep2_ins (a1 d hdx) (ih h1)))
        rintro s2 ⟨⟨cy, σ', G', rfl, hag, hk⟩, hs⟩
        obtain ⟨cy2, σ2, G2, e, hcy⟩ := hs
        simp only [St.mk.injEq, true_and] at e
        obtain ⟨e1, rfl, rfl⟩ := e
        have e1 := List.append_cancel_right e1
        subst e1
        refine ⟨?_, ?_⟩
        · cases k with
          | none => exact hag
          | some rc =>
            intro i' hi' x' hx' hD' e he hn
            refine hag i' hi' x' hx' (fun d' hd' => hD' d' (by simp [hd'])) e (fun t ht => ?_) (fun y hy => ?_)
            · rw [he t ht]
              exact (ev_ins (fun e => by cases e; exact hD' d (by simp) ht)).symm
            · rw [hn y hy]
              cases y with
              | tmp t => exact absurd rfl (hy t)
              | _ => rfl
        · unfold vcT
          rw [hi]
          refine ⟨hp, onSome_intro (tells (s1 := ⟨n, (d, v) :: tm, σ, G⟩) rfl hs1 hag (fun t ht => ?_) (fun y hy => ?_)) ?_⟩
          · rcases hcy with ⟨rfl, _⟩ | ⟨t', u, hy, rfl⟩
            · rfl
            · simp only [ev, List.cons_append, List.nil_append, lookA_cons]
              rw [if_neg]
              rintro rfl
              exact a3 _ hy ht
          · cases y with
            | tmp t => exact absurd rfl (hy t)
            | _ => rfl
          · unfold put
            rw [hdx]
            simp only [hb]
            refine vcT_mono (fun _ h => upto_upto h) (vcT_eqv (s := ⟨n, cy ++ (d, v) :: tm, σ', G'⟩) ⟨rfl, rfl, rfl, fun t => ?_⟩ hk)
            rcases hcy with ⟨rfl, _⟩ | ⟨t', u, hyd, rfl⟩
            · rfl
            · have hne : t' ≠ d := fun e => a2 d hdx (by rw [hyd, e])
              simp only [List.cons_append, List.nil_append, lookA_cons]
              by_cases h1 : t' = t
              · subst h1
                have h2 : ¬ d = t' := fun e => hne e.symm
                simp [h2]
              · simp [h1]
      · cases h1
  | left hf ih => intro s K h; exact ih h.1
  | right hf ih => intro s K h; exact ih h.2

/-! ### All orders -/
/-- Whom an operation waits for, as a list. -/
def waitL (o : Oper) : List Nat := (o.after.toList.filter fun e => Region.binds .any e).map (·.on)
def waits (o : Oper) (k : Nat) : Prop := ∃ e ∈ o.after, Region.binds .any e = true ∧ e.on = k
theorem waitL_iff {o : Oper} {k : Nat} : k ∈ waitL o ↔ waits o k := by
  unfold waitL waits
  simp only [List.mem_map, List.mem_filter, Array.mem_toList_iff]
  constructor
  · rintro ⟨e, ⟨h1, h2⟩, h3⟩; exact ⟨e, h1, h2, h3⟩
  · rintro ⟨e, h1, h2, h3⟩; exact ⟨e, ⟨h1, h2⟩, h3⟩
structure Static (ops : Array Oper) (A : Nat → List Nat) : Prop where
  less : ∀ i o k, ops[i]? = some o → waits o k → k < i
  anc : ∀ i k, k ∈ A i → ∃ o j, ops[i]? = some o ∧ waits o j ∧ (j = k ∨ k ∈ A j)
def Closed (ops : Array Oper) (L : Array Bool) : Prop := ∀ j o k, L.getD j false = true → ops[j]? = some o → waits o k → L.getD k false = true
theorem anc_listed {A : Nat → List Nat} (hs : Static ops A) {L : Array Bool} (hc : Closed ops L) : ∀ (i : Nat), (∀ o k, ops[i]? = some o → waits o k → L.getD k false = true) → ∀ k ∈ A i, L.getD k false = true := by
  intro i
  induction i using Nat.strongRecOn with
  | _ i ih =>
    intro hp k hk
    obtain ⟨o, j, ho, hw, hj⟩ := hs.anc i k hk
    have hL := hp o j ho hw
    rcases hj with rfl | hj
    · exact hL
    · exact ih j (hs.less i o j ho hw) (fun o' k' ho' hw' => hc j o' k' hL ho' hw') k hj
theorem ready_iff {L : Array Bool} {i : Nat} : i ∈ Region.ready .any ops L ↔ L.getD i true = false ∧ ∃ o, ops[i]? = some o ∧ ∀ k, waits o k → L.getD k false = true := by
  rw [mem_ready]
  constructor
  · rintro ⟨h1, o, ho, h⟩
    refine ⟨h1, o, ho, ?_⟩
    rintro k ⟨e, he, hb, rfl⟩
    exact h e he hb
  · rintro ⟨h1, o, ho, h⟩
    exact ⟨h1, o, ho, fun e he hb => h e.on ⟨e, he, hb, rfl⟩⟩
theorem Eqv.rel {s s' : St} (e : Eqv s s') {rd : REnv} {O : Nat → Prop} {w0 : World} {a : Act} {w : World} (h : RelE rd O w0 s a w) : RelE rd O w0 s' a w := by
  obtain ⟨rd', φ, hx, h1, h2, h3, h4, h5⟩ := h
  exact ⟨rd', φ, hx, e.2.1 ▸ h1, fun t v hl => h2 t v ((e.2.2.2 t).trans hl), by rw [h3, e.1], h4, fun r g p hp => e.2.2.1 ▸ h5 r g p hp⟩
theorem getD_ff {L : Array Bool} {k : Nat} (hk : k < L.size) (h : L.getD k false ≠ true) : L.getD k true = false := by
  simp only [Array.getD_eq_getD_getElem?, Array.getElem?_eq_getElem hk, Option.getD_some] at h ⊢
  simpa using h

/-- What is asked of a tree. -/
structure PuOK (ops : Array Oper) (A : Nat → List Nat) (i : Nat) (t : DT) : Prop where
  ex : ∃ x, ops[i]? = some x
  self : ∀ x, ops[i]? = some x → ∀ d, x.dst = some d → d ∉ x.looksAt ops
  look : ∀ x, ops[i]? = some x → ∀ j ∈ opsT t, ∀ o, ops[j]? = some o → ∀ d, o.dst = some d → d ∉ x.looksAt ops ∨ ∀ m ∈ opsT t, m = j ∨ m ∈ A j
  topo : ∀ m ∈ opsT t, m ∉ A i
  nodes : ∀ x, ops[i]? = some x → ∀ n ∈ nodesT t, ∀ o, ops[n.1]? = some o → i ∈ A n.1 ∨ (x.apart ops o = true ∧ (freeK x.op = true ∨ n.2 = none ∨ ∃ rc, n.2 = some rc ∧ i ∈ rc))
def okT (ops : Array Oper) (A : Nat → List Nat) : Bool → DT → Prop
  | _, .nil => True
  | false, .pu i t => i ∉ opsT t ∧ PuOK ops A i t ∧ okT ops A false t
  | true, .pu _ _ => False
  | false, .ef i rc t => i ∉ opsT t ∧ (∀ j ∈ opsT t, i ∈ A j) ∧ okT ops A false t
  | true, .ef i rc t => i ∉ opsT t ∧ okT ops A false t
  | f, .or a b => okT ops A true a ∧ okT ops A true b ∧ ((∀ i, i ∈ opsT a ↔ i ∈ opsT b) ∧ (opsT a).length = (opsT b).length) ∧ (f = false → ∀ j ∈ opsT a, ∃ h, (h ∈ headsT a ∨ h ∈ headsT b) ∧ (h = j ∨ h ∈ A j))
theorem headsT_ops {A : Nat → List Nat} : ∀ {t : DT} {f : Bool}, okT ops A f t → ∀ h ∈ headsT t, h ∈ opsT t
  | .nil, _, _, h, hh => by simp [headsT] at hh
  | .pu i t, _, _, h, hh => by simp [headsT] at hh; simp [opsT, hh]
  | .ef i rc t, _, _, h, hh => by simp [headsT] at hh; simp [opsT, hh]
  | .or a b, f, ok, h, hh => by
    have ok' : okT ops A true a ∧ okT ops A true b ∧ (∀ i, i ∈ opsT a ↔ i ∈ opsT b) := by cases f <;> exact ⟨ok.1, ok.2.1, ok.2.2.1.1⟩
    simp only [headsT, List.mem_append] at hh
    simp only [opsT]
    rcases hh with hh | hh
    · exact headsT_ops ok'.1 h hh
    · exact (ok'.2.2 h).2 (headsT_ops ok'.2.1 h hh)
structure Took (ops : Array Oper) (A : Nat → List Nat) (j : Nat) (o : Oper) (t : DT) (k : Option (List Nat)) (D : List Nat) (t' : DT) : Prop where
  fr : Fr ops j o k D t t'
  ok : okT ops A false t'
  set : ∀ i, i ∈ opsT t' ↔ i ∈ opsT t ∧ i ≠ j
  node : (j, k) ∈ nodesT t
  nodes : ∀ n ∈ nodesT t', n ∈ nodesT t
  len : (opsT t').length < (opsT t).length
  slots : ∀ d ∈ D, ∃ i ∈ opsT t, (i ≠ j ∧ j ∉ A i) ∧ ∃ x, ops[i]? = some x ∧ x.dst = some d
theorem took_head {A : Nat → List Nat} {j : Nat} {o : Oper} (ho : ops[j]? = some o) : ∀ {t : DT}, okT ops A true t → j ∈ headsT t → ∃ k D t', Took ops A j o t k D t'
  | .nil, _, h => by simp [headsT] at h
  | .pu i t, ok, _ => ok.elim
  | .ef i rc t, ok, h => by
    simp only [headsT, List.mem_singleton] at h
    subst h
    exact ⟨some rc, [], t, .ef, ok.2, fun i => by simp only [opsT, List.mem_cons]; exact ⟨fun h => ⟨.inr h, fun e => ok.1 (e ▸ h)⟩, fun h => h.1.resolve_left h.2⟩, by simp [nodesT], fun n hn => by simp [nodesT, hn], by simp [opsT], by simp⟩
  | .or a b, ok, h => by
    simp only [headsT, List.mem_append] at h
    rcases h with h | h
    · obtain ⟨k, D, t', h1⟩ := took_head ho ok.1 h
      exact ⟨k, D, t', .left h1.fr, h1.ok, h1.set, by simp [nodesT, h1.node], fun n hn => by simp [nodesT, h1.nodes n hn], h1.len, h1.slots⟩
    · obtain ⟨k, D, t', h1⟩ := took_head ho ok.2.1 h
      refine ⟨k, D, t', .right h1.fr, h1.ok, fun i => ?_, by simp [nodesT, h1.node], fun n hn => by simp [nodesT, h1.nodes n hn], by rw [show opsT (.or a b) = opsT a from rfl, ok.2.2.1.2]; exact h1.len, fun d hd => ?_⟩
      · rw [h1.set, show opsT (.or a b) = opsT a from rfl, ok.2.2.1.1]
      · obtain ⟨i, hi, x⟩ := h1.slots d hd
        exact ⟨i, (ok.2.2.1.1 i).2 hi, x⟩
theorem took {A : Nat → List Nat} {j : Nat} {o : Oper} (ho : ops[j]? = some o) : ∀ {t : DT}, okT ops A false t → j ∈ opsT t → (∀ k ∈ A j, k ∉ opsT t) → ∃ k D t', Took ops A j o t k D t'
  | .nil, _, h, _ => by simp [opsT] at h
  | .pu i t, ok, h, hA => by
    obtain ⟨ok1, ok2, ok3⟩ := ok
    by_cases hij : i = j
    · subst hij
      exact ⟨none, [], t, .pu, ok3, fun i' => by simp only [opsT, List.mem_cons]; exact ⟨fun h => ⟨.inr h, fun e => ok1 (e ▸ h)⟩, fun h => h.1.resolve_left h.2⟩, by simp [nodesT], fun n hn => by simp [nodesT, hn], by simp [opsT], by simp⟩
    · have hj : j ∈ opsT t := by
        simp only [opsT, List.mem_cons] at h
        exact h.resolve_left fun e => hij e.symm
      obtain ⟨k, D, t', h1⟩ := took ho ok3 hj (fun k hk hin => hA k hk (by simp [opsT, hin]))
      obtain ⟨x, hx⟩ := ok2.ex
      have hn := (ok2.nodes x hx (j, k) h1.node o ho).resolve_left fun hin => hA i hin (by simp [opsT])
      refine ⟨k, x.dst.toList ++ D, .pu i t', .over hx hn.1 (ok2.self x hx) (fun d hd => ?_) hn.2 h1.fr, ⟨fun hin => ok1 ((h1.set i).1 hin).1, ⟨⟨x, hx⟩, ok2.self, fun y hy j' hj' o' ho' d hd => (ok2.look y hy j' ((h1.set j').1 hj').1 o' ho' d hd).imp id fun hall m hm => hall m ((h1.set m).1 hm).1, fun m hm => ok2.topo m ((h1.set m).1 hm).1, fun y hy n hn => ok2.nodes y hy n (h1.nodes n hn)⟩, h1.ok⟩, fun i' => ?_, by simp [nodesT, h1.node], fun n hn => ?_, by simpa [opsT] using h1.len, fun d hd => ?_⟩
      · obtain ⟨i', hi', ⟨hne, hnA⟩, y, hy, hd'⟩ := h1.slots d hd
        rcases ok2.look x hx i' hi' y hy d hd' with hlk | hall
        · exact hlk
        · rcases hall j hj with rfl | hin
          · exact absurd rfl hne
          · exact absurd hin hnA
      · simp only [opsT, List.mem_cons, h1.set]
        constructor
        · rintro (rfl | h)
          · exact ⟨.inl rfl, hij⟩
          · exact ⟨.inr h.1, h.2⟩
        · rintro ⟨rfl | h, h2⟩
          · exact .inl rfl
          · exact .inr ⟨h, h2⟩
      · simp only [nodesT, List.mem_cons] at hn ⊢
        exact hn.imp id (h1.nodes n)
      · rcases List.mem_append.1 hd with hd | hd
        · exact ⟨i, by simp [opsT], ⟨hij, ok2.topo j hj⟩, x, hx, by simpa using hd⟩
        · obtain ⟨i', hi', y⟩ := h1.slots d hd
          exact ⟨i', by simp [opsT, hi'], y⟩
  | .ef i rc t, ok, h, hA => by
    obtain ⟨ok1, ok2, ok3⟩ := ok
    by_cases hij : i = j
    · subst hij
      exact ⟨some rc, [], t, .ef, ok3, fun i' => by simp only [opsT, List.mem_cons]; exact ⟨fun h => ⟨.inr h, fun e => ok1 (e ▸ h)⟩, fun h => h.1.resolve_left h.2⟩, by simp [nodesT], fun n hn => by simp [nodesT, hn], by simp [opsT], by simp⟩
    · have hj : j ∈ opsT t := by
        simp only [opsT, List.mem_cons] at h
        exact h.resolve_left fun e => hij e.symm
      exact absurd (by simp [opsT]) (hA i (ok2 j hj))
  | .or a b, ok, h, hA => by
    obtain ⟨ok1, ok2, ok3, ok4⟩ := ok
    obtain ⟨h0, hh, hj⟩ := ok4 rfl j h
    have hin : h0 ∈ opsT (.or a b) := hh.elim (fun h => headsT_ops ok1 h0 h) (fun h => (ok3.1 h0).2 (headsT_ops ok2 h0 h))
    rcases hj with rfl | hj
    · exact took_head (t := .or a b) ho ⟨ok1, ok2, ok3, fun h => by cases h⟩ (by simpa [headsT] using hh)
    · exact absurd hin (hA h0 hj)

theorem vcT_any {rd : REnv} {O : Nat → Prop} {w0 : World} {K : St → Prop} {Q : Exit → Act → World → Prop} {A : Nat → List Nat} (hs : Static ops A) (hn : ∀ s a w, K s → RelE rd O w0 s a w → Q .normal a w) :
    ∀ (fuel : Nat) (L : Array Bool) (t : DT) (s : St) (a : Act) (w : World), okT ops A false t → (∀ i, i ∈ opsT t ↔ i < ops.size ∧ L.getD i true = false) → (opsT t).length ≤ fuel → Closed ops L →
      RelE rd O w0 s a w → vcT P ops t s (upto K) → wpAny P .any ops Q fuel L a w := by
  intro fuel
  have fin : ∀ {t : DT} {s : St} {a : Act} {w : World}, opsT t = [] → RelE rd O w0 s a w → vcT P ops t s (upto K) → Q .normal a w := by
    intro t
    induction t with
    | nil =>
      intro s a w _ hr hv
      obtain ⟨t, e, hk⟩ := hv
      exact hn t a w hk (e.symm.rel hr)
    | pu i t => intro s a w h; cases h
    | ef i rc t => intro s a w h; cases h
    | or a b iha => intro s a w h hr hv; exact iha h hr hv.1
  induction fuel with
  | zero =>
    intro L t s a w hok hR hl hc hr hv
    have h0 : opsT t = [] := List.eq_nil_of_length_eq_zero (by omega)
    refine ⟨?_, fin h0 hr hv⟩
    apply List.eq_nil_iff_forall_not_mem.2
    intro i hi
    obtain ⟨h1, o, ho, _⟩ := ready_iff.1 hi
    have hlt : i < ops.size := (Array.getElem?_eq_some_iff.1 ho).1
    have := (hR i).2 ⟨hlt, h1⟩
    rw [h0] at this
    simp at this
  | succ fuel ih =>
    intro L t s a w hok hR hl hc hr hv
    refine ⟨fun h0 => ?_, fun i hi => ?_⟩
    · cases hR0 : opsT t with
      | nil => exact fin hR0 hr hv
      | cons r R =>
        exfalso
        have noone : ∀ n, n ∉ opsT t := by
          intro n
          induction n using Nat.strongRecOn with
          | _ n ihn =>
            intro hin
            obtain ⟨hr1, hr2⟩ := (hR n).1 hin
            have hsz : n < L.size := by
              rcases Nat.lt_or_ge n L.size with hx | hx
              · exact hx
              · simp [Array.getElem?_eq_none hx] at hr2
            have : n ∈ Region.ready .any ops L := by
              refine ready_iff.2 ⟨hr2, ops[n], by simp [hr1], fun k hk => ?_⟩
              have hkr := hs.less n ops[n] k (by simp [hr1]) hk
              rcases Classical.em (L.getD k false = true) with hx | hx
              · exact hx
              · exact absurd ((hR k).2 ⟨by omega, getD_ff (by omega) hx⟩) (ihn k hkr)
            rw [h0] at this
            simp at this
        exact noone r (by rw [hR0]; simp)
    · obtain ⟨h1, o, ho, hw⟩ := ready_iff.1 hi
      have hlt : i < ops.size := (Array.getElem?_eq_some_iff.1 ho).1
      have hiR := (hR i).2 ⟨hlt, h1⟩
      have hisz : i < L.size := by
        rcases Nat.lt_or_ge i L.size with hx | hx
        · exact hx
        · simp [Array.getElem?_eq_none hx] at h1
      obtain ⟨k, D, t', htk⟩ := took (A := A) ho hok hiR (fun k hk hin => by
        have h3 := anc_listed hs hc i (fun o' k' ho' hw' => by rw [ho] at ho'; cases ho'; exact hw k' hw') k hk
        have h4 := ((hR k).1 hin).2
        have hksz : k < L.size := by
          rcases Nat.lt_or_ge k L.size with hx | hx
          · exact hx
          · simp [Array.getElem?_eq_none hx] at h4
        simp only [Array.getD_eq_getD_getElem?, Array.getElem?_eq_getElem hksz, Option.getD_some] at h3 h4
        rw [h3] at h4
        cases h4)
      have hstep := front_sound ho htk.fr hv
      obtain ⟨rd', φ, hx, hrel⟩ := hr
      unfold wpOp
      simp only [ho]
      refine vcStep2_gen hx ho hrel hstep fun s' a' w' hk hr' => ?_
      refine ih (L.setIfInBounds i true) t' s' a' w' htk.ok ?_ ?_ ?_ hr' (vcT_mono (fun _ h => upto_upto h) hk.2)
      · intro j
        rw [htk.set]
        constructor
        · rintro ⟨hj, hne⟩
          have h2 := (hR j).1 hj
          exact ⟨h2.1, by rw [getD_set_ne true (fun e => hne e.symm)]; exact h2.2⟩
        · rintro ⟨h2, h3⟩
          have hji : j ≠ i := by
            rintro rfl
            simp [hisz] at h3
          rw [getD_set_ne true (fun e => hji e.symm)] at h3
          exact ⟨(hR j).2 ⟨h2, h3⟩, hji⟩
      · have := htk.len
        omega
      · intro j o' k hj ho' hw'
        by_cases hji : i = j
        · subst hji
          rw [ho] at ho'
          cases ho'
          exact getD_set_true (hw k hw')
        · rw [getD_set_ne false hji] at hj
          exact getD_set_true (hc j o' k hj ho' hw')
end

end Go.Proofs.Ytkhemolkhegppaa.E
