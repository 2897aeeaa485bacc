/-
  E, part F: one operation, the state of a call, calls of functions, regions in order, control.
-/
import Derived.Test.YtkhemolkhegppaaEY
namespace Go.Proofs.Ytkhemolkhegppaa.E
open Go Go.RowKit
set_option linter.unusedVariables false

def absOp (P : Program) (d G : Nat) (ev : Operand → AV) (σ : Sig) : Op → Option (AV × Sig)
  | .move x => some (ev x, σ)
  | .assign x => some (ev x, σ)
  | .pick c a b => (absPick (ev c) (ev a) (ev b)).map fun v => (v, σ)
  | .alloc t => absAlloc P d G σ t
  | .box t x => absBox P d G σ t (ev x)
  | .load t a => (absLoad P σ t (ev a)).map fun v => (v, σ)
  | .store t a x => (absStore P σ t (ev a) (ev x)).map fun σ' => (.dead, σ')
  | .fieldAddr t x f => (absFieldAddr P t (ev x) f).map fun v => (v, σ)
  | .extract x i => (absExtract (ev x) i).map fun v => (v, σ)
  | .nilCheck x => (absNilCheck (ev x)).map fun v => (v, σ)
  | .binOp op t x y _ => (absBin P op t (ev x) (ev y)).map fun v => (v, σ)
  | .unOp op _ x => (absUn op (ev x)).map fun v => (v, σ)
  | .convert s t x => (absConvS P σ s t (ev x)).map fun v => (v, σ)
  | .slice t x lo hi mx => (absSlice P t (ev x) (lo.map ev) (hi.map ev) (mx.map ev)).map fun v => (v, σ)
  | .index t x y => (absIndex P t (ev x) (ev y)).map fun v => (v, σ)
  | .field t x f => (absField P t (ev x) f).map fun v => (v, σ)
  | .build t parts => (absBuild P t (parts.toList.map fun x => (x.1, ev x.2))).map fun v => (v, σ)
  | .buildSlice t len parts => (absBuildRo P t len (parts.toList.map fun x => (x.1, ev x.2))).map fun v => (v, σ)
  | .indexAddr t x y => (absIndexAddr P σ t (ev x) (ev y)).map fun v => (v, σ)
  | .makeSlice t l c => absMake P d G σ t (ev l) (ev c)
  | .call c => match c.callee, c.args.toList, c.argTypes.toList with
    | .builtin .len, [x], [t] => (absLen P t (ev x)).map fun v => (v, σ)
    | .builtin .min, [x, y], _ => (absMin (ev x) (ev y)).map fun v => (v, σ)
    | .builtin .max, [x, y], _ => (absMax (ev x) (ev y)).map fun v => (v, σ)
    | _, _, _ => none
  | _ => none

section
variable {P : Program} {rd : RD} {φ : Phi} {O : Nat → Prop} {w0 w : World} {σ : Sig} {d G : Nat}

/-- Does an operation make a row? -/
def bumps : Op → Bool
  | .alloc _ | .box .. | .makeSlice .. => true
  | _ => false
def AfterN (rd : RD) (φ : Phi) (O : Nat → Prop) (w0 : World) (d G : Nat) (b : Bool) (σ' : Sig) (v : AV) (r : Result Next) : Prop :=
  ∃ nx cv w' rd' φ', r = .ok nx w' ∧ (nx = .value cv ∨ (nx = .skip ∧ cv = undef)) ∧ Ext O w0 rd rd' ∧ HRel rd' φ' O w0 σ' w' ∧ VRel rd' φ' v cv ∧ (∀ r g p pl, φ r g p = some pl → φ' r g p = some pl) ∧ (∀ r g p, φ' r g p ≠ none → φ r g p ≠ none ∨ (b = true ∧ r = d ∧ g = G))

theorem After.next {σ' : Sig} {v : AV} {s : Sem Value} (h : After rd φ O w0 d G σ' v (s.run P w)) : AfterN rd φ O w0 d G true σ' v ((do pure (.value (← s)) : Sem Next).run P w) := by
  obtain ⟨cv, w', φ', h1, h2, h3, h4, h5⟩ := h
  exact ⟨.value cv, cv, w', rd, φ', by rw [Sem.run_bind, h1]; rfl, .inl rfl, .refl, h2, h3, h4, fun r g p hp => (h5 r g p hp).imp id fun h => ⟨rfl, h⟩⟩
theorem After0.next {σ' : Sig} {v : AV} {b : Bool} {s : Sem Value} (h : After0 rd φ O w0 σ' v (s.run P w)) : AfterN rd φ O w0 d G b σ' v ((do pure (.value (← s)) : Sem Next).run P w) := by
  obtain ⟨cv, w', h1, h2, h3⟩ := h
  exact ⟨.value cv, cv, w', rd, φ, by rw [Sem.run_bind, h1]; rfl, .inl rfl, .refl, h2, h3, fun _ _ _ _ h => h, fun _ _ _ h => .inl h⟩

theorem absOp_sound (h : HRel rd φ O w0 σ w) (hfr : ∀ p, φ d G p = none) {ev : Operand → AV} {ρ : Operand → Value} (hev : ∀ x, VRel rd φ (ev x) (ρ x)) {o : Oper} {v : AV} {σ' : Sig}
    (ha : absOp P d G ev σ o.op = some (v, σ')) : AfterN rd φ O w0 d G (bumps o.op) σ' v ((execOp ρ o).run P w) := by
  have hN : ∀ {a b : AV × Sig}, some a = some b → a = b := fun e => Option.some.inj e
  unfold execOp
  cases hop : o.op with
  | move x =>
    rw [hop] at ha
    cases ha
    exact ⟨_, _, w, rd, φ, rfl, .inl rfl, .refl, h, hev x, fun _ _ _ _ h => h, fun _ _ _ h => .inl h⟩
  | assign x =>
    rw [hop] at ha
    cases ha
    exact ⟨_, _, w, rd, φ, rfl, .inl rfl, .refl, h, hev x, fun _ _ _ _ h => h, fun _ _ _ h => .inl h⟩
  | pick c a b =>
    rw [hop] at ha
    simp only [absOp] at ha
    obtain ⟨u, hu, e⟩ := Option.map_eq_some_iff.1 ha
    cases e
    unfold absPick at hu
    have hc := hev c
    split at hu
    · rename_i heq
      rw [heq] at hc
      cases hu
      exact ⟨_, _, w, rd, φ, by simp [sc_inv hc, asBool], .inl rfl, .refl, h, hev a, fun _ _ _ _ h => h, fun _ _ _ h => .inl h⟩
    · rename_i heq
      rw [heq] at hc
      cases hu
      exact ⟨_, _, w, rd, φ, by simp [sc_inv hc, asBool], .inl rfl, .refl, h, hev b, fun _ _ _ _ h => h, fun _ _ _ h => .inl h⟩
    · cases hu
  | alloc t =>
    rw [hop] at ha
    exact (alloc_sound h hfr ha _).next
  | box t x =>
    rw [hop] at ha
    exact (box_sound h hfr (hev x) ha).next
  | load t a =>
    rw [hop] at ha
    obtain ⟨u, hu, e⟩ := Option.map_eq_some_iff.1 ha
    cases e
    exact (load_sound h (hev a) hu).next
  | store t a x =>
    rw [hop] at ha
    obtain ⟨u, hu, e⟩ := Option.map_eq_some_iff.1 ha
    cases e
    obtain ⟨w', rd', h1, hx, h2⟩ := store_sound h (hev a) (hev x) hu
    exact ⟨.skip, undef, w', rd', φ, by simp only [Sem.run_bind, h1]; rfl, .inr ⟨rfl, rfl⟩, hx, h2, .dead _, fun _ _ _ _ h => h, fun _ _ _ h => .inl h⟩
  | fieldAddr t x f =>
    rw [hop] at ha
    obtain ⟨u, hu, e⟩ := Option.map_eq_some_iff.1 ha
    cases e
    exact (fieldAddr_sound h (hev x) hu).next
  | extract x i =>
    rw [hop] at ha
    obtain ⟨u, hu, e⟩ := Option.map_eq_some_iff.1 ha
    cases e
    exact (extract_sound h (hev x) hu).next
  | nilCheck x =>
    rw [hop] at ha
    obtain ⟨u, hu, e⟩ := Option.map_eq_some_iff.1 ha
    cases e
    have hx := hev x
    unfold absNilCheck at hu
    split at hu
    · rename_i heq
      rw [heq] at hx
      cases hu
      cases hc : ρ x with
      | pointer A =>
        cases A with
        | none => rw [hc] at hx; cases hx
        | some A => rw [hc] at hx; exact ⟨_, _, w, rd, φ, by simp only [hc]; rfl, .inl rfl, .refl, h, hx, fun _ _ _ _ h => h, fun _ _ _ h => .inl h⟩
      | _ => rw [hc] at hx; cases hx
    · rename_i heq
      rw [heq] at hx
      cases hu
      cases hc : ρ x with
      | pointer A =>
        cases A with
        | none => rw [hc] at hx; cases hx
        | some A => rw [hc] at hx; exact ⟨_, _, w, rd, φ, by simp only [hc]; rfl, .inl rfl, .refl, h, hx, fun _ _ _ _ h => h, fun _ _ _ h => .inl h⟩
      | _ => rw [hc] at hx; cases hx
    · cases hu
  | binOp op t x y yt =>
    rw [hop] at ha
    obtain ⟨u, hu, e⟩ := Option.map_eq_some_iff.1 ha
    cases e
    exact (bin_sound h (hev x) (hev y) hu).next
  | unOp op t x =>
    rw [hop] at ha
    obtain ⟨u, hu, e⟩ := Option.map_eq_some_iff.1 ha
    cases e
    exact (un_sound h (hev x) hu).next
  | convert s t x =>
    rw [hop] at ha
    obtain ⟨u, hu, e⟩ := Option.map_eq_some_iff.1 ha
    cases e
    unfold absConvS at hu
    split at hu
    · rename_i h1 h2
      exact (b2s_sound h h2 h1 (hev x) hu).next
    · exact (conv_sound h (hev x) hu).next
  | slice t x lo hi mx =>
    rw [hop] at ha
    obtain ⟨u, hu, e⟩ := Option.map_eq_some_iff.1 ha
    cases e
    have aux : ∀ (o : Option Operand) (a : AV), o.map ev = some a → ∃ c, o.map ρ = some c ∧ VRel rd φ a c := by
      intro o a h
      cases o with
      | none => cases h
      | some x => cases h; exact ⟨_, rfl, hev x⟩
    have auxn : ∀ (o : Option Operand), o.map ev = none → o.map ρ = none := by
      intro o h
      cases o with
      | none => rfl
      | some x => cases h
    exact (slice_sound h (hev x) (aux lo) (auxn lo) (aux hi) (auxn hi) (auxn mx) hu).next
  | index t x y =>
    rw [hop] at ha
    obtain ⟨u, hu, e⟩ := Option.map_eq_some_iff.1 ha
    cases e
    exact (index_sound h (hev x) (hev y) hu).next
  | field t x f =>
    rw [hop] at ha
    obtain ⟨u, hu, e⟩ := Option.map_eq_some_iff.1 ha
    cases e
    exact (field_sound h (hev x) hu).next
  | build t parts =>
    rw [hop] at ha
    obtain ⟨u, hu, e⟩ := Option.map_eq_some_iff.1 ha
    cases e
    exact (build_sound h hev hu).next
  | buildSlice t len parts =>
    rw [hop] at ha
    obtain ⟨u, hu, e⟩ := Option.map_eq_some_iff.1 ha
    cases e
    obtain ⟨cv, w', rd', h1, h2, h3, h4⟩ := buildRo_sound h hev hu
    exact ⟨.value cv, cv, w', rd', φ, by simp only [Sem.run_bind, h1, Result.andThen_ok, Sem.run_pure], .inl rfl, h2, h3, h4, fun _ _ _ _ h => h, fun _ _ _ h => .inl h⟩
  | indexAddr t x y =>
    rw [hop] at ha
    obtain ⟨u, hu, e⟩ := Option.map_eq_some_iff.1 ha
    cases e
    exact (indexAddr_sound h (hev x) (hev y) hu).next
  | makeSlice t l c =>
    rw [hop] at ha
    exact (make_sound h hfr (hev l) (hev c) ha).next
  | call c =>
    rw [hop] at ha
    simp only [absOp] at ha
    split at ha
    · rename_i x t hcal hargs hts
      obtain ⟨u, hu, e⟩ := Option.map_eq_some_iff.1 ha
      cases e
      have h1 : c.args = #[x] := by rw [← Array.toList_inj, hargs]
      have h2 : c.argTypes = #[t] := by rw [← Array.toList_inj, hts]
      have key := (len_sound h (hev x) hu c.argTypes (by rw [h2]; rfl) o.type (c.args.map ρ) (by rw [h1]; simp)).next (d := d) (G := G) (b := bumps (.call c))
      simp only [resolve, hcal]
      exact key
    · rename_i x y hcal hargs
      obtain ⟨u, hu, e⟩ := Option.map_eq_some_iff.1 ha
      cases e
      have h1 : c.args = #[x, y] := by rw [← Array.toList_inj, hargs]
      unfold absMin at hu
      split at hu
      · rename_i k a k' b ha' hb'
        have e1 := hev x
        have e2 := hev y
        rw [ha'] at e1
        rw [hb'] at e2
        cases hu
        have c1 := sc_inv e1
        have c2 := sc_inv e2
        refine ⟨.value (.int k (min a b)), .int k (min a b), w, rd, φ, ?_, .inl rfl, .refl, h, .sc _ rfl, fun _ _ _ _ h => h, fun _ _ _ h => .inl h⟩
        have e3 : (min a b : Int) = if b < a then b else a := by omega
        simp [resolve, hcal, h1, invoke, builtin, Builtin.min_, c1, c2, Builtin.min2, e3]
      · cases hu
    · rename_i x y hcal hargs
      obtain ⟨u, hu, e⟩ := Option.map_eq_some_iff.1 ha
      cases e
      have h1 : c.args = #[x, y] := by rw [← Array.toList_inj, hargs]
      unfold absMax at hu
      split at hu
      · rename_i k a k' b ha' hb'
        have e1 := hev x
        have e2 := hev y
        rw [ha'] at e1
        rw [hb'] at e2
        cases hu
        have c1 := sc_inv e1
        have c2 := sc_inv e2
        refine ⟨.value (.int k (max a b)), .int k (max a b), w, rd, φ, ?_, .inl rfl, .refl, h, .sc _ rfl, fun _ _ _ _ h => h, fun _ _ _ h => .inl h⟩
        have e3 : (max a b : Int) = if b > a then b else a := by omega
        simp [resolve, hcal, h1, invoke, builtin, Builtin.max_, c1, c2, Builtin.max2, e3]
      · cases hu
    · cases ha
  | _ => rw [hop] at ha; cases ha
end

/-! ### The state of a call -/
structure St where
  n : Nat
  tm : List (Nat × AV)
  σ : Sig
  G : Nat

def ev (s : St) : Operand → AV
  | .tmp t => match lookA s.tm t with
    | some v => v
    | none => .dead
  | .const v => absV v
  | .func f => .sc (.func (.func f) #[] #[])
  | .global _ => .dead

structure Rel (rd : RD) (φ : Phi) (O : Nat → Prop) (w0 : World) (s : St) (a : Act) (w : World) : Prop where
  heap : HRel rd φ O w0 s.σ w
  tm : ∀ t v, lookA s.tm t = some v → VRel rd φ v (a.tmps.getD t undef)
  size : a.tmps.size = s.n
  defers : a.defers = []
  gen : ∀ r g p, φ r g p ≠ none → g < s.G

/-- More is known than before; and the names of what was moved in stay. -/
abbrev REnv := RD × Phi
def ExtE (O : Nat → Prop) (w0 : World) (E : REnv) (rd : RD) (φ : Phi) : Prop := Ext O w0 E.1 rd ∧ ∀ r p pl, E.2 r 0 p = some pl → 1000000 ≤ r → φ r 0 p = some pl
theorem ExtE.refl {O : Nat → Prop} {w0 : World} {rd : RD} {φ : Phi} : ExtE O w0 (rd, φ) rd φ := ⟨.refl, fun _ _ _ h _ => h⟩
theorem ExtE.step {O : Nat → Prop} {w0 : World} {E : REnv} {rd rd' : RD} {φ φ' : Phi} (h : ExtE O w0 E rd φ) (hx : Ext O w0 rd rd') (hφ : ∀ r g p pl, φ r g p = some pl → φ' r g p = some pl) : ExtE O w0 E rd' φ' :=
  ⟨h.1.trans hx, fun r p pl e hr => hφ _ _ _ _ (h.2 r p pl e hr)⟩
def RelE (E : REnv) (O : Nat → Prop) (w0 : World) (s : St) (a : Act) (w : World) : Prop := ∃ rd' φ, ExtE O w0 E rd' φ ∧ Rel rd' φ O w0 s a w

/-- A slot is written; the next operation. -/
def bmp : Bool → Nat → Nat
  | true, G => G + 1
  | false, G => G
def put (s : St) (dst : Option Nat) (v : AV) (σ : Sig) (b : Bool) (K : St → Prop) : Prop :=
  match dst with
  | none => K ⟨s.n, s.tm, σ, bmp b s.G⟩
  | some d => match Nat.blt d s.n with
    | true => K ⟨s.n, (d, v) :: s.tm, σ, bmp b s.G⟩
    | false => False

section
variable {P : Program} {rd : RD} {φ : Phi} {O : Nat → Prop} {w0 w : World} {s : St} {a : Act}

theorem Rel.ev (h : Rel rd φ O w0 s a w) (x : Operand) : VRel rd φ (ev s x) (a.eval x) := by
  cases x with
  | tmp t =>
    simp only [E.ev, Act.eval]
    cases hl : lookA s.tm t with
    | none => exact .dead _
    | some v => exact h.tm t v hl
  | const v => exact absV_rel v
  | func f => exact .sc _ rfl
  | global g => exact .dead _

theorem getD_set (a : Act) (d t : Nat) (v : Value) (hd : d < a.tmps.size) : (a.put (some d) v).tmps.getD t undef = if t = d then v else a.tmps.getD t undef := by
  simp only [Act.put, Array.getD_eq_getD_getElem?, Array.getElem?_setIfInBounds]
  by_cases h : t = d
  · subst h; simp [hd]
  · have h' : ¬ d = t := fun e => h e.symm
    simp [h, h']

theorem Rel.put (h : Rel rd φ O w0 s a w) {dst : Option Nat} {v : AV} {σ : Sig} {b : Bool} {K : St → Prop} (hk : E.put s dst v σ b K) {rd' : RD} (hx : ∀ b o v, rd b o = some v → rd' b o = some v) {φ' : Phi} {w' : World} {cv : Value} (hh : HRel rd' φ' O w0 σ w')
    (hv : VRel rd' φ' v cv) (h4 : ∀ r g p pl, φ r g p = some pl → φ' r g p = some pl) (h5 : ∀ r g p, φ' r g p ≠ none → φ r g p ≠ none ∨ (b = true ∧ r = dst.getD 0 ∧ g = s.G)) :
    ∃ s', K s' ∧ Rel rd' φ' O w0 s' (a.put dst cv) w' := by
  have hg : ∀ r g p, φ' r g p ≠ none → g < bmp b s.G := fun r g p hp => (h5 r g p hp).elim (fun h' => by have := h.gen r g p h'; cases b <;> simp only [bmp] <;> omega) (fun ⟨hb, _, h'⟩ => by subst hb; simp only [bmp]; omega)
  unfold E.put at hk
  cases dst with
  | none => exact ⟨_, hk, hh, fun t v hl => (h.tm t v hl).mono hx h4, h.size, h.defers, hg⟩
  | some d =>
    simp only at hk
    split at hk
    · rename_i hd
      have hd : d < s.n := Nat.le_of_ble_eq_true hd
      refine ⟨_, hk, hh, fun t u hl => ?_, by simp [Act.put, h.size], h.defers, hg⟩
      rw [getD_set _ _ _ _ (by rw [h.size]; exact hd)]
      simp only [lookA_cons] at hl
      by_cases ht : d = t
      · rw [if_pos ht] at hl
        rw [if_pos ht.symm]
        cases hl
        exact hv
      · rw [if_neg ht] at hl
        rw [if_neg (fun e => ht e.symm)]
        exact (h.tm t u hl).mono hx h4
    · exact hk.elim
end

/-! ### What a called function answers -/
def lookF : List (List Nat × Row) → Frag
  | [], _ => none
  | (q, row) :: l, p => if p = q then some row else lookF l p
def sigOf : List (List Nat × Row) → Sig
  | [] => []
  | l => [(0, (0, lookF l))]
def phi0 (ψ : List Nat → Option Pl) : Phi := fun r g p => match r, g with
  | 0, 0 => ψ p
  | _, _ => none

/-- There is such a function, and it has a body. -/
def FnOK (P : Program) (n : Nat) : Prop := ∃ fn, P.funcs[n]? = some fn ∧ (fn.name == "runtime.NumGoroutine") = false ∧ fn.body.isNone = false
/-- THE CONTRACT of a function that writes to nothing that was there: of arguments that name no rows it makes 'res', and the rows 'rf' that 'res' names; what it shows besides may be read for ever. -/
def CallR (P : Program) (n : Nat) (args : List AV) (res : AV) (rf : List (List Nat × Row)) : Prop :=
  FnOK P n ∧ ∀ (w : World) (rd : RD) (cargs : Array Value), (∀ b o v, rd b o = some v → w.cell? (mkA b o) = some v) → PW rd (fun _ _ _ => none) args cargs.toList →
    Calls P n cargs w fun e w' => ∃ v rd' ψ, e = .returned v ∧ Ext (fun _ => False) w rd rd' ∧ HRel rd' (phi0 ψ) (fun _ => False) w (sigOf rf) w' ∧ VRel rd' (phi0 ψ) res v

def nmC (d G : Nat) : AV → AV
  | .blk _ _ p sz off len => .blk d G p sz off len
  | .ptr _ _ p sz i o => .ptr d G p sz i o
  | .agg _ | .tup _ => .dead
  | v => v
def nmA (d G : Nat) : AV → AV
  | .agg cs => .agg (cs.map (nmC d G))
  | v => nmC d G v
def nm (d G : Nat) : AV → AV
  | .tup vs => .tup (vs.map (nmA d G))
  | v => nmA d G v

def resOK (rf : List (List Nat × Row)) : Bool := rf.all fun x => Nat.ble 1 x.2.fl
def addF (σ : Sig) (d G : Nat) (rf : List (List Nat × Row)) : Sig :=
  match rf with
  | [] => σ
  | rf => setA σ d (G, lookF rf)

/-- Two ways. -/
def Br (b : Bool) (X Y : Prop) : Prop := match b with
  | true => X
  | false => Y
theorem Br_true {X Y : Prop} : Br true X Y = X := rfl
theorem Br_false {X Y : Prop} : Br false X Y = Y := rfl
theorem Br_congr {b b' : Bool} {X Y : Prop} (h : b = b') : Br b X Y = Br b' X Y := by rw [h]
theorem Br_intro {b : Bool} {X Y : Prop} (h : b = true → X) (k : b = false → Y) : Br b X Y := by
  cases b with
  | true => exact h rfl
  | false => exact k rfl
def onSome {α : Type} (x : Option α) (K : α → Prop) : Prop := match x with
  | some v => K v
  | none => False
theorem onSome_some {α : Type} {v : α} {K : α → Prop} : onSome (some v) K = K v := rfl
theorem onSome_congr {α : Type} {x x' : Option α} {K : α → Prop} (h : x = x') : onSome x K = onSome x' K := by rw [h]
theorem onSome_elim {α : Type} {x : Option α} {K : α → Prop} (h : onSome x K) : ∃ v, x = some v ∧ K v := by
  cases x with
  | none => cases h
  | some v => exact ⟨v, rfl, h⟩
theorem onSome_intro {α : Type} {x : Option α} {K : α → Prop} {v : α} (e : x = some v) (h : K v) : onSome x K := by rw [e]; exact h

/-- A call is wanted: whoever knows what it makes goes on. -/
def Want (P : Program) (n : Nat) (args : List AV) (K : AV → List (List Nat × Row) → Prop) : Prop := ∃ res rf, CallR P n args res rf ∧ K res rf
theorem Want.intro {P : Program} {n : Nat} {args : List AV} {K : AV → List (List Nat × Row) → Prop} {res : AV} {rf : List (List Nat × Row)} (h : CallR P n args res rf) (k : K res rf) : Want P n args K := ⟨res, rf, h, k⟩
theorem Want_congr {P : Program} {n : Nat} {args args' : List AV} {K : AV → List (List Nat × Row) → Prop} (h : args = args') : Want P n args K = Want P n args' K := by rw [h]

def PutK (s : St) (dst : Option Nat) (b : Bool) (K : St → Prop) (x : AV × Sig) : Prop := put s dst x.1 x.2 b K
def CallK (s : St) (d : Option Nat) (K : St → Prop) (σ : Sig) (res : AV) (rf : List (List Nat × Row)) : Prop :=
  resOK rf = true ∧ put s d (nm (d.getD 0) s.G res) (addF σ (d.getD 0) s.G rf) true K
def WantK (P : Program) (s : St) (d : Option Nat) (n : Nat) (K : St → Prop) (x : Sig × List AV) : Prop := Want P n x.2 (CallK s d K x.1)
/-- The call of a function: its arguments are frozen, it is wanted what it makes of them; and so on. -/
def vcCall (P : Program) (s : St) (o : Oper) (n : Nat) (args : List AV) (K : St → Prop) : Prop :=
  onSome (frzAll s.σ args) (WantK P s o.dst n K)
def vcOp (P : Program) (o : Oper) (s : St) (K : St → Prop) : Prop :=
  match o.op with
  | .call c => match c.callee with
    | .value (.func n) => vcCall P s o n (c.args.toList.map (ev s)) K
    | _ => onSome (absOp P (o.dst.getD 0) s.G (ev s) s.σ o.op) (PutK s o.dst (bumps o.op) K)
  | _ => onSome (absOp P (o.dst.getD 0) s.G (ev s) s.σ o.op) (PutK s o.dst (bumps o.op) K)

def slotOf (ops : Array Oper) (j : Nat) : Option Nat := match ops[j]? with
  | some o => o.dst
  | none => none
/-- One operation of a region, its guard asked. -/
def vcStep (P : Program) (ops : Array Oper) (o : Oper) (s : St) (K : St → Prop) : Prop :=
  match o.guard with
  | none => vcOp P o s K
  | some (j, want) => match slotOf ops j with
    | none => False
    | some t => match lookA s.tm t with
      | some (.sc (.bool b)) => Br b (Br want (vcOp P o s K) (put s o.dst (.tup []) s.σ false K)) (Br want (put s o.dst (.tup []) s.σ false K) (vcOp P o s K))
      | some (.tup []) => put s o.dst (.tup []) s.σ false K
      | _ => False
def vcOps (P : Program) (ops : Array Oper) : List Oper → St → (St → Prop) → Prop
  | [], s, Q => Q s
  | o :: os, s, Q => vcStep P ops o s fun s' => vcOps P ops os s' Q

section
variable {P : Program} {rd : RD} {φ : Phi} {O : Nat → Prop} {w0 w : World} {s : St} {a : Act}

theorem nmC_rel {ψ : List Nat → Option Pl} {d G : Nat} {c : AV} {v : Value} (h : VRel rd (phi0 ψ) c v) : VRel rd (phiSet φ d G ψ) (nmC d G c) v := by
  have h0 : ∀ {r g : Nat} {p : List Nat} {pl : Pl}, phi0 ψ r g p = some pl → phiSet φ d G ψ d G p = some pl := by
    intro r g p pl hp
    unfold phi0 at hp
    split at hp
    · simp [phiSet, hp]
    · cases hp
  cases h with
  | blk r g p sz off len pl A hφ hA hl => exact .blk d G p sz off len pl A (h0 hφ) hA hl
  | ptr r g p sz i o pl b q hφ had => exact .ptr d G p sz i o pl b q (h0 hφ) had
  | dead v => exact .dead v
  | sc v h => exact .sc v h
  | nilS => exact .nilS
  | ro0 sz A cap => exact .ro0 sz A cap
  | ro sz es b q cap f hc hs hr hv => exact (VRel.ro sz es b q cap f hc hs hr hv).of_sf rfl
  | rp cs b q f hs hr hv => exact (VRel.rp cs b q f hs hr hv).of_sf rfl
  | agg => exact .dead _
  | tup => exact .dead _
  | it r => exact .it r
theorem PW.map {φ' : Phi} {g : AV → AV} (hg : ∀ {c v}, VRel rd φ c v → VRel rd φ' (g c) v) {cs : List AV} {vs : List Value} (h : PW rd φ cs vs) : PW rd φ' (cs.map g) vs :=
  ⟨by simp [h.1], fun j c hc => by
    rw [List.getElem?_map] at hc
    obtain ⟨c', hc', rfl⟩ := Option.map_eq_some_iff.1 hc
    obtain ⟨v, hv, hr⟩ := h.2 j c' hc'
    exact ⟨v, hv, hg hr⟩⟩
theorem nmA_rel {ψ : List Nat → Option Pl} {d G : Nat} {c : AV} {v : Value} (h : VRel rd (phi0 ψ) c v) : VRel rd (phiSet φ d G ψ) (nmA d G c) v := by
  cases c with
  | agg cs =>
    obtain ⟨arr, rfl, hp⟩ := PW.of_agg h
    exact PW.agg (hp.map nmC_rel)
  | _ => exact nmC_rel h
theorem nm_rel {ψ : List Nat → Option Pl} {d G : Nat} {c : AV} {v : Value} (h : VRel rd (phi0 ψ) c v) : VRel rd (phiSet φ d G ψ) (nm d G c) v := by
  cases c with
  | tup cs =>
    obtain ⟨arr, rfl, hp⟩ := PW.of_tup h
    exact PW.tup (hp.map nmA_rel)
  | _ => exact nmA_rel h

end

end Go.Proofs.Ytkhemolkhegppaa.E
