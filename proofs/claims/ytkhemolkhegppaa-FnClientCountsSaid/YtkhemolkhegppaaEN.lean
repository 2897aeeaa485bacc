/-
  E, part N: one operation, of whatever kind; regions that draw their order: whatever order is drawn, it comes to what a tree of orders tells.
-/
import Derived.Test.YtkhemolkhegppaaEX
import Derived.Orders
import Derived.Lib.ConvBytes
namespace Go.Proofs.Ytkhemolkhegppaa.E
open Go Go.RowKit
set_option linter.unusedVariables false

/-! ### Operations that make or change rows -/
def absNew (P : Program) (d G : Nat) (ev : Operand → AV) (σ : Sig) : Op → Option (AV × Sig)
  | .buildSlice t len parts => absBuildOwn P d G σ t len (parts.toList.map fun x => (x.1, ev x.2))
  | .convert s t x => match tk P s with
    | some .string => s2bR P d G σ t (ev x)
    | _ => none
  | .call c => match c.callee, c.args.toList, c.argTypes.toList with
    | .builtin .append, [x, y], [t, tx] => absAppend P d G σ t tx (ev x) (ev y)
    | .builtin .copy, [x, y], [t, tx] => absCopy P σ t tx (ev x) (ev y)
    | _, _, _ => none
  | _ => none

section
variable {P : Program} {rd : RD} {φ : Phi} {O : Nat → Prop} {w0 w : World} {σ : Sig} {d G : Nat}
theorem bytesWorld_eq (w : World) (e : TypeId) (s : ByteArray) : Lib.bytesWorld w e s = w.drew.alloc (.cells (Lib.bytesCells w e s) e ((Lib.bytesCells w e s).size, (Lib.bytesCells w e s).size + 1)) := by
  have hh : (Lib.bytesWorld w e s).heap = (w.drew.alloc (.cells (Lib.bytesCells w e s) e ((Lib.bytesCells w e s).size, (Lib.bytesCells w e s).size + 1))).heap := by
    apply Array.ext_getElem?
    intro i
    rcases Nat.lt_trichotomy i w.heap.size with h | h | h
    · rw [Lib.bytesWorld_at_old w e s i h]
      have := Below.heap_alloc w.drew (.cells (Lib.bytesCells w e s) e ((Lib.bytesCells w e s).size, (Lib.bytesCells w e s).size + 1)) i h
      rw [this]; rfl
    · subst h
      rw [Lib.bytesWorld_at_new]
      show _ = (w.heap.push _)[w.heap.size]?
      rw [Array.getElem?_push_size]
    · rw [Array.getElem?_eq_none (by rw [Lib.bytesWorld_size]; omega), Array.getElem?_eq_none (by rw [World.size_alloc]; show w.heap.size + 1 ≤ i; omega)]
  have hext : ∀ a b : World, a.heap = b.heap → a.tape = b.tape → a.drawn = b.drawn → a.os = b.os → a.output = b.output → a = b := by
    rintro ⟨⟩ ⟨⟩ h1 h2 h3 h4 h5
    simp_all
  exact hext _ _ hh rfl rfl rfl rfl
theorem s2b_sound (h : HRel rd φ O w0 σ w) (hfr : ∀ p, φ d G p = none) {s t : Nat} {x v : AV} {cx : Value} (hs : tk P s = some .string) (hx : VRel rd φ x cx) {σ' : Sig} (ha : s2bR P d G σ t x = some (v, σ')) :
    After rd φ O w0 d G σ' v ((convert s t cx).run P w) := by
  unfold s2bR at ha
  obtain ⟨i, hi, ha1⟩ := Option.bind_eq_some_iff.1 ha
  split at ha1
  · rename_i b hk hel
    cases ha1
    cases sc_inv hx
    have hu : P.underlying t = some (.slice i.el) := by
      obtain ⟨i', hi', hk'⟩ := ti_k hk
      rw [hi] at hi'
      cases hi'
      exact ti_el_slice hi hk'
    have he : P.underlying i.el = some (.int .u8) := by
      obtain ⟨e, he, hk⟩ := ti_k hel
      obtain ⟨dsc, h1, h2, _⟩ := ti_desc he
      rw [hk] at h2
      cases dsc <;> simp [kindOf] at h2
      rw [h1, h2]
    rw [Lib.run_convert_string_bytes w s t i.el b (tk_string hs) hu he, bytesWorld_eq]
    have hge := grownCap_ge w b.size 0 i.el
    have hl : (b.data.toList.map byteC).length = b.size := by rw [List.length_map, Array.length_toList]; rfl
    have hsz : (Lib.bytesCells w i.el b).size = grownCap w b.size 0 i.el := by
      have : b.data.size = b.size := rfl
      simp [Lib.bytesCells, this]; omega
    have hn := h.drew.newRow hfr ⟨1, b.data.toList.map byteC, 2, false⟩ rfl (grownCap w b.size 0 i.el) (Lib.bytesCells w i.el b) i.el ((Lib.bytesCells w i.el b).size, (Lib.bytesCells w i.el b).size + 1) (.inl (Nat.le_refl _))
      (fun e he => by obtain ⟨x, _, rfl⟩ := List.mem_map.1 he; rfl) (by rw [hl]; exact hge) (by rw [hsz, Nat.mul_one]; exact Nat.le_refl _)
      (fun e he => by obtain ⟨x, _, rfl⟩ := List.mem_map.1 he; exact KOK.ofC (byteC x))
      (fun a c u hc => by
        simp only [List.getElem?_map] at hc
        cases hb : b.data.toList[a]? with
        | none => rw [hb] at hc; cases hc
        | some y =>
          rw [hb] at hc
          cases c with
          | zero =>
            simp only [Option.map_some, Option.bind_some, byteC, List.getElem?_cons_zero, Option.some.injEq] at hc
            subst hc
            have hlt : a < b.data.size := by
              rcases Nat.lt_or_ge a b.data.size with hx | hx
              · exact hx
              · rw [List.getElem?_eq_none (by simpa using hx)] at hb; cases hb
            refine ⟨.int .u8 y.toNat, ?_, .sc _ rfl⟩
            have hb' : b.data[a]? = some y := by rw [← hb]; simp
            simp only [Lib.bytesCells, Nat.mul_one, Nat.add_zero]
            rw [Array.getElem?_append_left (by simpa using hlt), Array.getElem?_map, hb']
            rfl
          | succ c => simp [byteC] at hc)
    refine ⟨_, _, _, rfl, hn.1, ?_, hn.2, fun r g p hh => phiSet_new r g p hh⟩
    have := VRel.blk (rd := rd) (φ := phiSet φ d G fun p => match p with | [] => some ⟨some (w.heap.size, 0), grownCap w b.size 0 i.el⟩ | _ => none) d G [] 1 0 b.data.toList.length ⟨some (w.heap.size, 0), grownCap w b.size 0 i.el⟩ (some (mkA w.heap.size 0)) (by simp [phiSet]) (.inr (by simp)) (by rw [Array.length_toList]; simpa using hge)
    have e1 : b.data.toList.length = b.size := by rw [Array.length_toList]; rfl
    rw [e1] at this ⊢
    exact this
  · cases ha1

theorem absNew_sound (h : HRel rd φ O w0 σ w) (hfr : ∀ p, φ d G p = none) {ev : Operand → AV} {ρ : Operand → Value} (hev : ∀ x, VRel rd φ (ev x) (ρ x)) {o : Oper} {v : AV} {σ' : Sig}
    (ha : absNew P d G ev σ o.op = some (v, σ')) : AfterN rd φ O w0 d G true σ' v ((execOp ρ o).run P w) := by
  unfold execOp
  cases hop : o.op with
  | buildSlice t len parts =>
    rw [hop] at ha
    exact (buildOwn_sound h hfr hev ha).next
  | convert s t x =>
    rw [hop] at ha
    simp only [absNew] at ha
    split at ha
    · rename_i hs
      exact (s2b_sound h hfr hs (hev x) ha).next
    · cases ha
  | call c =>
    rw [hop] at ha
    simp only [absNew] at ha
    split at ha
    · rename_i x y t tx hcal hargs hts
      have h1 : c.args = #[x, y] := by rw [← Array.toList_inj, hargs]
      have h2 : c.argTypes = #[t, tx] := by rw [← Array.toList_inj, hts]
      have key := (append_sound (ty := o.type) h hfr (hev x) (hev y) ha).next
      have e1 : Array.map ρ #[x, y] = #[ρ x, ρ y] := by simp
      simp only [resolve, hcal, h1, h2, e1]
      exact key
    · rename_i x y t tx hcal hargs hts
      have h1 : c.args = #[x, y] := by rw [← Array.toList_inj, hargs]
      have h2 : c.argTypes = #[t, tx] := by rw [← Array.toList_inj, hts]
      have key := (copy_sound (ty := o.type) h (hev x) (hev y) ha).next (d := d) (G := G) (b := true)
      have e1 : Array.map ρ #[x, y] = #[ρ x, ρ y] := by simp
      simp only [resolve, hcal, h1, h2, e1]
      exact key
    · cases ha
  | _ => rw [hop] at ha; cases ha
end

/-! ### One operation -/
def CanC (P : Program) (n d G : Nat) (σ : Sig) (args : List AV) (v : AV) (σ' : Sig) : Prop :=
  ∃ σ1 as res rf, frzAll σ args = some (σ1, as) ∧ CallR P n as res rf ∧ resOK rf = true ∧ v = nm d G res ∧ σ' = addF σ1 d G rf
def CanL (P : Program) (n d G : Nat) (σ : Sig) (args : List AV) (v : AV) (σ' : Sig) : Prop :=
  ∃ σ1 as res rf, frzAll σ args = some (σ1, as) ∧ CallR P n as res rf ∧ (plainT res = true ∧ plainRf rf = true) ∧ v = nm d G res ∧ σ' = addF σ d G rf
def CanM (P : Program) (n d G : Nat) (σ : Sig) (args : List AV) (v : AV) (σ' : Sig) : Prop :=
  ∃ ms L σ1 as σin res σout, L = disc false σ 1 30 1000000 [] (nmsM ms args) ∧ (distN L = true ∧ inOK L = true) ∧ prepG (lkN L) σ ms args = some (σ1, as) ∧ renS σ1 (lkN L) L = some σin ∧ CallM P n σin as res σout ∧
    distK σout = true ∧ outS (bkN L d G) (delL σ1 L) σout = some σ' ∧ v = mapT (bkN L d G) res
/-- Functions with a value of no cells bound; values of no cells. -/
def fnOf : Value → Option Nat
  | .func (.func n) first captured => match first.toList, captured.toList with
    | [.agg a], [] => match a.toList with
      | [] => some n
      | _ => none
    | _, _ => none
  | _ => none
theorem fnOf_eq {n : Nat} : fnOf (.func (.func n) #[.agg #[]] #[]) = some n := rfl
def absUnit (P : Program) (t : Nat) : Option AV := (ti P t).bind fun i => match i.ag, i.sz with
  | true, 0 => some (.agg [])
  | _, _ => none
def absFn (f : Nat) : AV → Option AV
  | .agg [] => some (.sc (.func (.func f) #[.agg #[]] #[]))
  | _ => none
def absX (P : Program) (e : Operand → AV) : Op → Option AV
  | .load t (.global g) => absUnit P t
  | .makeFunc (.func f) first captured => match first.toList, captured.toList with
    | [x], [] => absFn f (e x)
    | _, _ => none
  | _ => none
def fnV : AV → Option Nat
  | .sc v => fnOf v
  | _ => none
/-- What an operation may come to. -/
def CanO (P : Program) (d : Nat) (op : Op) (e : Operand → AV) (σ : Sig) (G : Nat) (v : AV) (σ' : Sig) (b : Bool) : Prop :=
  (absOp P d G e σ op = some (v, σ') ∧ b = bumps op) ∨ (absNew P d G e σ op = some (v, σ') ∧ b = true) ∨
  (b = true ∧ ∃ c n, op = .call c ∧ c.callee = .value (.func n) ∧
    (CanC P n d G σ (c.args.toList.map e) v σ' ∨ CanL P n d G σ (c.args.toList.map e) v σ' ∨ CanM P n d G σ (c.args.toList.map e) v σ')) ∨
  (absX P e op = some v ∧ σ' = σ ∧ b = false) ∨
  (b = true ∧ ∃ c n x, op = .call c ∧ c.callee = .value x ∧ fnV (e x) = some n ∧ CanL P n d G σ (.agg [] :: c.args.toList.map e) v σ')
def Can (P : Program) (o : Oper) (e : Operand → AV) (σ : Sig) (G : Nat) (v : AV) (σ' : Sig) (b : Bool) : Prop := CanO P (o.dst.getD 0) o.op e σ G v σ' b
def vcOp2 (P : Program) (o : Oper) (s : St) (K : St → Prop) : Prop := ∃ v σ' b, Can P o (ev s) s.σ s.G v σ' b ∧ put s o.dst v σ' b K
def vcStep2 (P : Program) (ops : Array Oper) (o : Oper) (s : St) (K : St → Prop) : Prop :=
  match o.guard with
  | none => vcOp2 P o s K
  | some (j, want) => match slotOf ops j with
    | none => False
    | some t => match lookA s.tm t with
      | some (.sc (.bool b)) => Br b (Br want (vcOp2 P o s K) (put s o.dst (.tup []) s.σ false K)) (Br want (put s o.dst (.tup []) s.σ false K) (vcOp2 P o s K))
      | some (.tup []) => put s o.dst (.tup []) s.σ false K
      | _ => False
def vcOps2 (P : Program) (ops : Array Oper) : List Oper → St → (St → Prop) → Prop
  | [], s, Q => Q s
  | o :: os, s, Q => vcStep2 P ops o s fun s' => vcOps2 P ops os s' Q

section
variable {P : Program} {rd : RD} {φ : Phi} {O : Nat → Prop} {w0 w : World} {s : St} {a : Act}
theorem enter_of {o : Oper} {c : Call} {n : Nat} (hop : o.op = .call c) (hcal : c.callee = .value (.func n)) (hfn : FnOK P n) : (execOp a.eval o).run P w = .ok (.enter n (c.args.map a.eval)) w := by
  obtain ⟨fn, hf1, hf2, hf3⟩ := hfn
  unfold execOp
  rw [hop]
  have hf2' : ¬ fn.name = "runtime.NumGoroutine" := by simpa using hf2
  have hf3' : ¬ fn.body = none := fun e => by rw [e] at hf3; cases hf3
  simp [resolve, hcal, Act.eval, Deferred.ofValue, invoke, callFunc, hf1, hf2', hf3']
theorem fnOf_inv {v : Value} {n : Nat} (h : fnOf v = some n) : v = .func (.func n) #[.agg #[]] #[] := by
  unfold fnOf at h
  split at h
  · rename_i m first captured
    split at h
    · rename_i a h1 h2
      split at h
      · rename_i h3
        cases h
        have e1 : first = #[.agg a] := by rw [← Array.toList_inj, h1]
        have e2 : captured = #[] := by rw [← Array.toList_inj, h2]
        have e3 : a = #[] := by rw [← Array.toList_inj, h3]
        rw [e1, e2, e3]
      · cases h
    · cases h
  · cases h
theorem fnV_inv {c : AV} {v : Value} {n : Nat} (hv : VRel rd φ c v) (h : fnV c = some n) : v = .func (.func n) #[.agg #[]] #[] := by
  unfold fnV at h
  split at h
  · rw [sc_inv hv]; exact fnOf_inv h
  · cases h
theorem unit_inv {v : Value} (hv : VRel rd φ (.agg []) v) : v = .agg #[] := by
  obtain ⟨arr, rfl, hp⟩ := PW.of_agg hv
  have : arr.toList = [] := List.eq_nil_of_length_eq_zero hp.1.symm
  rw [show arr = #[] by rw [← Array.toList_inj, this]]
theorem absX_sound {ρ : Operand → Value} {d G : Nat} {o : Oper} {v : AV} {e : Operand → AV} {σ : Sig} (h : HRel rd φ O w0 σ w) (hg : ∀ g, ρ (.global g) = .pointer (some ⟨g, 0, none⟩)) (hev : ∀ x, VRel rd φ (e x) (ρ x)) (ha : absX P e o.op = some v) :
    AfterN rd φ O w0 d G false σ v ((execOp ρ o).run P w) := by
  unfold execOp
  unfold absX at ha
  split at ha
  · rename_i t g hop
    rw [hop]
    obtain ⟨i, hi, ha⟩ := Option.bind_eq_some_iff.1 ha
    split at ha
    · rename_i h1 h2
      cases ha
      refine After0.next ?_
      rw [hg]
      obtain ⟨cv, hrun, hv⟩ := ldC_sound (P := P) (rd := rd) (φ := φ) (w := w) hi (cs := []) (b := g) (q := 0) (fun j c hc => by simp at hc) (o := 0) (v := .agg []) (by simp [ldC, h1, h2])
      exact .same h hrun hv
    · cases ha
  · rename_i f first captured hop
    rw [hop]
    split at ha
    · rename_i x h1 h2
      have e1 : first = #[x] := by rw [← Array.toList_inj, h1]
      have e2 : captured = #[] := by rw [← Array.toList_inj, h2]
      unfold absFn at ha
      split at ha
      · rename_i hx
        cases ha
        have hxv := hev x
        rw [hx] at hxv
        have hxv := unit_inv hxv
        refine After0.next ?_
        refine .same h (cv := .func (.func f) #[.agg #[]] #[]) ?_ (.sc _ rfl)
        simp [Instr.makeFunc, e1, e2, hxv]
      · cases ha
    · cases ha
  · cases ha
theorem enter_fn {o : Oper} {c : Call} {n : Nat} {x : Operand} (hop : o.op = .call c) (hcal : c.callee = .value x) (hx : a.eval x = .func (.func n) #[.agg #[]] #[]) (hfn : FnOK P n) : (execOp a.eval o).run P w = .ok (.enter n (#[Value.agg #[]] ++ c.args.map a.eval)) w := by
  obtain ⟨fn, hf1, hf2, hf3⟩ := hfn
  unfold execOp
  rw [hop]
  have hf2' : ¬ fn.name = "runtime.NumGoroutine" := by simpa using hf2
  have hf3' : ¬ fn.body = none := fun e => by rw [e] at hf3; cases hf3
  simp [resolve, hcal, hx, Deferred.ofValue, invoke, callFunc, hf1, hf2', hf3']
theorem vcOp2_sound {rd0 : REnv} (hx0 : ExtE O w0 rd0 rd φ) {o : Oper} {K : St → Prop} {Q : Exit → Act → World → Prop} {next : Act → World → Prop} (h : Rel rd φ O w0 s a w)
    (hv : vcOp2 P o s K) (hn : ∀ s' a' w', K s' → RelE rd0 O w0 s' a' w' → next a' w') : o.wp P a w next Q := by
  have hfr : ∀ p, φ (o.dst.getD 0) s.G p = none := fun p => by
    cases hp : φ (o.dst.getD 0) s.G p with
    | none => rfl
    | some x => exact absurd (h.gen _ s.G p (by rw [hp]; simp)) (Nat.lt_irrefl _)
  obtain ⟨v, σ', b, hc, hk⟩ := hv
  have plain : ∀ {b : Bool}, put s o.dst v σ' b K → AfterN rd φ O w0 (o.dst.getD 0) s.G b σ' v ((execOp a.eval o).run P w) → o.wp P a w next Q := by
    rintro b hk ⟨nx, cv, w', rd', φ', h1, h2, hx, h3, h4, h5, h6⟩
    obtain ⟨s', hs, hrel⟩ := h.put hk hx.1 h3 h4 h5 h6
    unfold Oper.wp
    rw [h1]
    rcases h2 with rfl | ⟨rfl, rfl⟩
    · exact hn _ _ _ hs ⟨rd', φ', hx0.step hx h5, hrel⟩
    · exact hn _ _ _ hs ⟨rd', φ', hx0.step hx h5, hrel⟩
  rcases hc with ⟨ha, rfl⟩ | ⟨ha, rfl⟩ | ⟨rfl, c, n, hop, hcal, hc⟩ | ⟨ha, rfl, rfl⟩ | ⟨rfl, c, n, x, hop, hcal, hfv, hc⟩
  · exact plain hk (absOp_sound h.heap hfr (fun x => h.ev x) ha)
  · exact plain hk (absNew_sound h.heap hfr (fun x => h.ev x) ha)
  · have hpw : PW rd φ (c.args.toList.map (ev s)) (c.args.map a.eval).toList := by
      refine ⟨by simp, fun j x hj => ?_⟩
      rw [List.getElem?_map] at hj
      obtain ⟨y, hy, rfl⟩ := Option.map_eq_some_iff.1 hj
      exact ⟨a.eval y, by simp [hy] , h.ev y⟩
    have fin : FnOK P n ∧ Calls P n (c.args.map a.eval) w (fun e w' => ∃ v s', e = .returned v ∧ K s' ∧ RelE rd0 O w0 s' (a.put o.dst v) w') → o.wp P a w next Q := by
      rintro ⟨hfn, hcall⟩
      unfold Oper.wp
      rw [enter_of hop hcal hfn]
      show Calls P n _ w _
      refine hcall.mono ?_
      rintro e w' ⟨v, s', rfl, hk, hrel⟩
      exact hn _ _ _ hk hrel
    rcases hc with ⟨σ1, as, res, rf, h1, h2, h3, rfl, rfl⟩ | ⟨σ1, as, res, rf, h1, h2, h3, rfl, rfl⟩ | ⟨ms, L, σ1, as, σin, res, σout, rfl, h2, h3, h4, h5, h6, h7, rfl⟩
    · exact fin (vcCall_sound hx0 h hpw (onSome_intro h1 ⟨res, rf, h2, h3, hk⟩))
    · exact fin (vcLend_sound (d := o.dst) hx0 h hpw (onSome_intro h1 ⟨res, rf, h2, h3, hk⟩))
    · exact fin (vcMove_sound (ms := ms) (d := o.dst) hx0 h hpw ⟨h2, onSome_intro h3 (onSome_intro h4 ⟨res, σout, h5, h6, onSome_intro h7 hk⟩)⟩)
  · exact plain hk (absX_sound h.heap (fun _ => rfl) (fun x => h.ev x) ha)
  · have hpw : PW rd φ (AV.agg [] :: c.args.toList.map (ev s)) (#[Value.agg #[]] ++ c.args.map a.eval).toList := by
      rw [Array.toList_append]
      refine PW.cons (PW.agg (arr := #[]) PW.nil) ⟨by simp, fun j x hj => ?_⟩
      rw [List.getElem?_map] at hj
      obtain ⟨y, hy, rfl⟩ := Option.map_eq_some_iff.1 hj
      exact ⟨a.eval y, by simp [hy] , h.ev y⟩
    have fin : FnOK P n ∧ Calls P n (#[Value.agg #[]] ++ c.args.map a.eval) w (fun e w' => ∃ v s', e = .returned v ∧ K s' ∧ RelE rd0 O w0 s' (a.put o.dst v) w') → o.wp P a w next Q := by
      rintro ⟨hfn, hcall⟩
      unfold Oper.wp
      rw [enter_fn hop hcal (fnV_inv (h.ev x) hfv) hfn]
      show Calls P n _ w _
      refine hcall.mono ?_
      rintro e w' ⟨v, s', rfl, hk, hrel⟩
      exact hn _ _ _ hk hrel
    obtain ⟨σ1, as, res, rf, h1, h2, h3, rfl, rfl⟩ := hc
    exact fin (vcLend_sound (d := o.dst) hx0 h hpw (onSome_intro h1 ⟨res, rf, h2, h3, hk⟩))

theorem vcStep2_gen {rd0 : REnv} (hx0 : ExtE O w0 rd0 rd φ) {ops : Array Oper} {i : Nat} {o : Oper} (ho : ops[i]? = some o) {K : St → Prop} {Q : Exit → Act → World → Prop} {next : Act → World → Prop} (h : Rel rd φ O w0 s a w)
    (hv : vcStep2 P ops o s K) (hn : ∀ s' a' w', K s' → RelE rd0 O w0 s' a' w' → next a' w') :
    if Region.wanted o (yielded ops a.tmps) then o.wp P a w next Q ∨ (o.asks P a w ∧ LetsOut Q) else next (a.put o.dst undef) w := by
  have skip : ∀ {s : St}, Rel rd φ O w0 s a w → put s o.dst (.tup []) s.σ false K → next (a.put o.dst undef) w := by
    intro s h hk
    obtain ⟨s', hs, hrel⟩ := h.put hk (fun _ _ _ h => h) h.heap (PW.tup (arr := #[]) PW.nil) (fun _ _ _ _ h => h) (fun _ _ _ h => .inl h)
    exact hn _ _ _ hs ⟨rd, φ, hx0, hrel⟩
  unfold vcStep2 at hv
  split at hv
  · rename_i hg
    have hw : Region.wanted o (yielded ops a.tmps) = true := by simp [Region.wanted, hg]
    rw [if_pos hw]
    exact .inl (vcOp2_sound hx0 h hv hn)
  · rename_i j want hg
    split at hv
    · cases hv
    · rename_i t hslot
      have hslot' : (ops[j]?).bind (·.dst) = some t := by
        unfold slotOf at hslot
        split at hslot
        · rename_i hx; rw [hx]; exact hslot
        · cases hslot
      split at hv
      · rename_i b hl
        obtain ⟨h1, _⟩ := h.known hl
        have hw : Region.wanted o (yielded ops a.tmps) = (b == want) := by
          simp [Region.wanted, hg, yielded, hslot', h1]
        cases b with
        | true =>
          rw [Br_true] at hv
          cases want with
          | true => rw [if_pos (by rw [hw]; rfl)]; exact .inl (vcOp2_sound hx0 h hv hn)
          | false => rw [if_neg (by rw [hw]; decide)]; exact skip h hv
        | false =>
          rw [Br_false] at hv
          cases want with
          | false => rw [if_pos (by rw [hw]; rfl)]; exact .inl (vcOp2_sound hx0 h hv hn)
          | true => rw [if_neg (by rw [hw]; decide)]; exact skip h hv
      · rename_i hl
        have hv0 := h.tm t _ hl
        have hw : Region.wanted o (yielded ops a.tmps) = false := by
          obtain ⟨arr, e, _⟩ := PW.of_tup hv0
          have e2 : ∀ b : Bool, a.tmps[t]? ≠ some (.bool b) := by
            intro b hb
            rw [Array.getD_eq_getD_getElem?, hb] at e
            cases e
          have e3 : yielded ops a.tmps j = none := by
            unfold yielded
            rw [hslot']
            split
            · rename_i b hb
              exact absurd hb (e2 b)
            · rfl
          simp [Region.wanted, hg, e3]
        rw [if_neg (by rw [hw]; decide)]
        exact skip h hv
      · cases hv
theorem vcOps2_sound {rd : REnv} {ops : Array Oper} {K : St → Prop} {Q : Exit → Act → World → Prop} (hn : ∀ s' a' w', K s' → RelE rd O w0 s' a' w' → Q .normal a' w') :
    ∀ (l : List Nat) (os : List Oper), l.map (ops[·]?) = os.map some → ∀ s a w, RelE rd O w0 s a w → vcOps2 P ops os s K → wpOps P ops Q l a w
  | [], [], _, s, a, w, h, hv => hn _ _ _ hv h
  | [], _ :: _, hl, _, _, _, _, _ => by cases hl
  | _ :: _, [], hl, _, _, _, _, _ => by cases hl
  | i :: l, o :: os, hl, s, a, w, ⟨rd', φ, hx, h⟩, hv => by
    simp only [List.map_cons, List.cons.injEq] at hl
    simp only [wpOps, hl.1]
    exact vcStep2_gen hx hl.1 h hv fun s' a' w' hk hr => vcOps2_sound hn l os hl.2 s' a' w' hr hk

/-! What may be said of a step, whatever it is -/
theorem putM {s : St} {d : Option Nat} {v : AV} {σ : Sig} {b : Bool} {K1 K2 : St → Prop} (hk : ∀ s, K1 s → K2 s) (h : put s d v σ b K1) : put s d v σ b K2 := by
  unfold put at h ⊢
  cases d with
  | none => exact hk _ h
  | some d =>
    simp only at h ⊢
    split at h
    · exact hk _ h
    · cases h
theorem vcOp2_mono {o : Oper} {s : St} {K1 K2 : St → Prop} (hk : ∀ s, K1 s → K2 s) (h : vcOp2 P o s K1) : vcOp2 P o s K2 := by
  obtain ⟨v, σ', b, h1, h2⟩ := h
  exact ⟨v, σ', b, h1, putM hk h2⟩
/-- A step is a step of the operation, or leaves it out. -/
theorem vcStep2_map {ops : Array Oper} {o : Oper} {s s' : St} {K K' : St → Prop} (hl : ∀ j w t, o.guard = some (j, w) → slotOf ops j = some t → lookA s.tm t = lookA s'.tm t) (h1 : vcOp2 P o s K → vcOp2 P o s' K') (h2 : put s o.dst (.tup []) s.σ false K → put s' o.dst (.tup []) s'.σ false K')
    (h : vcStep2 P ops o s K) : vcStep2 P ops o s' K' := by
  unfold vcStep2 at h ⊢
  cases hg : o.guard with
  | none => rw [hg] at h; exact h1 h
  | some jw =>
    obtain ⟨j, want⟩ := jw
    rw [hg] at h
    simp only at h ⊢
    cases hs : slotOf ops j with
    | none => rw [hs] at h; cases h
    | some t =>
      rw [hs] at h
      simp only at h ⊢
      rw [← hl j want t hg hs]
      split at h
      · rename_i b hb
        cases b <;> cases want <;> simp only [Br_true, Br_false] at h ⊢ <;> first | exact h1 h | exact h2 h
      · exact h2 h
      · cases h
theorem vcStep2_mono {ops : Array Oper} {o : Oper} {s : St} {K1 K2 : St → Prop} (hk : ∀ s, K1 s → K2 s) (h : vcStep2 P ops o s K1) : vcStep2 P ops o s K2 :=
  vcStep2_map (fun _ _ _ _ _ => rfl) (vcOp2_mono hk) (putM hk) h

/-- The same state, as far as it can be asked. -/
def Eqv (s s' : St) : Prop := s.n = s'.n ∧ s.σ = s'.σ ∧ s.G = s'.G ∧ ∀ t, lookA s.tm t = lookA s'.tm t
theorem Eqv.refl (s : St) : Eqv s s := ⟨rfl, rfl, rfl, fun _ => rfl⟩
theorem Eqv.symm {s s' : St} (h : Eqv s s') : Eqv s' s := ⟨h.1.symm, h.2.1.symm, h.2.2.1.symm, fun t => (h.2.2.2 t).symm⟩
theorem Eqv.trans {s s' s'' : St} (h : Eqv s s') (k : Eqv s' s'') : Eqv s s'' := ⟨h.1.trans k.1, h.2.1.trans k.2.1, h.2.2.1.trans k.2.2.1, fun t => (h.2.2.2 t).trans (k.2.2.2 t)⟩
theorem Eqv.ev {s s' : St} (h : Eqv s s') : ev s = ev s' := by
  funext x
  cases x with
  | tmp t => simp only [E.ev, h.2.2.2 t]
  | _ => rfl
def upto (K : St → Prop) (s : St) : Prop := ∃ t, Eqv t s ∧ K t
theorem upto_upto {K : St → Prop} {s : St} (h : upto (upto K) s) : upto K s := by
  obtain ⟨t, e, u, e2, hk⟩ := h
  exact ⟨u, e2.trans e, hk⟩
theorem put_eqv {s s' : St} {d : Option Nat} {v : AV} {σ : Sig} {b : Bool} {K : St → Prop} (h : Eqv s s') (hk : put s d v σ b K) : put s' d v σ b (upto K) := by
  obtain ⟨n, tm, σ0, G⟩ := s
  obtain ⟨n', tm', σ1, G'⟩ := s'
  obtain ⟨h1, h2, h3, h4⟩ := h
  simp only at h1 h2 h3 h4
  subst h1; subst h2; subst h3
  unfold put at hk ⊢
  cases d with
  | none => exact ⟨⟨n, tm, σ, bmp b G⟩, ⟨rfl, rfl, rfl, h4⟩, hk⟩
  | some d =>
    simp only at hk ⊢
    split at hk
    · exact ⟨⟨n, (d, v) :: tm, σ, bmp b G⟩, ⟨rfl, rfl, rfl, fun t => by simp only [lookA_cons, h4]⟩, hk⟩
    · cases hk
theorem vcOp2_eqv {o : Oper} {s s' : St} {K : St → Prop} (h : Eqv s s') (hk : vcOp2 P o s K) : vcOp2 P o s' (upto K) := by
  obtain ⟨v, σ', b, h1, h2⟩ := hk
  rw [h.ev, h.2.1, h.2.2.1] at h1
  exact ⟨v, σ', b, h1, put_eqv h h2⟩
theorem vcStep2_eqv {ops : Array Oper} {o : Oper} {s s' : St} {K : St → Prop} (h : Eqv s s') (hk : vcStep2 P ops o s K) : vcStep2 P ops o s' (upto K) :=
  vcStep2_map (fun _ _ t _ _ => h.2.2.2 t) (vcOp2_eqv h) (fun hp => by rw [← h.2.1]; exact put_eqv h hp) hk
/-- What a step leaves: one slot more, or none. -/
def ShapeTo (y : Oper) (s s' : St) : Prop := ∃ cy σ' G', s' = ⟨s.n, cy ++ s.tm, σ', G'⟩ ∧ ((cy = [] ∧ y.dst = none) ∨ ∃ t u, y.dst = some t ∧ cy = [(t, u)])
theorem put_shape {y : Oper} {s : St} {v : AV} {σ : Sig} {b : Bool} {K : St → Prop} (h : put s y.dst v σ b K) : put s y.dst v σ b fun s' => K s' ∧ ShapeTo y s s' := by
  unfold put at h ⊢
  cases hd : y.dst with
  | none => rw [hd] at h; exact ⟨h, [], σ, _, rfl, .inl ⟨rfl, hd⟩⟩
  | some d =>
    rw [hd] at h
    simp only at h ⊢
    split at h
    · exact ⟨h, [(d, v)], σ, _, rfl, .inr ⟨d, v, hd, rfl⟩⟩
    · cases h
theorem vcStep2_shape {ops : Array Oper} {y : Oper} {s : St} {K : St → Prop} (h : vcStep2 P ops y s K) : vcStep2 P ops y s fun s' => K s' ∧ ShapeTo y s s' :=
  vcStep2_map (fun _ _ _ _ _ => rfl) (fun ⟨v, σ', b, h1, h2⟩ => ⟨v, σ', b, h1, put_shape h2⟩) put_shape h
end

/-! ### Pure operations -/
def pureK : Op → Bool
  | .move _ | .assign _ | .pick .. | .load .. | .fieldAddr .. | .extract .. | .nilCheck _ | .binOp .. | .unOp .. | .convert .. | .indexAddr .. | .slice .. | .index .. | .field .. | .build .. | .buildSlice .. => true
  | .call c => match c.callee with
    | .builtin .len | .builtin .min | .builtin .max => true
    | _ => false
  | _ => false
/-- .. that look at no row. -/
def freeK : Op → Bool
  | .load .. | .indexAddr .. | .convert .. => false
  | o => pureK o
def pureV (P : Program) (σ : Sig) (ev : Operand → AV) (op : Op) : Option AV := (absOp P 0 0 ev σ op).map (·.1)
theorem absOp_pure {P : Program} {d G : Nat} {ev : Operand → AV} {σ : Sig} {op : Op} (h : pureK op = true) : absOp P d G ev σ op = (pureV P σ ev op).map fun v => (v, σ) := by
  unfold pureV
  cases op <;> simp [pureK] at h <;> simp [absOp, Option.map_map, Function.comp_def]
  rename_i c
  split at h
  · rename_i hc
    rw [hc]
    split <;> first | rfl | simp [Option.map_map, Function.comp_def]
  · rename_i hc
    rw [hc]
    split <;> first | rfl | simp [Option.map_map, Function.comp_def]
  · rename_i hc
    rw [hc]
    split <;> first | rfl | simp [Option.map_map, Function.comp_def]
  · cases h
theorem pureV_free {P : Program} {σ σ' : Sig} {ev : Operand → AV} {op : Op} (h : freeK op = true) : pureV P σ ev op = pureV P σ' ev op := by
  unfold pureV
  cases op <;> simp [freeK, pureK] at h <;> simp [absOp, Option.map_map, Function.comp_def]
  rename_i c
  split at h
  · rename_i hc
    rw [hc]
    split <;> first | rfl | simp [Option.map_map, Function.comp_def]
  · rename_i hc
    rw [hc]
    split <;> first | rfl | simp [Option.map_map, Function.comp_def]
  · rename_i hc
    rw [hc]
    split <;> first | rfl | simp [Option.map_map, Function.comp_def]
  · cases h
theorem pureK_bumps {op : Op} (h : pureK op = true) : bumps op = false := by cases op <;> first | rfl | cases h
theorem mapps_congr {e e' : Operand → AV} {ps : Array (Nat × Operand)} (h : ∀ x ∈ ps, e x.2 = e' x.2) : (ps.toList.map fun x => (x.1, e x.2)) = ps.toList.map fun x => (x.1, e' x.2) :=
  List.map_congr_left fun x hx => by rw [h x (by simpa using hx)]
theorem absOp_congr {P : Program} {d G : Nat} {e e' : Operand → AV} {σ : Sig} {op : Op} (h : ∀ x ∈ op.operands, e x = e' x) : absOp P d G e σ op = absOp P d G e' σ op := by
  cases op
  case call c =>
    simp only [Op.operands] at h
    simp only [absOp]
    have hx : ∀ x ∈ c.args.toList, e x = e' x := fun x hx => h x (by simp [Call.operands]; exact .inr (by simpa using hx))
    split
    · rename_i x t h1 h2 h3
      rw [hx x (by rw [h2]; simp)]
    · rename_i x y h1 h2
      rw [hx x (by rw [h2]; simp), hx y (by rw [h2]; simp)]
    · rename_i x y h1 h2
      rw [hx x (by rw [h2]; simp), hx y (by rw [h2]; simp)]
    · rfl
  case slice t x lo hi mx =>
    simp only [Op.operands] at h
    simp only [absOp]
    have h1 : e x = e' x := h x (by simp)
    have h2 : lo.map e = lo.map e' := by cases lo with | none => rfl | some y => simp [h y (by simp)]
    have h3 : hi.map e = hi.map e' := by cases hi with | none => rfl | some y => simp [h y (by simp)]
    have h4 : mx.map e = mx.map e' := by cases mx with | none => rfl | some y => simp [h y (by simp)]
    rw [h1, h2, h3, h4]
  case build t ps =>
    simp only [absOp]
    rw [mapps_congr fun x hx => h x.2 (by simp only [Op.operands]; exact List.mem_toArray.2 (List.mem_map.2 ⟨x, by simpa using hx, rfl⟩))]
  case buildSlice t n ps =>
    simp only [absOp]
    rw [mapps_congr fun x hx => h x.2 (by simp only [Op.operands]; exact List.mem_toArray.2 (List.mem_map.2 ⟨x, by simpa using hx, rfl⟩))]
  all_goals (simp only [Op.operands] at h; simp only [absOp])
  all_goals (first | rfl | (simp_all; done))
theorem absNew_congr {P : Program} {d G : Nat} {e e' : Operand → AV} {σ : Sig} {op : Op} (h : ∀ x ∈ op.operands, e x = e' x) : absNew P d G e σ op = absNew P d G e' σ op := by
  cases op <;> try rfl
  case buildSlice t n ps =>
    simp only [absNew]
    rw [mapps_congr fun x hx => h x.2 (by simp only [Op.operands]; exact List.mem_toArray.2 (List.mem_map.2 ⟨x, by simpa using hx, rfl⟩))]
  case convert s t x =>
    simp only [absNew, h x (by simp [Op.operands])]
  case call c =>
    simp only [Op.operands] at h
    simp only [absNew]
    have hx : ∀ x ∈ c.args.toList, e x = e' x := fun x hx => h x (by simp [Call.operands]; exact .inr (by simpa using hx))
    split
    · rename_i x y t tx h1 h2 h3
      rw [hx x (by rw [h2]; simp), hx y (by rw [h2]; simp)]
    · rename_i x y t tx h1 h2 h3
      rw [hx x (by rw [h2]; simp), hx y (by rw [h2]; simp)]
    · rfl
theorem absX_congr {P : Program} {e e' : Operand → AV} {op : Op} (h : ∀ x ∈ op.operands, e x = e' x) : absX P e op = absX P e' op := by
  cases op <;> try rfl
  case load t x => cases x <;> rfl
  case makeFunc f first captured =>
    cases f <;> try rfl
    simp only [absX]
    split
    · rename_i x h1 h2
      rw [h x (by simp only [Op.operands]; rw [Array.mem_append]; exact .inl (by rw [← Array.mem_toList_iff, h1]; simp))]
    · rfl
theorem Can_congr {P : Program} {o : Oper} {e e' : Operand → AV} {σ σ' : Sig} {G : Nat} {v : AV} {b : Bool} (h : ∀ x ∈ o.op.operands, e x = e' x) (hc : Can P o e σ G v σ' b) : Can P o e' σ G v σ' b := by
  rcases hc with ⟨h1, h2⟩ | ⟨h1, h2⟩ | ⟨hb, c, n, hop, hcal, h1⟩ | ⟨h1, h2⟩ | ⟨hb, c, n, x, hop, hcal, hfv, h1⟩
  · exact .inl ⟨by rw [← absOp_congr h]; exact h1, h2⟩
  · exact .inr (.inl ⟨by rw [← absNew_congr h]; exact h1, h2⟩)
  · have : c.args.toList.map e = c.args.toList.map e' := List.map_congr_left fun x hx => h x (by rw [hop]; simp [Op.operands, Call.operands]; exact .inr (by simpa using hx))
    rw [this] at h1
    exact .inr (.inr (.inl ⟨hb, c, n, hop, hcal, h1⟩))
  · exact .inr (.inr (.inr (.inl ⟨by rw [← absX_congr h]; exact h1, h2⟩)))
  · have : c.args.toList.map e = c.args.toList.map e' := List.map_congr_left fun x hx => h x (by rw [hop]; simp [Op.operands, Call.operands]; exact .inr (by simpa using hx))
    rw [this] at h1
    exact .inr (.inr (.inr (.inr ⟨hb, c, n, x, hop, hcal, by rw [← h x (by rw [hop]; simp [Op.operands, Call.operands, hcal])]; exact hfv, h1⟩)))
/-- A pure operation, behind its guard. -/
def stepV (P : Program) (ops : Array Oper) (σ : Sig) (e : Operand → AV) (o : Oper) : Option AV := match o.guard with
  | none => pureV P σ e o.op
  | some (j, want) => match slotOf ops j with
    | none => none
    | some t => match e (.tmp t) with
      | .sc (.bool b) => match b == want with
        | true => pureV P σ e o.op
        | false => some (.tup [])
      | .tup [] => some (.tup [])
      | _ => none
def vcPure (P : Program) (ops : Array Oper) (o : Oper) (s : St) (K : St → Prop) : Prop := onSome (stepV P ops s.σ (ev s) o) fun v => put s o.dst v s.σ false K
theorem vcPure_mono {P : Program} {ops : Array Oper} {o : Oper} {s : St} {K1 K2 : St → Prop} (hk : ∀ s, K1 s → K2 s) (h : vcPure P ops o s K1) : vcPure P ops o s K2 := by
  obtain ⟨v, hv, h1⟩ := onSome_elim h
  exact onSome_intro hv (putM hk h1)
theorem vcPure_step {P : Program} {ops : Array Oper} {o : Oper} {s : St} {K : St → Prop} (h : pureK o.op = true) (hv : vcPure P ops o s K) : vcStep2 P ops o s K := by
  have plain : ∀ {v}, pureV P s.σ (ev s) o.op = some v → put s o.dst v s.σ false K → vcOp2 P o s K := fun h1 h2 =>
    ⟨_, _, _, .inl ⟨by rw [absOp_pure h, h1]; rfl, rfl⟩, by rw [pureK_bumps h]; exact h2⟩
  obtain ⟨v, h1, h2⟩ := onSome_elim hv
  unfold stepV at h1
  unfold vcStep2
  cases hg : o.guard with
  | none => rw [hg] at h1; exact plain h1 h2
  | some jw =>
    obtain ⟨j, want⟩ := jw
    rw [hg] at h1
    simp only at h1 ⊢
    cases hs : slotOf ops j with
    | none => rw [hs] at h1; cases h1
    | some t =>
      rw [hs] at h1
      simp only [ev] at h1 ⊢
      cases hl : lookA s.tm t with
      | none => rw [hl] at h1; cases h1
      | some u =>
        rw [hl] at h1
        cases u with
        | sc u =>
          cases u with
          | bool b =>
            cases b <;> cases want <;> simp only [Br_true, Br_false] at h1 ⊢ <;> first | exact plain h1 h2 | (cases h1; exact h2)
          | _ => cases h1
        | tup vs =>
          cases vs with
          | nil => cases h1; exact h2
          | cons => cases h1
        | _ => cases h1
theorem stepV_congr {P : Program} {ops : Array Oper} {σ σ' : Sig} {e e' : Operand → AV} {o : Oper} (hσ : pureV P σ e o.op = pureV P σ' e o.op) (ht : ∀ t ∈ o.looksAt ops, e (.tmp t) = e' (.tmp t)) (hn : ∀ x, (∀ t, x ≠ .tmp t) → e x = e' x) : stepV P ops σ e o = stepV P ops σ' e' o := by
  have hop : pureV P σ e o.op = pureV P σ' e' o.op := by
    rw [hσ]
    unfold pureV
    rw [absOp_congr fun x hx => ?_]
    by_cases hx2 : ∃ t, x = .tmp t
    · obtain ⟨t, rfl⟩ := hx2
      exact ht t (List.mem_append_left _ (List.mem_filterMap.2 ⟨.tmp t, by simpa using hx, rfl⟩))
    · exact hn x fun t e => hx2 ⟨t, e⟩
  unfold stepV
  split
  · exact hop
  · rename_i j want hg
    cases hs : slotOf ops j with
    | none => rfl
    | some t =>
      have : e (.tmp t) = e' (.tmp t) := ht t (by
        have hs' : (ops[j]?).bind (·.dst) = some t := by
          unfold slotOf at hs
          split at hs
          · rename_i hx; rw [hx]; exact hs
          · cases hs
        simp [Oper.looksAt, hg, hs'])
      simp only [this, hop]
end Go.Proofs.Ytkhemolkhegppaa.E
