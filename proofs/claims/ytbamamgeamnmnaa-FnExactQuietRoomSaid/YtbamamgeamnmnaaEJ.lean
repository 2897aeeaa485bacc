/-
  E, part J: code without what no proof asks: each operation in a word; and the rules by which the simplifier goes through it.
-/
import Derived.Test.YtbamamgeamnmnaaEI
namespace Go.Proofs.Ytbamamgeamnmnaa.E
open Go Go.RowKit

/-- An operation, its guard's slot found. -/
structure SO where
  d : Option Nat
  o : Op
  g : Option (Nat × Bool)
/-- Code over operations of a kind. -/
inductive SC (α : Type) where
  | skip
  | ret
  | exit (id : Nat)
  | seq (a b : SC α)
  | sq (ks : List Nat) (a b : SC α)
  | ct (a b : SC α)
  | cond (c : Operand) (x y : SC α)
  | block (id : Nat) (c : SC α)
  | loop (c : SC α)
  | reg (l : List α)
  | bad

def so (ops : Array Oper) (o : Oper) : SO := match o.guard with
  | none => ⟨o.dst, o.op, none⟩
  | some (j, want) => match slotOf ops j with
    | some t => ⟨o.dst, o.op, some (t, want)⟩
    | none => ⟨o.dst, .panic (.const (.bool true)), none⟩
def soL (ops : Array Oper) : List Oper → List SO
  | [] => []
  | o :: os => so ops o :: soL ops os
def strip : Code → SC SO
  | .skip => .skip
  | .ret => .ret
  | .exit id => .exit id
  | .seq a b => .seq (strip a) (strip b)
  | .cond c x y => .cond c (strip x) (strip y)
  | .block id c => .block id (strip c)
  | .loop c => .loop (strip c)
  | .region _ ops false => .reg (soL ops ops.toList)
  | _ => .bad

def sOp (P : Program) (o : SO) (s : St) (K : St → Prop) : Prop :=
  match o.o with
  | .call c => match c.callee with
    | .value (.func n) => onSome (frzAll s.σ (c.args.toList.map (ev s))) (WantK P s o.d n K)
    | _ => onSome (absOp P (o.d.getD 0) s.G (ev s) s.σ o.o) (PutK s o.d K)
  | _ => onSome (absOp P (o.d.getD 0) s.G (ev s) s.σ o.o) (PutK s o.d K)
def sStep (P : Program) (o : SO) (s : St) (K : St → Prop) : Prop :=
  match o.g with
  | none => sOp P o s K
  | some (t, want) => match lookA s.tm t with
    | some (.sc (.bool b)) => Br b (Br want (sOp P o s K) (put s o.d .dead s.σ K)) (Br want (put s o.d .dead s.σ K) (sOp P o s K))
    | _ => False
def sOps (P : Program) : List SO → St → (St → Prop) → Prop
  | [], s, Q => Q s
  | o :: os, s, Q => sStep P o s fun s' => sOps P os s' Q
def sv (P : Program) : SC SO → St → (Exit → St → Prop) → Prop
  | .skip, s, Q => Q .normal s
  | .ret, s, Q => Q .ret s
  | .exit id, s, Q => Q (.exit id) s
  | .seq a b, s, Q => sv P a s (thenK Q fun s' => ∃ s'', Weak s' s'' ∧ sv P b s'' Q)
  | .sq _ a b, s, Q => sv P a s (thenK Q fun s' => ∃ s'', Weak s' s'' ∧ sv P b s'' Q)
  | .ct a b, s, Q => sv P a s (thenK Q fun s' => ∃ s'', Weak s' s'' ∧ sv P b s'' Q)
  | .cond c x y, s, Q => match ev s c with
    | .sc (.bool b) => Br b (sv P x s Q) (sv P y s Q)
    | _ => False
  | .block id c, s, Q => sv P c s (blockK id Q)
  | .loop c, s, Q => ∃ (I : Nat → St → Prop) (n : Nat) (s1 : St), Weak s s1 ∧ I n s1 ∧ ∀ m s2, I m s2 → sv P c s2 (thenK Q fun s3 => ∃ m' s4, m' < m ∧ Weak s3 s4 ∧ I m' s4)
  | .reg l, s, Q => sOps P l s fun s' => Q .normal s'
  | .bad, _, _ => False

section
variable {P : Program}
theorem put_mono {s : St} {d : Option Nat} {v : AV} {σ : Sig} {K K' : St → Prop} (h : ∀ s, K s → K' s) (hk : put s d v σ K) : put s d v σ K' := by
  unfold put at hk ⊢
  cases d with
  | none => exact h _ hk
  | some d =>
    simp only at hk ⊢
    split at hk
    · exact h _ hk
    · cases hk
theorem sOp_mono {o : SO} {s : St} {K K' : St → Prop} (h : ∀ s, K s → K' s) (hk : sOp P o s K) : sOp P o s K' := by
  have plain : onSome (absOp P (o.d.getD 0) s.G (ev s) s.σ o.o) (PutK s o.d K) → onSome (absOp P (o.d.getD 0) s.G (ev s) s.σ o.o) (PutK s o.d K') := by
    intro hk
    obtain ⟨x, hx, hk⟩ := onSome_elim hk
    exact onSome_intro hx (put_mono h hk)
  unfold sOp at hk ⊢
  split at hk
  · split at hk
    · obtain ⟨x, hx, res, rf, h1, h2, h3⟩ := onSome_elim hk
      exact onSome_intro hx ⟨res, rf, h1, h2, put_mono h h3⟩
    · exact plain hk
  · exact plain hk
theorem sStep_mono {o : SO} {s : St} {K K' : St → Prop} (h : ∀ s, K s → K' s) (hk : sStep P o s K) : sStep P o s K' := by
  unfold sStep at hk ⊢
  split at hk
  · exact sOp_mono h hk
  · rename_i t w hg
    split at hk
    · rename_i b hb
      cases b <;> cases w <;> simp only [Br_true, Br_false] at hk ⊢ <;> first | exact sOp_mono h hk | exact put_mono h hk
    · cases hk
theorem sOps_mono {os : List SO} : ∀ {s : St} {K K' : St → Prop}, (∀ s, K s → K' s) → sOps P os s K → sOps P os s K' := by
  induction os with
  | nil => exact fun h hk => h _ hk
  | cons o os ih => exact fun h hk => sStep_mono (fun s' hs => ih h hs) hk
theorem sOp_vc {o : Oper} {g : Option (Nat × Bool)} {s : St} {K K' : St → Prop} (h : ∀ s, K s → K' s) (hk : sOp P ⟨o.dst, o.op, g⟩ s K) : vcOp P o s K' := by
  have plain : onSome (absOp P (o.dst.getD 0) s.G (ev s) s.σ o.op) (PutK s o.dst K) → onSome (absOp P (o.dst.getD 0) s.G (ev s) s.σ o.op) (PutK s o.dst K') := by
    intro hk
    obtain ⟨x, hx, hk⟩ := onSome_elim hk
    exact onSome_intro hx (put_mono h hk)
  unfold sOp at hk
  unfold vcOp
  simp only at hk
  split
  · rename_i c hop
    rw [hop] at hk
    simp only at hk
    split
    · rename_i n hcal
      rw [hcal] at hk
      simp only at hk
      unfold vcCall
      obtain ⟨x, hx, res, rf, h1, h2, h3⟩ := onSome_elim hk
      exact onSome_intro hx ⟨res, rf, h1, h2, put_mono h h3⟩
    · rename_i hne
      split at hk
      · rename_i n hcal
        exact absurd hcal (hne n)
      · rw [← hop] at hk; exact plain hk
  · rename_i hne
    split at hk
    · rename_i c hop
      exact absurd hop (hne c)
    · exact plain hk
theorem sStep_vc {ops : Array Oper} {o : Oper} {s : St} {K K' : St → Prop} (h : ∀ s, K s → K' s) (hk : sStep P (so ops o) s K) : vcStep P ops o s K' := by
  unfold vcStep
  split
  · rename_i hg
    have e : so ops o = ⟨o.dst, o.op, none⟩ := by simp [so, hg]
    rw [e] at hk
    exact sOp_vc h hk
  · rename_i j want hg
    split
    · rename_i hs
      have e : so ops o = ⟨o.dst, .panic (.const (.bool true)), none⟩ := by simp [so, hg, hs]
      rw [e] at hk
      cases hk
    · rename_i t hs
      have e : so ops o = ⟨o.dst, o.op, some (t, want)⟩ := by simp [so, hg, hs]
      rw [e] at hk
      unfold sStep at hk
      simp only at hk
      split at hk
      · rename_i b hb
        rw [hb]
        simp only
        cases b <;> cases want <;> simp only [Br_true, Br_false] at hk ⊢ <;> first | exact sOp_vc h hk | exact put_mono h hk
      · cases hk
theorem sOps_vc {ops : Array Oper} : ∀ {os : List Oper} {s : St} {K K' : St → Prop}, (∀ s, K s → K' s) → sOps P (soL ops os) s K → vcOps P ops os s K'
  | [], s, K, K', h, hk => h _ hk
  | o :: os, s, K, K', h, hk => sStep_vc (fun s' hs => sOps_vc h hs) hk
theorem sv_vc : ∀ (c : Code) {s : St} {Q Q' : Exit → St → Prop}, (∀ e s, Q e s → Q' e s) → sv P (strip c) s Q → vc P c s Q'
  | .skip, s, Q, Q', h, hk => h _ _ hk
  | .ret, s, Q, Q', h, hk => h _ _ hk
  | .exit id, s, Q, Q', h, hk => h _ _ hk
  | .seq a b, s, Q, Q', h, hk => sv_vc a (fun e s hs => by
      cases e with
      | normal =>
        obtain ⟨s'', hw, hs⟩ := hs
        exact ⟨s'', hw, sv_vc b h hs⟩
      | _ => exact h _ _ hs) hk
  | .cond c x y, s, Q, Q', h, hk => by
    simp only [strip, sv] at hk
    simp only [vc]
    split at hk
    · rename_i b hb
      rw [hb]
      cases b with
      | true => exact sv_vc x h hk
      | false => exact sv_vc y h hk
    · cases hk
  | .block id c, s, Q, Q', h, hk => sv_vc c (fun e s hs => by
      cases e with
      | exit id' =>
        simp only [blockK] at hs ⊢
        split at hs
        · rename_i hh; exact h _ _ hs
        · rename_i hh; exact h _ _ hs
      | _ => exact h _ _ hs) hk
  | .loop c, s, Q, Q', h, hk => by
    obtain ⟨I, n, s1, h1, h2, h3⟩ := hk
    exact ⟨I, n, s1, h1, h2, fun m s2 hI => sv_vc c (fun e s hs => by
      cases e with
      | normal => exact hs
      | _ => exact h _ _ hs) (h3 m s2 hI)⟩
  | .region _ ops draw, s, Q, Q', h, hk => by
    cases draw with
    | false => exact sOps_vc (fun s hs => h _ _ hs) hk
    | true => cases hk
  | .rangeFunc .., s, Q, Q', h, hk => by cases hk
  | .scope _, s, Q, Q', h, hk => by cases hk
  | .label _, s, Q, Q', h, hk => by cases hk
  | .goto _, s, Q, Q', h, hk => by cases hk
  | .refuse _, s, Q, Q', h, hk => by cases hk
end

/-! ### Operations in a word -/
inductive I where
  | mv (d : Nat) (x : Operand)
  | as (d : Nat) (x : Operand)
  | pk (d : Nat) (c a b : Operand)
  | al (d t : Nat)
  | bx (d t : Nat) (x : Operand)
  | ld (d t : Nat) (x : Operand)
  | st (t : Nat) (a x : Operand)
  | fa (d t : Nat) (x : Operand) (f : Nat)
  | ex (d : Nat) (x : Operand) (i : Nat)
  | nc (d : Nat) (x : Operand)
  | bn (d : Nat) (op : BinOp) (t : Nat) (x y : Operand) (u : Nat)
  | un (d : Nat) (op : UnOp) (t : Nat) (x : Operand)
  | cv (d s t : Nat) (x : Operand)
  | ln (d t : Nat) (x : Operand)
  | ca (d : Option Nat) (f : Nat) (xs : List Operand) (ts : List Nat)
  | op (d : Option Nat) (o : Op)
/-- .. behind a guard, or without one. -/
inductive J where
  | p (i : I)
  | g (t : Nat) (w : Bool) (i : I)
def I.so : I → SO
  | .mv d x => ⟨some d, .move x, none⟩
  | .as d x => ⟨some d, .assign x, none⟩
  | .pk d c a b => ⟨some d, .pick c a b, none⟩
  | .al d t => ⟨some d, .alloc t, none⟩
  | .bx d t x => ⟨some d, .box t x, none⟩
  | .ld d t x => ⟨some d, .load t x, none⟩
  | .st t a x => ⟨none, .store t a x, none⟩
  | .fa d t x f => ⟨some d, .fieldAddr t x f, none⟩
  | .ex d x i => ⟨some d, .extract x i, none⟩
  | .nc d x => ⟨some d, .nilCheck x, none⟩
  | .bn d b t x y u => ⟨some d, .binOp b t x y u, none⟩
  | .un d b t x => ⟨some d, .unOp b t x, none⟩
  | .cv d s t x => ⟨some d, .convert s t x, none⟩
  | .ln d t x => ⟨some d, .call { callee := .builtin .len, args := #[x], argTypes := #[t] }, none⟩
  | .ca d f xs ts => ⟨d, .call { callee := .value (.func f), args := xs.toArray, argTypes := ts.toArray }, none⟩
  | .op d o => ⟨d, o, none⟩
def soI : List J → List SO
  | [] => []
  | .p i :: l => ⟨i.so.d, i.so.o, none⟩ :: soI l
  | .g t w i :: l => ⟨i.so.d, i.so.o, some (t, w)⟩ :: soI l
/-- Code in words, as the operations stand in it. -/
def exC : SC J → SC SO
  | .skip => .skip
  | .ret => .ret
  | .exit id => .exit id
  | .seq a b => .seq (exC a) (exC b)
  | .sq _ a b => .seq (exC a) (exC b)
  | .ct a b => .seq (exC a) (exC b)
  | .cond c x y => .cond c (exC x) (exC y)
  | .block id c => .block id (exC c)
  | .loop c => .loop (exC c)
  | .reg l => .reg (soI l)
  | .bad => .bad

def iSt (P : Program) (i : I) (s : St) (K : St → Prop) : Prop := sOp P ⟨i.so.d, i.so.o, none⟩ s K
def iSkip (i : I) (s : St) (K : St → Prop) : Prop := put s i.so.d .dead s.σ K
def evT (tm : List (Nat × AV)) : Operand → AV
  | .tmp t => match lookA tm t with
    | some v => v
    | none => .dead
  | .const v => absV v
  | .func f => .sc (.func (.func f) #[] #[])
  | .global _ => .dead
def evL (tm : List (Nat × AV)) : List Operand → List AV
  | [] => []
  | x :: l => evT tm x :: evL tm l
def lookT : List (Nat × AV) → Nat → AV
  | [], _ => .dead
  | (k, v) :: l, n => match k == n with
    | true => v
    | false => lookT l n
def putK (n d : Nat) (tm : List (Nat × AV)) (G : Nat) (K : St → Prop) (x : AV × Sig) : Prop := Br (Nat.blt d n) (K ⟨n, (d, x.1) :: tm, x.2, G + 1⟩) False
def putV (n d : Nat) (tm : List (Nat × AV)) (σ : Sig) (G : Nat) (K : St → Prop) (v : AV) : Prop := Br (Nat.blt d n) (K ⟨n, (d, v) :: tm, σ, G + 1⟩) False
def putS (n : Nat) (tm : List (Nat × AV)) (G : Nat) (K : St → Prop) (σ : Sig) : Prop := K ⟨n, tm, σ, G + 1⟩
def wantK (P : Program) (n : Nat) (d : Option Nat) (tm : List (Nat × AV)) (σ : Sig) (G f : Nat) (K : St → Prop) (x : Sig × List AV) : Prop := Want P f x.2 (CallK ⟨n, tm, σ, G⟩ d K x.1)
def guardK (b w : Bool) (X Y X' Y' : Prop) : Prop := Br b (Br w X Y) (Br w Y' X')

section
variable {P : Program} {n G : Nat} {tm : List (Nat × AV)} {σ : Sig} {Q : Exit → St → Prop} {K : St → Prop} {d t f i s u : Nat} {x y z : Operand} {l : List J} {w : Bool}
theorem ev_evT : ev ⟨n, tm, σ, G⟩ x = evT tm x := by cases x <;> rfl
theorem map_evL : ∀ (xs : List Operand), xs.map (ev ⟨n, tm, σ, G⟩) = evL tm xs
  | [] => rfl
  | x :: xs => by rw [List.map_cons, map_evL xs, ev_evT]; rfl
theorem put_some {v : AV} {σ' : Sig} : put ⟨n, tm, σ, G⟩ (some d) v σ' K = putK n d tm G K (v, σ') := by
  unfold put putK
  simp only
  cases Nat.blt d n <;> rfl
theorem onSome_map {α β : Type} {x : Option α} {g : α → β} {K : β → Prop} : onSome (x.map g) K = onSome x (fun a => K (g a)) := by cases x <;> rfl
theorem evf : (ev ⟨n, tm, σ, G⟩) = evT tm := funext fun _ => ev_evT
theorem plainR {o : Op} (ho : ∀ c, o ≠ .call c) : sOp P ⟨some d, o, none⟩ ⟨n, tm, σ, G⟩ K = onSome (absOp P d G (evT tm) σ o) (putK n d tm G K) := by
  unfold sOp
  split
  · rename_i c hc; exact absurd hc (ho c)
  · simp only [Option.getD_some, evf]
    rfl
theorem plainV' {o : Op} (ho : ∀ c, o ≠ .call c) {x : Option AV} (hx : absOp P d G (evT tm) σ o = x.map fun v => (v, σ)) : sOp P ⟨some d, o, none⟩ ⟨n, tm, σ, G⟩ K = onSome x (putV n d tm σ G K) := by
  rw [plainR ho, hx, onSome_map]
  rfl
theorem r_mv : iSt P (.mv d x) ⟨n, tm, σ, G⟩ K = putV n d tm σ G K (evT tm x) := plainR (P := P) (o := .move x) (fun _ => nofun)
theorem r_as : iSt P (.as d x) ⟨n, tm, σ, G⟩ K = putV n d tm σ G K (evT tm x) := plainR (P := P) (o := .assign x) (fun _ => nofun)
theorem r_pk : iSt P (.pk d x y z) ⟨n, tm, σ, G⟩ K = onSome (absPick (evT tm x) (evT tm y) (evT tm z)) (putV n d tm σ G K) := plainV' (o := .pick x y z) (fun _ => nofun) rfl
theorem r_al : iSt P (.al d t) ⟨n, tm, σ, G⟩ K = onSome (absAlloc P d G σ t) (putK n d tm G K) := plainR (o := .alloc t) (fun _ => nofun)
theorem r_bx : iSt P (.bx d t x) ⟨n, tm, σ, G⟩ K = onSome (absBox P d G σ t (evT tm x)) (putK n d tm G K) := plainR (o := .box t x) (fun _ => nofun)
theorem r_ld : iSt P (.ld d t x) ⟨n, tm, σ, G⟩ K = onSome (absLoad P σ t (evT tm x)) (putV n d tm σ G K) := plainV' (o := .load t x) (fun _ => nofun) rfl
theorem r_fa : iSt P (.fa d t x f) ⟨n, tm, σ, G⟩ K = onSome (absFieldAddr P t (evT tm x) f) (putV n d tm σ G K) := plainV' (o := .fieldAddr t x f) (fun _ => nofun) rfl
theorem r_ex : iSt P (.ex d x i) ⟨n, tm, σ, G⟩ K = onSome (absExtract (evT tm x) i) (putV n d tm σ G K) := plainV' (o := .extract x i) (fun _ => nofun) rfl
theorem r_nc : iSt P (.nc d x) ⟨n, tm, σ, G⟩ K = onSome (absNilCheck (evT tm x)) (putV n d tm σ G K) := plainV' (o := .nilCheck x) (fun _ => nofun) rfl
theorem r_bn {b : BinOp} : iSt P (.bn d b t x y u) ⟨n, tm, σ, G⟩ K = onSome (absBin P b t (evT tm x) (evT tm y)) (putV n d tm σ G K) := plainV' (o := .binOp b t x y u) (fun _ => nofun) rfl
theorem r_un {b : UnOp} : iSt P (.un d b t x) ⟨n, tm, σ, G⟩ K = onSome (absUn b (evT tm x)) (putV n d tm σ G K) := plainV' (o := .unOp b t x) (fun _ => nofun) rfl
theorem r_cv : iSt P (.cv d s t x) ⟨n, tm, σ, G⟩ K = onSome (absConv P s t (evT tm x)) (putV n d tm σ G K) := plainV' (o := .convert s t x) (fun _ => nofun) rfl
theorem r_st : iSt P (.st t x y) ⟨n, tm, σ, G⟩ K = onSome (absStore P σ t (evT tm x) (evT tm y)) (putS n tm G K) := by
  show onSome (absOp P 0 G (ev ⟨n, tm, σ, G⟩) σ (.store t x y)) (PutK ⟨n, tm, σ, G⟩ none K) = _
  rw [evf]
  simp only [absOp, onSome_map]
  rfl
theorem r_ln : iSt P (.ln d t x) ⟨n, tm, σ, G⟩ K = onSome (absLen P t (evT tm x)) (putV n d tm σ G K) := by
  show onSome (absOp P d G (ev ⟨n, tm, σ, G⟩) σ (.call { callee := .builtin .len, args := #[x], argTypes := #[t] })) (PutK ⟨n, tm, σ, G⟩ (some d) K) = _
  rw [evf]
  simp only [absOp, onSome_map]
  rfl
theorem r_ca {xs : List Operand} {ts : List Nat} {d : Option Nat} : iSt P (.ca d f xs ts) ⟨n, tm, σ, G⟩ K = onSome (frzAll σ (evL tm xs)) (wantK P n d tm σ G f K) := by
  show onSome (frzAll σ (xs.toArray.toList.map (ev ⟨n, tm, σ, G⟩))) (WantK P ⟨n, tm, σ, G⟩ d f K) = _
  rw [List.toList_toArray, map_evL]
  rfl
theorem sOp_none {o : SO} {s : St} : sOp P o s K = sOp P ⟨o.d, o.o, none⟩ s K := rfl
theorem lookT_of : ∀ (tm : List (Nat × AV)) (t : Nat) (b : Bool), lookT tm t = .sc (.bool b) → lookA tm t = some (.sc (.bool b))
  | [], _, _, h => by cases h
  | (k, v) :: l, t, b, h => by
    simp only [lookT, lookA] at h ⊢
    split at h
    · rename_i hk; rw [hk]; rw [h]
    · rename_i hk; rw [hk]; exact lookT_of l t b h
def guardP (P : Program) (n : Nat) (tm : List (Nat × AV)) (σ : Sig) (G t : Nat) (w : Bool) (i : I) (K : St → Prop) (v : AV) : Prop :=
  match v with
  | .sc (.bool b) => Br b (Br w (iSt P i ⟨n, tm, σ, G⟩ K) (iSkip i ⟨n, tm, σ, G⟩ K)) (Br w (iSkip i ⟨n, tm, σ, G⟩ K) (iSt P i ⟨n, tm, σ, G⟩ K))
  | _ => False
theorem guard_sound {i : I} (h : guardP P n tm σ G t w i K (lookT tm t)) : sStep P ⟨i.so.d, i.so.o, some (t, w)⟩ ⟨n, tm, σ, G⟩ K := by
  cases hv : lookT tm t with
  | sc v =>
    rw [hv] at h
    cases v with
    | bool b =>
      unfold sStep
      simp only [lookT_of _ _ _ hv]
      exact h
    | _ => cases h
  | _ => rw [hv] at h; cases h

/-- The conditions, one word at a time: what the simplifier goes by. -/
def jOps (P : Program) : List J → St → (St → Prop) → Prop
  | [], s, Q => Q s
  | .p i :: l, s, Q => iSt P i s fun s' => jOps P l s' Q
  | .g t w i :: l, s, Q => guardP P s.n s.tm s.σ s.G t w i (fun s' => jOps P l s' Q) (lookT s.tm t)
def keepT : List Nat → List (Nat × AV) → List (Nat × AV)
  | [], _ => []
  | k :: ks, tm => (k, lookT tm k) :: keepT ks tm
def keepS (ks : List Nat) (s : St) : St := ⟨s.n, keepT ks s.tm, s.σ, s.G⟩
def jv (P : Program) : SC J → St → (Exit → St → Prop) → Prop
  | .skip, s, Q => Q .normal s
  | .ret, s, Q => Q .ret s
  | .exit id, s, Q => Q (.exit id) s
  | .seq a b, s, Q => jv P a s (thenK Q fun s' => jv P b s' Q)
  | .sq ks a b, s, Q => jv P a s (thenK Q fun s' => jv P b (keepS ks s') Q)
  | .ct a b, s, Q => jv P a s (thenK Q fun s' => ∃ s'', Weak s' s'' ∧ jv P b s'' Q)
  | .cond c x y, s, Q => match evT s.tm c with
    | .sc (.bool b) => Br b (jv P x s Q) (jv P y s Q)
    | _ => False
  | .block id c, s, Q => jv P c s (blockK id Q)
  | .loop c, s, Q => ∃ (I : Nat → St → Prop) (n : Nat) (s1 : St), Weak s s1 ∧ I n s1 ∧ ∀ m s2, I m s2 → jv P c s2 (thenK Q fun s3 => ∃ m' s4, m' < m ∧ Weak s3 s4 ∧ I m' s4)
  | .reg l, s, Q => jOps P l s fun s' => Q .normal s'
  | .bad, _, _ => False
theorem jOps_sOps : ∀ (l : List J) (s : St) (Q : St → Prop), jOps P l s Q → sOps P (soI l) s Q
  | [], s, Q, h => h
  | .p i :: l, s, Q, h => by
    have : sStep P ⟨i.so.d, i.so.o, none⟩ s (fun s' => sOps P (soI l) s' Q) := by
      show sOp P _ s _
      exact sOp_mono (fun s' hs => jOps_sOps l s' Q hs) h
    exact this
  | .g t w i :: l, ⟨n, tm, σ, G⟩, Q, h => by
    have hg := guard_sound h
    exact sStep_mono (fun s' hs => jOps_sOps l s' Q hs) hg
theorem lookA_lookT : ∀ (tm : List (Nat × AV)) (t : Nat) (v : AV), lookA tm t = some v → lookT tm t = v
  | [], _, _, h => by cases h
  | (k, u) :: l, t, v, h => by
    simp only [lookT, lookA] at h ⊢
    split at h
    · rename_i hk; rw [hk]; exact Option.some.inj h
    · rename_i hk; rw [hk]; exact lookA_lookT l t v h
theorem lookT_none : ∀ (tm : List (Nat × AV)) (t : Nat), lookA tm t = none → lookT tm t = .dead
  | [], _, _ => rfl
  | (k, u) :: l, t, h => by
    simp only [lookT, lookA] at h ⊢
    split at h
    · cases h
    · rename_i hk; rw [hk]; exact lookT_none l t h
theorem lookA_keepT : ∀ (ks : List Nat) (tm : List (Nat × AV)) (t : Nat) (v : AV), lookA (keepT ks tm) t = some v → lookT tm t = v
  | [], _, _, _, h => by cases h
  | k :: ks, tm, t, v, h => by
    simp only [keepT, lookA_cons] at h
    split at h
    · rename_i hk; subst hk; exact Option.some.inj h
    · exact lookA_keepT ks tm t v h
theorem Rel.look {rd : RD} {φ : Phi} {O : Nat → Prop} {w0 w : World} {s : St} {a : Act} (h : Rel rd φ O w0 s a w) (t : Nat) : VRel rd φ (lookT s.tm t) (a.tmps.getD t undef) := by
  cases hl : lookA s.tm t with
  | none => rw [lookT_none _ _ hl]; exact .dead _
  | some v => rw [lookA_lookT _ _ _ hl]; exact h.tm t v hl
theorem Weak.keep (ks : List Nat) (s : St) : Weak s (keepS ks s) := by
  intro rd O w0 a w ⟨rd', φ, hx, h⟩
  exact ⟨rd', φ, hx, h.heap, fun t v hl => lookA_keepT ks s.tm t v hl ▸ h.look t, h.size, h.defers, h.gen⟩
end
end Go.Proofs.Ytbamamgeamnmnaa.E
