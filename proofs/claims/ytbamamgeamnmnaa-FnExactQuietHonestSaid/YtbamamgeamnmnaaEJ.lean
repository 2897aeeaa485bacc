/-
  E, part J: code without what no proof asks: each operation in a word; and the rules by which the simplifier goes through it.
-/
import Derived.Test.YtbamamgeamnmnaaEI
namespace Go.Proofs.Ytbamamgeamnmnaa.E
open Go Go.RowKit
set_option linter.unusedVariables false

/-- An operation, its guard's slot found. -/
structure SO where
  d : Option Nat
  o : Op
  g : Option (Nat × Bool)
/-- Code over operations of a kind. -/
inductive SC (α : Type) where
  | skip
  | ret
  | exit (id : Nat)
  | seq (a b : SC α)
  | sq (ks : List Nat) (a b : SC α)
  | ct (a b : SC α)
  | cond (c : Operand) (x y : SC α)
  | block (id : Nat) (c : SC α)
  | loop (c : SC α)
  | reg (l : List α)
  | dr (perm : List Nat) (anc : List (List Nat)) (l : List α) (af : List (List Nat))
  | bad

def so (ops : Array Oper) (o : Oper) : SO := match o.guard with
  | none => ⟨o.dst, o.op, none⟩
  | some (j, want) => match slotOf ops j with
    | some t => ⟨o.dst, o.op, some (t, want)⟩
    | none => ⟨o.dst, .panic (.const (.bool true)), none⟩
def soL (ops : Array Oper) : List Oper → List SO
  | [] => []
  | o :: os => so ops o :: soL ops os
def strip : Code → SC SO
  | .skip => .skip
  | .ret => .ret
  | .exit id => .exit id
  | .seq a b => .seq (strip a) (strip b)
  | .cond c x y => .cond c (strip x) (strip y)
  | .block id c => .block id (strip c)
  | .loop c => .loop (strip c)
  | .region _ ops false => .reg (soL ops ops.toList)
  | .region _ ops true => .dr [] [] (soL ops ops.toList) (ops.toList.map waitL)
  | _ => .bad

def sOp (P : Program) (o : SO) (s : St) (K : St → Prop) : Prop :=
  match o.o with
  | .call c => match c.callee with
    | .value (.func n) => onSome (frzAll s.σ (c.args.toList.map (ev s))) (WantK P s o.d n K)
    | _ => onSome (absOp P (o.d.getD 0) s.G (ev s) s.σ o.o) (PutK s o.d (bumps o.o) K)
  | _ => onSome (absOp P (o.d.getD 0) s.G (ev s) s.σ o.o) (PutK s o.d (bumps o.o) K)
def sStep (P : Program) (o : SO) (s : St) (K : St → Prop) : Prop :=
  match o.g with
  | none => sOp P o s K
  | some (t, want) => match lookA s.tm t with
    | some (.sc (.bool b)) => Br b (Br want (sOp P o s K) (put s o.d (.tup []) s.σ false K)) (Br want (put s o.d (.tup []) s.σ false K) (sOp P o s K))
    | some (.tup []) => put s o.d (.tup []) s.σ false K
    | _ => False
def sOps (P : Program) : List SO → St → (St → Prop) → Prop
  | [], s, Q => Q s
  | o :: os, s, Q => sStep P o s fun s' => sOps P os s' Q
/-! Drawn regions -/
def tmpOf : Operand → Option Nat
  | .tmp t => some t
  | _ => none
def looksS (o : SO) : List Nat := (o.o.operands.toList.filterMap tmpOf) ++ (match o.g with
  | some (t, _) => [t]
  | none => [])
def realS (o : SO) : Bool := match o.o with
  | .panic _ => false
  | _ => true
def apartS (x y : SO) : Bool := realS x && realS y &&
  (match x.d with
   | some d => !(looksS y).contains d && y.d != some d
   | none => true) &&
  (match y.d with
   | some d => !(looksS x).contains d
   | none => true)
structure StaticS (af : List (List Nat)) (A : Nat → List Nat) : Prop where
  less : ∀ (i : Nat) (ks : List Nat) (k : Nat), af[i]? = some ks → k ∈ ks → k < i
  anc : ∀ i k, k ∈ A i → ∃ ks j, af[i]? = some ks ∧ j ∈ ks ∧ (j = k ∨ k ∈ A j)
def OkPairS (l : List SO) (af : List (List Nat)) (A : Nat → List Nat) (k i : Nat) : Prop :=
  k ≠ i ∧ (∀ ks, af[k]? = some ks → i ∉ ks) ∧ (k ∈ A i ∨ ∀ x o, l[k]? = some x → l[i]? = some o → pureK x.o = true ∧ apartS x o = true)
def DrawS (o : SO) (s : St) : Prop := pureK o.o = true ∨ (effK o.o = true ∧ lookA s.σ (o.d.getD 0) = none)
def sD (P : Program) (l : List SO) : List Nat → St → (St → Prop) → Prop
  | [], s, K => K s
  | i :: R, s, K => match l[i]? with
    | none => False
    | some o => DrawS o s ∧ sStep P o s fun s' => sD P l R s' K
def sv (P : Program) : SC SO → St → (Exit → St → Prop) → Prop
  | .skip, s, Q => Q .normal s
  | .ret, s, Q => Q .ret s
  | .exit id, s, Q => Q (.exit id) s
  | .seq a b, s, Q => sv P a s (thenK Q fun s' => ∃ s'', Weak s' s'' ∧ sv P b s'' Q)
  | .sq _ a b, s, Q => sv P a s (thenK Q fun s' => ∃ s'', Weak s' s'' ∧ sv P b s'' Q)
  | .ct a b, s, Q => sv P a s (thenK Q fun s' => ∃ s'', Weak s' s'' ∧ sv P b s'' Q)
  | .cond c x y, s, Q => match ev s c with
    | .sc (.bool b) => Br b (sv P x s Q) (sv P y s Q)
    | _ => False
  | .block id c, s, Q => sv P c s (blockK id Q)
  | .loop c, s, Q => ∃ (I : Nat → St → Prop) (n : Nat) (s1 : St), Weak s s1 ∧ I n s1 ∧ ∀ m s2, I m s2 → sv P c s2 (thenK Q fun s3 => ∃ m' s4, m' < m ∧ Weak s3 s4 ∧ I m' s4)
  | .reg l, s, Q => sOps P l s fun s' => Q .normal s'
  | .dr _ _ l af, s, Q => P.follows .mixedOrders = true ∧ ∃ (perm : List Nat) (A : Nat → List Nat), StaticS af A ∧ perm.Pairwise (OkPairS l af A) ∧ (∀ i, i ∈ perm ↔ i < l.length) ∧ perm.length ≤ l.length ∧ sD P l perm s (Q .normal)
  | .bad, _, _ => False

section
variable {P : Program}
theorem put_mono {s : St} {d : Option Nat} {v : AV} {σ : Sig} {b : Bool} {K K' : St → Prop} (h : ∀ s, K s → K' s) (hk : put s d v σ b K) : put s d v σ b K' := by
  unfold put at hk ⊢
  cases d with
  | none => exact h _ hk
  | some d =>
    simp only at hk ⊢
    split at hk
    · exact h _ hk
    · cases hk
theorem sOp_mono {o : SO} {s : St} {K K' : St → Prop} (h : ∀ s, K s → K' s) (hk : sOp P o s K) : sOp P o s K' := by
  have plain : onSome (absOp P (o.d.getD 0) s.G (ev s) s.σ o.o) (PutK s o.d (bumps o.o) K) → onSome (absOp P (o.d.getD 0) s.G (ev s) s.σ o.o) (PutK s o.d (bumps o.o) K') := by
    intro hk
    obtain ⟨x, hx, hk⟩ := onSome_elim hk
    exact onSome_intro hx (put_mono h hk)
  unfold sOp at hk ⊢
  split at hk
  · split at hk
    · obtain ⟨x, hx, res, rf, h1, h2, h3⟩ := onSome_elim hk
      exact onSome_intro hx ⟨res, rf, h1, h2, put_mono h h3⟩
    · exact plain hk
  · exact plain hk
theorem sStep_mono {o : SO} {s : St} {K K' : St → Prop} (h : ∀ s, K s → K' s) (hk : sStep P o s K) : sStep P o s K' := by
  unfold sStep at hk ⊢
  split at hk
  · exact sOp_mono h hk
  · rename_i t w hg
    split at hk
    · rename_i b hb
      cases b <;> cases w <;> simp only [Br_true, Br_false] at hk ⊢ <;> first | exact sOp_mono h hk | exact put_mono h hk
    · exact put_mono h hk
    · cases hk
theorem sOps_mono {os : List SO} : ∀ {s : St} {K K' : St → Prop}, (∀ s, K s → K' s) → sOps P os s K → sOps P os s K' := by
  induction os with
  | nil => exact fun h hk => h _ hk
  | cons o os ih => exact fun h hk => sStep_mono (fun s' hs => ih h hs) hk
theorem sOp_vc {o : Oper} {g : Option (Nat × Bool)} {s : St} {K K' : St → Prop} (h : ∀ s, K s → K' s) (hk : sOp P ⟨o.dst, o.op, g⟩ s K) : vcOp P o s K' := by
  have plain : onSome (absOp P (o.dst.getD 0) s.G (ev s) s.σ o.op) (PutK s o.dst (bumps o.op) K) → onSome (absOp P (o.dst.getD 0) s.G (ev s) s.σ o.op) (PutK s o.dst (bumps o.op) K') := by
    intro hk
    obtain ⟨x, hx, hk⟩ := onSome_elim hk
    exact onSome_intro hx (put_mono h hk)
  unfold sOp at hk
  unfold vcOp
  simp only at hk
  split
  · rename_i c hop
    rw [hop] at hk
    simp only at hk
    split
    · rename_i n hcal
      rw [hcal] at hk
      simp only at hk
      unfold vcCall
      obtain ⟨x, hx, res, rf, h1, h2, h3⟩ := onSome_elim hk
      exact onSome_intro hx ⟨res, rf, h1, h2, put_mono h h3⟩
    · rename_i hne
      split at hk
      · rename_i n hcal
        exact absurd hcal (hne n)
      · rw [← hop] at hk; exact plain hk
  · rename_i hne
    split at hk
    · rename_i c hop
      exact absurd hop (hne c)
    · exact plain hk
theorem sStep_vc {ops : Array Oper} {o : Oper} {s : St} {K K' : St → Prop} (h : ∀ s, K s → K' s) (hk : sStep P (so ops o) s K) : vcStep P ops o s K' := by
  unfold vcStep
  split
  · rename_i hg
    have e : so ops o = ⟨o.dst, o.op, none⟩ := by simp [so, hg]
    rw [e] at hk
    exact sOp_vc h hk
  · rename_i j want hg
    split
    · rename_i hs
      have e : so ops o = ⟨o.dst, .panic (.const (.bool true)), none⟩ := by simp [so, hg, hs]
      rw [e] at hk
      cases hk
    · rename_i t hs
      have e : so ops o = ⟨o.dst, o.op, some (t, want)⟩ := by simp [so, hg, hs]
      rw [e] at hk
      unfold sStep at hk
      simp only at hk
      split at hk
      · rename_i b hb
        rw [hb]
        simp only
        cases b <;> cases want <;> simp only [Br_true, Br_false] at hk ⊢ <;> first | exact sOp_vc h hk | exact put_mono h hk
      · rename_i hb
        rw [hb]
        exact put_mono h hk
      · cases hk
theorem sOps_vc {ops : Array Oper} : ∀ {os : List Oper} {s : St} {K K' : St → Prop}, (∀ s, K s → K' s) → sOps P (soL ops os) s K → vcOps P ops os s K'
  | [], s, K, K', h, hk => h _ hk
  | o :: os, s, K, K', h, hk => sStep_vc (fun s' hs => sOps_vc h hs) hk
theorem soL_get {ops : Array Oper} : ∀ (os : List Oper) (i : Nat), (soL ops os)[i]? = (os[i]?).map (so ops)
  | [], i => by simp [soL]
  | o :: os, 0 => rfl
  | o :: os, i + 1 => by simpa [soL] using soL_get os i
theorem soL_len {ops : Array Oper} : ∀ (os : List Oper), (soL ops os).length = os.length
  | [] => rfl
  | o :: os => by simp [soL, soL_len os]
theorem looks_of {op : Op} {t : Nat} (h : t ∈ op.operands.toList.filterMap fun | .tmp t => some t | _ => none) : t ∈ op.operands.toList.filterMap tmpOf := by
  obtain ⟨a, h1, h2⟩ := List.mem_filterMap.1 h
  refine List.mem_filterMap.2 ⟨a, h1, ?_⟩
  cases a with
  | tmp u => exact h2
  | _ => cases h2
theorem so_real {ops : Array Oper} {o : Oper} (h : realS (so ops o) = true) : (so ops o).o = o.op ∧ (so ops o).d = o.dst ∧ ∀ t ∈ o.looksAt ops, t ∈ looksS (so ops o) := by
  unfold so at h ⊢
  cases hg : o.guard with
  | none => exact ⟨rfl, rfl, fun t ht => by
      rcases List.mem_append.1 ht with ht | ht
      · exact List.mem_append_left _ (looks_of ht)
      · simp [hg] at ht⟩
  | some jw =>
    obtain ⟨j, want⟩ := jw
    rw [hg] at h
    simp only at h ⊢
    cases hs : slotOf ops j with
    | none => rw [hs] at h; cases h
    | some t' =>
      refine ⟨rfl, rfl, fun t ht => ?_⟩
      have hs' : (ops[j]?).bind (·.dst) = some t' := by
        unfold slotOf at hs
        split at hs
        · rename_i hx; rw [hx]; exact hs
        · cases hs
      rcases List.mem_append.1 ht with ht | ht
      · exact List.mem_append_left _ (looks_of ht)
      · simp [hg, hs'] at ht
        exact List.mem_append_right _ (by simp [ht])
theorem so_apart {ops : Array Oper} {x y : Oper} (h : apartS (so ops x) (so ops y) = true) : x.apart ops y = true := by
  unfold apartS at h
  simp only [Bool.and_eq_true] at h
  obtain ⟨⟨⟨h1, h2⟩, h3⟩, h4⟩ := h
  obtain ⟨a1, a2, a3⟩ := so_real h1
  obtain ⟨b1, b2, b3⟩ := so_real h2
  unfold Oper.apart
  rw [a2, b2] at h3
  rw [b2] at h4
  simp only [Bool.and_eq_true]
  constructor
  · cases hd : x.dst with
    | none => rfl
    | some d =>
      rw [hd] at h3
      simp only [Bool.and_eq_true, Bool.not_eq_true'] at h3 ⊢
      refine ⟨?_, h3.2⟩
      cases hc : (y.looksAt ops).contains d with
      | false => rfl
      | true =>
        have := b3 d (by simpa using hc)
        have h5 : (looksS (so ops y)).contains d = true := by simpa using this
        rw [h5] at h3
        exact absurd h3.1 (by simp)
  · cases hd : y.dst with
    | none => rfl
    | some d =>
      rw [hd] at h4
      simp only [Bool.not_eq_true'] at h4 ⊢
      cases hc : (x.looksAt ops).contains d with
      | false => rfl
      | true =>
        have := a3 d (by simpa using hc)
        have h5 : (looksS (so ops x)).contains d = true := by simpa using this
        rw [h5] at h4
        cases h4
theorem so_pure {ops : Array Oper} {x : Oper} (h : pureK (so ops x).o = true) : pureK x.op = true := by
  have : realS (so ops x) = true := by
    unfold realS
    split
    · rename_i he; rw [he] at h; cases h
    · rfl
  rwa [(so_real this).1] at h
theorem sD_vcD {ops : Array Oper} (hso : ∀ (i : Nat) (o : Oper), ops[i]? = some o → (soL ops ops.toList)[i]? = some (so ops o)) : ∀ (R : List Nat) {s : St} {K K' : St → Prop}, (∀ s, K s → K' s) → sD P (soL ops ops.toList) R s K → vcD P ops R s K'
  | [], s, K, K', h, hk => h _ hk
  | i :: R, s, K, K', h, hk => by
    unfold sD at hk
    unfold vcD
    cases ho : ops[i]? with
    | none =>
      rw [soL_get] at hk
      simp [ho] at hk
    | some o =>
      rw [hso i o ho] at hk
      simp only at hk ⊢
      refine ⟨?_, sStep_vc (fun s' hs => sD_vcD hso R h hs) hk.2⟩
      rcases hk.1 with h1 | ⟨h1, h2⟩
      · exact .inl (so_pure h1)
      · have hr : realS (so ops o) = true := by
          unfold realS
          split
          · rename_i he; rw [he] at h1; cases h1
          · rfl
        rw [(so_real hr).1] at h1
        rw [(so_real hr).2.1] at h2
        exact .inr ⟨h1, h2⟩
theorem sv_vc : ∀ (c : Code) {s : St} {Q Q' : Exit → St → Prop}, (∀ e s, Q e s → Q' e s) → sv P (strip c) s Q → vc P c s Q'
  | .skip, s, Q, Q', h, hk => h _ _ hk
  | .ret, s, Q, Q', h, hk => h _ _ hk
  | .exit id, s, Q, Q', h, hk => h _ _ hk
  | .seq a b, s, Q, Q', h, hk => sv_vc a (fun e s hs => by
      cases e with
      | normal =>
        obtain ⟨s'', hw, hs⟩ := hs
        exact ⟨s'', hw, sv_vc b h hs⟩
      | _ => exact h _ _ hs) hk
  | .cond c x y, s, Q, Q', h, hk => by
    simp only [strip, sv] at hk
    simp only [vc]
    split at hk
    · rename_i b hb
      rw [hb]
      cases b with
      | true => exact sv_vc x h hk
      | false => exact sv_vc y h hk
    · cases hk
  | .block id c, s, Q, Q', h, hk => sv_vc c (fun e s hs => by
      cases e with
      | exit id' =>
        simp only [blockK] at hs ⊢
        split at hs
        · rename_i hh; exact h _ _ hs
        · rename_i hh; exact h _ _ hs
      | _ => exact h _ _ hs) hk
  | .loop c, s, Q, Q', h, hk => by
    obtain ⟨I, n, s1, h1, h2, h3⟩ := hk
    exact ⟨I, n, s1, h1, h2, fun m s2 hI => sv_vc c (fun e s hs => by
      cases e with
      | normal => exact hs
      | _ => exact h _ _ hs) (h3 m s2 hI)⟩
  | .region _ ops draw, s, Q, Q', h, hk => by
    cases draw with
    | false => exact sOps_vc (fun s hs => h _ _ hs) hk
    | true =>
      obtain ⟨hm, perm, A, h1, h2, h3, h4, h5⟩ := hk
      have hl : (soL ops ops.toList).length = ops.size := by rw [soL_len]; simp
      have haf : ∀ (i : Nat) (o : Oper), ops[i]? = some o → (ops.toList.map waitL)[i]? = some (waitL o) := by intro i o ho; simp [ho]
      have hso : ∀ (i : Nat) (o : Oper), ops[i]? = some o → (soL ops ops.toList)[i]? = some (so ops o) := by intro i o ho; rw [soL_get]; simp [ho]
      refine ⟨hm, perm, A, ⟨fun i o k ho hw => h1.less i _ k (haf i o ho) (waitL_iff.2 hw), fun i k hk => ?_⟩, h2.imp ?_, by rw [← hl]; exact h3, by rw [← hl]; exact h4, ?_⟩
      · obtain ⟨ks, j, e1, e2, e3⟩ := h1.anc i k hk
        rw [List.getElem?_map] at e1
        obtain ⟨o, ho, rfl⟩ := Option.map_eq_some_iff.1 e1
        exact ⟨o, j, by simpa using ho, waitL_iff.1 e2, e3⟩
      · rintro k i ⟨e1, e2, e3⟩
        exact ⟨e1, fun x hx hw => e2 _ (haf k x hx) (waitL_iff.2 hw), e3.imp id fun e x o hx ho => ⟨so_pure (e _ _ (hso k x hx) (hso i o ho)).1, so_apart (e _ _ (hso k x hx) (hso i o ho)).2⟩⟩
      · exact sD_vcD hso perm (fun s hs => h _ _ hs) h5
  | .rangeFunc .., s, Q, Q', h, hk => by cases hk
  | .scope _, s, Q, Q', h, hk => by cases hk
  | .label _, s, Q, Q', h, hk => by cases hk
  | .goto _, s, Q, Q', h, hk => by cases hk
  | .refuse _, s, Q, Q', h, hk => by cases hk
end

/-! ### Operations in a word -/
inductive I where
  | mv (d : Nat) (x : Operand)
  | as (d : Nat) (x : Operand)
  | pk (d : Nat) (c a b : Operand)
  | al (d t : Nat)
  | bx (d t : Nat) (x : Operand)
  | ld (d t : Nat) (x : Operand)
  | st (t : Nat) (a x : Operand)
  | fa (d t : Nat) (x : Operand) (f : Nat)
  | ex (d : Nat) (x : Operand) (i : Nat)
  | nc (d : Nat) (x : Operand)
  | bn (d : Nat) (op : BinOp) (t : Nat) (x y : Operand) (u : Nat)
  | un (d : Nat) (op : UnOp) (t : Nat) (x : Operand)
  | cv (d s t : Nat) (x : Operand)
  | ln (d t : Nat) (x : Operand)
  | ca (d : Option Nat) (f : Nat) (xs : List Operand) (ts : List Nat)
  | op (d : Option Nat) (o : Op)
/-- .. behind a guard, or without one. -/
inductive J where
  | p (i : I)
  | g (t : Nat) (w : Bool) (i : I)
def I.so : I → SO
  | .mv d x => ⟨some d, .move x, none⟩
  | .as d x => ⟨some d, .assign x, none⟩
  | .pk d c a b => ⟨some d, .pick c a b, none⟩
  | .al d t => ⟨some d, .alloc t, none⟩
  | .bx d t x => ⟨some d, .box t x, none⟩
  | .ld d t x => ⟨some d, .load t x, none⟩
  | .st t a x => ⟨none, .store t a x, none⟩
  | .fa d t x f => ⟨some d, .fieldAddr t x f, none⟩
  | .ex d x i => ⟨some d, .extract x i, none⟩
  | .nc d x => ⟨some d, .nilCheck x, none⟩
  | .bn d b t x y u => ⟨some d, .binOp b t x y u, none⟩
  | .un d b t x => ⟨some d, .unOp b t x, none⟩
  | .cv d s t x => ⟨some d, .convert s t x, none⟩
  | .ln d t x => ⟨some d, .call { callee := .builtin .len, args := #[x], argTypes := #[t] }, none⟩
  | .ca d f xs ts => ⟨d, .call { callee := .value (.func f), args := xs.toArray, argTypes := ts.toArray }, none⟩
  | .op d o => ⟨d, o, none⟩
def soI : List J → List SO
  | [] => []
  | .p i :: l => ⟨i.so.d, i.so.o, none⟩ :: soI l
  | .g t w i :: l => ⟨i.so.d, i.so.o, some (t, w)⟩ :: soI l
/-- Code in words, as the operations stand in it. -/
def exC : SC J → SC SO
  | .skip => .skip
  | .ret => .ret
  | .exit id => .exit id
  | .seq a b => .seq (exC a) (exC b)
  | .sq _ a b => .seq (exC a) (exC b)
  | .ct a b => .seq (exC a) (exC b)
  | .cond c x y => .cond c (exC x) (exC y)
  | .block id c => .block id (exC c)
  | .loop c => .loop (exC c)
  | .reg l => .reg (soI l)
  | .dr _ _ l af => .dr [] [] (soI l) af
  | .bad => .bad

def iSt (P : Program) (i : I) (s : St) (K : St → Prop) : Prop := sOp P ⟨i.so.d, i.so.o, none⟩ s K
def iSkip (i : I) (s : St) (K : St → Prop) : Prop := put s i.so.d (.tup []) s.σ false K
def evT (tm : List (Nat × AV)) : Operand → AV
  | .tmp t => match lookA tm t with
    | some v => v
    | none => .dead
  | .const v => absV v
  | .func f => .sc (.func (.func f) #[] #[])
  | .global _ => .dead
def evL (tm : List (Nat × AV)) : List Operand → List AV
  | [] => []
  | x :: l => evT tm x :: evL tm l
def lookT : List (Nat × AV) → Nat → AV
  | [], _ => .dead
  | (k, v) :: l, n => match k == n with
    | true => v
    | false => lookT l n
def putK (n d : Nat) (tm : List (Nat × AV)) (G : Nat) (K : St → Prop) (x : AV × Sig) : Prop := Br (Nat.blt d n) (K ⟨n, (d, x.1) :: tm, x.2, G + 1⟩) False
def putV (n d : Nat) (tm : List (Nat × AV)) (σ : Sig) (G : Nat) (K : St → Prop) (v : AV) : Prop := Br (Nat.blt d n) (K ⟨n, (d, v) :: tm, σ, G⟩) False
def putS (n : Nat) (tm : List (Nat × AV)) (G : Nat) (K : St → Prop) (σ : Sig) : Prop := K ⟨n, tm, σ, G⟩
def wantK (P : Program) (n : Nat) (d : Option Nat) (tm : List (Nat × AV)) (σ : Sig) (G f : Nat) (K : St → Prop) (x : Sig × List AV) : Prop := Want P f x.2 (CallK ⟨n, tm, σ, G⟩ d K x.1)
def guardK (b w : Bool) (X Y X' Y' : Prop) : Prop := Br b (Br w X Y) (Br w Y' X')

section
variable {P : Program} {n G : Nat} {tm : List (Nat × AV)} {σ : Sig} {Q : Exit → St → Prop} {K : St → Prop} {d t f i s u : Nat} {x y z : Operand} {l : List J} {w : Bool}
theorem ev_evT : ev ⟨n, tm, σ, G⟩ x = evT tm x := by cases x <;> rfl
theorem map_evL : ∀ (xs : List Operand), xs.map (ev ⟨n, tm, σ, G⟩) = evL tm xs
  | [] => rfl
  | x :: xs => by rw [List.map_cons, map_evL xs, ev_evT]; rfl
theorem put_some {v : AV} {σ' : Sig} : put ⟨n, tm, σ, G⟩ (some d) v σ' true K = putK n d tm G K (v, σ') := by
  unfold put putK
  simp only
  cases Nat.blt d n <;> rfl
theorem put_some0 {v : AV} : put ⟨n, tm, σ, G⟩ (some d) v σ false K = putV n d tm σ G K v := by
  unfold put putV
  simp only
  cases Nat.blt d n <;> rfl
theorem onSome_map {α β : Type} {x : Option α} {g : α → β} {K : β → Prop} : onSome (x.map g) K = onSome x (fun a => K (g a)) := by cases x <;> rfl
theorem evf : (ev ⟨n, tm, σ, G⟩) = evT tm := funext fun _ => ev_evT
theorem plainR {o : Op} (ho : ∀ c, o ≠ .call c) (hb : bumps o = true) : sOp P ⟨some d, o, none⟩ ⟨n, tm, σ, G⟩ K = onSome (absOp P d G (evT tm) σ o) (putK n d tm G K) := by
  unfold sOp
  split
  · rename_i c hc; exact absurd hc (ho c)
  · simp only [Option.getD_some, evf, hb]
    rfl
theorem plainV' {o : Op} (ho : ∀ c, o ≠ .call c) (hb : bumps o = false) {x : Option AV} (hx : absOp P d G (evT tm) σ o = x.map fun v => (v, σ)) : sOp P ⟨some d, o, none⟩ ⟨n, tm, σ, G⟩ K = onSome x (putV n d tm σ G K) := by
  unfold sOp
  split
  · rename_i c hc; exact absurd hc (ho c)
  · simp only [Option.getD_some, evf, hb, hx, onSome_map]
    rfl
theorem r_mv : iSt P (.mv d x) ⟨n, tm, σ, G⟩ K = putV n d tm σ G K (evT tm x) := plainV' (P := P) (o := .move x) (fun _ => nofun) rfl (x := some (evT tm x)) rfl
theorem r_as : iSt P (.as d x) ⟨n, tm, σ, G⟩ K = putV n d tm σ G K (evT tm x) := plainV' (P := P) (o := .assign x) (fun _ => nofun) rfl (x := some (evT tm x)) rfl
theorem r_pk : iSt P (.pk d x y z) ⟨n, tm, σ, G⟩ K = onSome (absPick (evT tm x) (evT tm y) (evT tm z)) (putV n d tm σ G K) := plainV' (o := .pick x y z) (fun _ => nofun) rfl rfl
theorem r_al : iSt P (.al d t) ⟨n, tm, σ, G⟩ K = onSome (absAlloc P d G σ t) (putK n d tm G K) := plainR (o := .alloc t) (fun _ => nofun) rfl
theorem r_bx : iSt P (.bx d t x) ⟨n, tm, σ, G⟩ K = onSome (absBox P d G σ t (evT tm x)) (putK n d tm G K) := plainR (o := .box t x) (fun _ => nofun) rfl
theorem r_ld : iSt P (.ld d t x) ⟨n, tm, σ, G⟩ K = onSome (absLoad P σ t (evT tm x)) (putV n d tm σ G K) := plainV' (o := .load t x) (fun _ => nofun) rfl rfl
theorem r_fa : iSt P (.fa d t x f) ⟨n, tm, σ, G⟩ K = onSome (absFieldAddr P t (evT tm x) f) (putV n d tm σ G K) := plainV' (o := .fieldAddr t x f) (fun _ => nofun) rfl rfl
theorem r_ex : iSt P (.ex d x i) ⟨n, tm, σ, G⟩ K = onSome (absExtract (evT tm x) i) (putV n d tm σ G K) := plainV' (o := .extract x i) (fun _ => nofun) rfl rfl
theorem r_nc : iSt P (.nc d x) ⟨n, tm, σ, G⟩ K = onSome (absNilCheck (evT tm x)) (putV n d tm σ G K) := plainV' (o := .nilCheck x) (fun _ => nofun) rfl rfl
theorem r_bn {b : BinOp} : iSt P (.bn d b t x y u) ⟨n, tm, σ, G⟩ K = onSome (absBin P b t (evT tm x) (evT tm y)) (putV n d tm σ G K) := plainV' (o := .binOp b t x y u) (fun _ => nofun) rfl rfl
theorem r_un {b : UnOp} : iSt P (.un d b t x) ⟨n, tm, σ, G⟩ K = onSome (absUn b (evT tm x)) (putV n d tm σ G K) := plainV' (o := .unOp b t x) (fun _ => nofun) rfl rfl
theorem r_cv : iSt P (.cv d s t x) ⟨n, tm, σ, G⟩ K = onSome (absConv P s t (evT tm x)) (putV n d tm σ G K) := plainV' (o := .convert s t x) (fun _ => nofun) rfl rfl
theorem r_st : iSt P (.st t x y) ⟨n, tm, σ, G⟩ K = onSome (absStore P σ t (evT tm x) (evT tm y)) (putS n tm G K) := by
  show onSome (absOp P 0 G (ev ⟨n, tm, σ, G⟩) σ (.store t x y)) (PutK ⟨n, tm, σ, G⟩ none false K) = _
  rw [evf]
  simp only [absOp, onSome_map]
  rfl
theorem r_ia : iSt P (.op (some d) (.indexAddr t x y)) ⟨n, tm, σ, G⟩ K = onSome (absIndexAddr P σ t (evT tm x) (evT tm y)) (putV n d tm σ G K) := plainV' (o := .indexAddr t x y) (fun _ => nofun) rfl rfl
theorem r_ms : iSt P (.op (some d) (.makeSlice t x y)) ⟨n, tm, σ, G⟩ K = onSome (absMake P d G σ t (evT tm x) (evT tm y)) (putK n d tm G K) := plainR (o := .makeSlice t x y) (fun _ => nofun) rfl
theorem r_ln : iSt P (.ln d t x) ⟨n, tm, σ, G⟩ K = onSome (absLen P t (evT tm x)) (putV n d tm σ G K) := by
  show onSome (absOp P d G (ev ⟨n, tm, σ, G⟩) σ (.call { callee := .builtin .len, args := #[x], argTypes := #[t] })) (PutK ⟨n, tm, σ, G⟩ (some d) false K) = _
  rw [evf]
  simp only [absOp, onSome_map]
  rfl
theorem r_ca {xs : List Operand} {ts : List Nat} {d : Option Nat} : iSt P (.ca d f xs ts) ⟨n, tm, σ, G⟩ K = onSome (frzAll σ (evL tm xs)) (wantK P n d tm σ G f K) := by
  show onSome (frzAll σ (xs.toArray.toList.map (ev ⟨n, tm, σ, G⟩))) (WantK P ⟨n, tm, σ, G⟩ d f K) = _
  rw [List.toList_toArray, map_evL]
  rfl
theorem sOp_none {o : SO} {s : St} : sOp P o s K = sOp P ⟨o.d, o.o, none⟩ s K := rfl
theorem lookT_of : ∀ (tm : List (Nat × AV)) (t : Nat) (b : Bool), lookT tm t = .sc (.bool b) → lookA tm t = some (.sc (.bool b))
  | [], _, _, h => by cases h
  | (k, v) :: l, t, b, h => by
    simp only [lookT, lookA] at h ⊢
    split at h
    · rename_i hk; rw [hk]; rw [h]
    · rename_i hk; rw [hk]; exact lookT_of l t b h
theorem lookT_tup : ∀ (tm : List (Nat × AV)) (t : Nat), lookT tm t = .tup [] → lookA tm t = some (.tup [])
  | [], _, h => by cases h
  | (k, v) :: l, t, h => by
    simp only [lookT, lookA] at h ⊢
    split at h
    · rename_i hk; rw [hk]; rw [h]
    · rename_i hk; rw [hk]; exact lookT_tup l t h
def guardP (P : Program) (n : Nat) (tm : List (Nat × AV)) (σ : Sig) (G t : Nat) (w : Bool) (i : I) (K : St → Prop) (v : AV) : Prop :=
  match v with
  | .sc (.bool b) => Br b (Br w (iSt P i ⟨n, tm, σ, G⟩ K) (iSkip i ⟨n, tm, σ, G⟩ K)) (Br w (iSkip i ⟨n, tm, σ, G⟩ K) (iSt P i ⟨n, tm, σ, G⟩ K))
  | .tup [] => iSkip i ⟨n, tm, σ, G⟩ K
  | _ => False
theorem guard_sound {i : I} (h : guardP P n tm σ G t w i K (lookT tm t)) : sStep P ⟨i.so.d, i.so.o, some (t, w)⟩ ⟨n, tm, σ, G⟩ K := by
  cases hv : lookT tm t with
  | sc v =>
    rw [hv] at h
    cases v with
    | bool b =>
      unfold sStep
      simp only [lookT_of _ _ _ hv]
      exact h
    | _ => cases h
  | tup vs =>
    rw [hv] at h
    cases vs with
    | nil =>
      unfold sStep
      simp only [lookT_tup _ _ hv]
      exact h
    | cons => cases h
  | _ => rw [hv] at h; cases h

/-- The conditions, one word at a time: what the simplifier goes by. -/
def jOps (P : Program) : List J → St → (St → Prop) → Prop
  | [], s, Q => Q s
  | .p i :: l, s, Q => iSt P i s fun s' => jOps P l s' Q
  | .g t w i :: l, s, Q => guardP P s.n s.tm s.σ s.G t w i (fun s' => jOps P l s' Q) (lookT s.tm t)
/-! A check of an order, by evaluation -/
def pairB (l : List SO) (af anc : List (List Nat)) (k i : Nat) : Bool :=
  k != i && !(af.getD k []).contains i && ((anc.getD i []).contains k || (match l[k]?, l[i]? with
    | some x, some o => pureK x.o && apartS x o
    | _, _ => false))
def pairsB (l : List SO) (af anc : List (List Nat)) : List Nat → Bool
  | [] => true
  | k :: R => R.all (pairB l af anc k) && pairsB l af anc R
def chk (perm : List Nat) (anc : List (List Nat)) (l : List SO) (af : List (List Nat)) : Bool :=
  (List.range af.length).all (fun i => (af.getD i []).all fun k => Nat.blt k i) &&
  ((List.range anc.length).all (fun i => (anc.getD i []).all fun k => (af.getD i []).any fun j => j == k || (anc.getD j []).contains k) &&
  (pairsB l af anc perm && ((List.range l.length).all (fun i => perm.contains i) && (perm.all (fun i => Nat.blt i l.length) && Nat.ble perm.length l.length))))
theorem pairsB_spec {l : List SO} {af anc : List (List Nat)} : ∀ {R : List Nat}, pairsB l af anc R = true → R.Pairwise (OkPairS l af fun i => anc.getD i [])
  | [], _ => .nil
  | k :: R, h => by
    simp only [pairsB, Bool.and_eq_true, List.all_eq_true] at h
    refine .cons (fun i hi => ?_) (pairsB_spec h.2)
    have h1 := h.1 i hi
    simp only [pairB, Bool.and_eq_true, Bool.or_eq_true, Bool.not_eq_true', bne_iff_ne, ne_eq] at h1
    obtain ⟨⟨e1, e2⟩, e3⟩ := h1
    refine ⟨e1, fun ks hk hm => ?_, ?_⟩
    · have : af.getD k [] = ks := by simp [List.getD_eq_getElem?_getD, hk]
      rw [this] at e2
      have h3 : ks.contains i = true := by simpa using hm
      rw [h3] at e2
      cases e2
    · rcases e3 with e3 | e3
      · exact .inl (by simpa using e3)
      · refine .inr fun x o hx ho => ?_
        rw [hx, ho] at e3
        simpa using e3
theorem chk_spec {perm : List Nat} {anc : List (List Nat)} {l : List SO} {af : List (List Nat)} (h : chk perm anc l af = true) :
    StaticS af (fun i => anc.getD i []) ∧ perm.Pairwise (OkPairS l af fun i => anc.getD i []) ∧ (∀ i, i ∈ perm ↔ i < l.length) ∧ perm.length ≤ l.length := by
  simp only [chk, Bool.and_eq_true, List.all_eq_true, List.mem_range, List.any_eq_true, Bool.or_eq_true, beq_iff_eq] at h
  obtain ⟨h1, h2, h3, h4, h5, h6⟩ := h
  refine ⟨⟨fun i ks k hi hk => ?_, fun i k hk => ?_⟩, pairsB_spec h3, fun i => ⟨fun hi => Nat.le_of_ble_eq_true (h5 i hi), fun hi => by simpa using h4 i hi⟩, Nat.le_of_ble_eq_true h6⟩
  · have hlt : i < af.length := by
      rcases Nat.lt_or_ge i af.length with hx | hx
      · exact hx
      · rw [List.getElem?_eq_none hx] at hi; cases hi
    exact Nat.le_of_ble_eq_true (h1 i hlt k (by simp [List.getD_eq_getElem?_getD, hi, hk]))
  · have hlt : i < anc.length := by
      rcases Nat.lt_or_ge i anc.length with hx | hx
      · exact hx
      · simp [List.getD_eq_getElem?_getD, List.getElem?_eq_none hx] at hk
    obtain ⟨j, hj, e⟩ := h2 i hlt k hk
    cases ha : af[i]? with
    | none => simp [List.getD_eq_getElem?_getD, ha] at hj
    | some ks =>
      refine ⟨ks, j, rfl, by simpa [List.getD_eq_getElem?_getD, ha] using hj, e.imp id fun e => by simpa using e⟩
def nthJ : List J → Nat → Option J
  | [], _ => none
  | j :: l, i => match i == 0 with
    | true => some j
    | false => nthJ l (i - 1)
def clsB (i : I) (σ : Sig) : Bool := match pureK i.so.o with
  | true => true
  | false => match effK i.so.o, lookA σ (i.so.d.getD 0) with
    | true, none => true
    | _, _ => false
def jD (P : Program) (l : List J) : List Nat → St → (St → Prop) → Prop
  | [], s, Q => Q s
  | i :: R, s, Q => match nthJ l i with
    | some (.p j) => clsB j s.σ = true ∧ iSt P j s fun s' => jD P l R s' Q
    | some (.g t w j) => clsB j s.σ = true ∧ guardP P s.n s.tm s.σ s.G t w j (fun s' => jD P l R s' Q) (lookT s.tm t)
    | none => False
def keepT : List Nat → List (Nat × AV) → List (Nat × AV)
  | [], _ => []
  | k :: ks, tm => (k, lookT tm k) :: keepT ks tm
def keepS (ks : List Nat) (s : St) : St := ⟨s.n, keepT ks s.tm, s.σ, s.G⟩
def jv (P : Program) : SC J → St → (Exit → St → Prop) → Prop
  | .skip, s, Q => Q .normal s
  | .ret, s, Q => Q .ret s
  | .exit id, s, Q => Q (.exit id) s
  | .seq a b, s, Q => jv P a s (thenK Q fun s' => jv P b s' Q)
  | .sq ks a b, s, Q => jv P a s (thenK Q fun s' => jv P b (keepS ks s') Q)
  | .ct a b, s, Q => jv P a s (thenK Q fun s' => ∃ s'', Weak s' s'' ∧ jv P b s'' Q)
  | .cond c x y, s, Q => match evT s.tm c with
    | .sc (.bool b) => Br b (jv P x s Q) (jv P y s Q)
    | _ => False
  | .block id c, s, Q => jv P c s (blockK id Q)
  | .loop c, s, Q => ∃ (I : Nat → St → Prop) (n : Nat) (s1 : St), Weak s s1 ∧ I n s1 ∧ ∀ m s2, I m s2 → jv P c s2 (thenK Q fun s3 => ∃ m' s4, m' < m ∧ Weak s3 s4 ∧ I m' s4)
  | .reg l, s, Q => jOps P l s fun s' => Q .normal s'
  | .dr perm anc l af, s, Q => (chk perm anc (soI l) af = true ∧ P.follows .mixedOrders = true) ∧ jD P l perm s (Q .normal)
  | .bad, _, _ => False
theorem jOps_sOps : ∀ (l : List J) (s : St) (Q : St → Prop), jOps P l s Q → sOps P (soI l) s Q
  | [], s, Q, h => h
  | .p i :: l, s, Q, h => by
    have : sStep P ⟨i.so.d, i.so.o, none⟩ s (fun s' => sOps P (soI l) s' Q) := by
      show sOp P _ s _
      exact sOp_mono (fun s' hs => jOps_sOps l s' Q hs) h
    exact this
  | .g t w i :: l, ⟨n, tm, σ, G⟩, Q, h => by
    have hg := guard_sound h
    exact sStep_mono (fun s' hs => jOps_sOps l s' Q hs) hg
theorem clsB_spec {i : I} {s : St} (h : clsB i s.σ = true) (g : Option (Nat × Bool)) : DrawS ⟨i.so.d, i.so.o, g⟩ s := by
  unfold clsB at h
  split at h
  · exact .inl ‹_›
  · split at h
    · exact .inr ⟨‹_›, ‹_›⟩
    · cases h
theorem nthJ_so : ∀ (l : List J) (i : Nat), (soI l)[i]? = (nthJ l i).map fun
    | .p j => ⟨j.so.d, j.so.o, none⟩
    | .g t w j => ⟨j.so.d, j.so.o, some (t, w)⟩
  | [], i => rfl
  | .p j :: l, 0 => rfl
  | .g t w j :: l, 0 => rfl
  | .p j :: l, i + 1 => by simpa [soI, nthJ] using nthJ_so l i
  | .g t w j :: l, i + 1 => by simpa [soI, nthJ] using nthJ_so l i
theorem sD_mono {l : List SO} : ∀ {R : List Nat} {s : St} {K K' : St → Prop}, (∀ s, K s → K' s) → sD P l R s K → sD P l R s K'
  | [], s, K, K', h, hk => h _ hk
  | i :: R, s, K, K', h, hk => by
    unfold sD at hk ⊢
    split at hk
    · cases hk
    · exact ⟨hk.1, sStep_mono (fun s' hs => sD_mono h hs) hk.2⟩
theorem guardP_mono {K K' : St → Prop} {i : I} {v : AV} (h : ∀ s, K s → K' s) (hk : guardP P n tm σ G t w i K v) : guardP P n tm σ G t w i K' v := by
  unfold guardP at hk ⊢
  split at hk
  · rename_i b
    cases b <;> cases w <;> simp only [Br_true, Br_false] at hk ⊢ <;> first | exact sOp_mono h hk | exact put_mono h hk
  · exact put_mono h hk
  · cases hk
theorem jD_mono {l : List J} : ∀ {R : List Nat} {s : St} {K K' : St → Prop}, (∀ s, K s → K' s) → jD P l R s K → jD P l R s K'
  | [], s, K, K', h, hk => h _ hk
  | i :: R, s, K, K', h, hk => by
    unfold jD at hk ⊢
    split at hk
    · exact ⟨hk.1, sOp_mono (fun s' hs => jD_mono h hs) hk.2⟩
    · exact ⟨hk.1, guardP_mono (fun s hs => jD_mono h hs) hk.2⟩
    · cases hk
theorem jD_sD (l : List J) : ∀ (R : List Nat) (s : St) (Q : St → Prop), jD P l R s Q → sD P (soI l) R s Q
  | [], s, Q, h => h
  | i :: R, ⟨n, tm, σ, G⟩, Q, h => by
    unfold jD at h
    unfold sD
    rw [nthJ_so]
    split at h
    · rename_i j hj
      rw [hj]
      exact ⟨clsB_spec h.1 none, sOp_mono (fun s' hs => jD_sD l R s' Q hs) h.2⟩
    · rename_i t w j hj
      rw [hj]
      exact ⟨clsB_spec h.1 (some (t, w)), sStep_mono (fun s' hs => jD_sD l R s' Q hs) (guard_sound h.2)⟩
    · cases h
theorem lookA_lookT : ∀ (tm : List (Nat × AV)) (t : Nat) (v : AV), lookA tm t = some v → lookT tm t = v
  | [], _, _, h => by cases h
  | (k, u) :: l, t, v, h => by
    simp only [lookT, lookA] at h ⊢
    split at h
    · rename_i hk; rw [hk]; exact Option.some.inj h
    · rename_i hk; rw [hk]; exact lookA_lookT l t v h
theorem lookT_none : ∀ (tm : List (Nat × AV)) (t : Nat), lookA tm t = none → lookT tm t = .dead
  | [], _, _ => rfl
  | (k, u) :: l, t, h => by
    simp only [lookT, lookA] at h ⊢
    split at h
    · cases h
    · rename_i hk; rw [hk]; exact lookT_none l t h
theorem lookA_keepT : ∀ (ks : List Nat) (tm : List (Nat × AV)) (t : Nat) (v : AV), lookA (keepT ks tm) t = some v → lookT tm t = v
  | [], _, _, _, h => by cases h
  | k :: ks, tm, t, v, h => by
    simp only [keepT, lookA_cons] at h
    split at h
    · rename_i hk; subst hk; exact Option.some.inj h
    · exact lookA_keepT ks tm t v h
theorem Rel.look {rd : RD} {φ : Phi} {O : Nat → Prop} {w0 w : World} {s : St} {a : Act} (h : Rel rd φ O w0 s a w) (t : Nat) : VRel rd φ (lookT s.tm t) (a.tmps.getD t undef) := by
  cases hl : lookA s.tm t with
  | none => rw [lookT_none _ _ hl]; exact .dead _
  | some v => rw [lookA_lookT _ _ _ hl]; exact h.tm t v hl
theorem Weak.keep (ks : List Nat) (s : St) : Weak s (keepS ks s) := by
  intro rd O w0 a w ⟨rd', φ, hx, h⟩
  exact ⟨rd', φ, hx, h.heap, fun t v hl => lookA_keepT ks s.tm t v hl ▸ h.look t, h.size, h.defers, h.gen⟩
end
end Go.Proofs.Ytbamamgeamnmnaa.E
