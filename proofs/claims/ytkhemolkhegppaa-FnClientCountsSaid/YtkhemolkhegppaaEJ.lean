/-
  E, part J: code without what no proof asks: each operation in a word; and the rules by which the simplifier goes through it.
-/
import Derived.Test.YtkhemolkhegppaaEI
namespace Go.Proofs.Ytkhemolkhegppaa.E
open Go Go.RowKit
set_option linter.unusedVariables false

/-- An operation, its guard's slot found. -/
structure SO where
  d : Option Nat
  o : Op
  g : Option (Nat × Bool)
/-- Code over operations of a kind. -/
inductive SC (α : Type) where
  | skip
  | ret
  | exit (id : Nat)
  | seq (a b : SC α)
  | sq (ks : List Nat) (a b : SC α)
  | ct (a b : SC α)
  | cond (c : Operand) (x y : SC α)
  | block (id : Nat) (c : SC α)
  | loop (c : SC α)
  | lp (ks : List Nat) (c : SC α)
  | reg (l : List α)
  | dr (t : DT) (anc : List (List Nat)) (l : List α) (af : List (List Nat))
  | rng (id : Nat) (l : List α) (it ty : Nat) (x : Operand) (tn tb : Nat) (b : SC α)
  | bad

def so (ops : Array Oper) (o : Oper) : SO := match o.guard with
  | none => ⟨o.dst, o.op, none⟩
  | some (j, want) => match slotOf ops j with
    | some t => ⟨o.dst, o.op, some (t, want)⟩
    | none => ⟨o.dst, .panic (.const (.bool true)), none⟩
def soL (ops : Array Oper) : List Oper → List SO
  | [] => []
  | o :: os => so ops o :: soL ops os
def strip : Code → SC SO
  | .skip => .skip
  | .ret => .ret
  | .exit id => .exit id
  | .seq a b => .seq (strip a) (strip b)
  | .cond c x y => .cond c (strip x) (strip y)
  | .block id c => .block id (strip c)
  | .loop c => .loop (strip c)
  | .region _ ops false => .reg (soL ops ops.toList)
  | .region _ ops true => .dr .nil [] (soL ops ops.toList) (ops.toList.map waitL)
  | _ => .bad

def sOp2 (P : Program) (o : SO) (s : St) (K : St → Prop) : Prop := ∃ v σ' b, CanO P (o.d.getD 0) o.o (ev s) s.σ s.G v σ' b ∧ put s o.d v σ' b K
def sG (s : St) (d : Option Nat) (t : Nat) (w : Bool) (X : Prop) (K : St → Prop) : Prop := match lookA s.tm t with
  | some (.sc (.bool b)) => Br b (Br w X (put s d (.tup []) s.σ false K)) (Br w (put s d (.tup []) s.σ false K) X)
  | some (.tup []) => put s d (.tup []) s.σ false K
  | _ => False
def sStep2 (P : Program) (o : SO) (s : St) (K : St → Prop) : Prop :=
  match o.g with
  | none => sOp2 P o s K
  | some (t, w) => sG s o.d t w (sOp2 P o s K) K
def sOps (P : Program) : List SO → St → (St → Prop) → Prop
  | [], s, Q => Q s
  | o :: os, s, Q => sStep2 P o s fun s' => sOps P os s' Q
/-! Drawn regions -/
def tmpOf : Operand → Option Nat
  | .tmp t => some t
  | _ => none
def looksS (o : SO) : List Nat := (o.o.operands.toList.filterMap tmpOf) ++ (match o.g with
  | some (t, _) => [t]
  | none => [])
def realS (o : SO) : Bool := match o.o with
  | .panic _ => false
  | _ => true
def apartS (x y : SO) : Bool := realS x && realS y &&
  (match x.d with
   | some d => !(looksS y).contains d && y.d != some d
   | none => true) &&
  (match y.d with
   | some d => !(looksS x).contains d
   | none => true)
def sV (P : Program) (σ : Sig) (e : Operand → AV) (o : SO) : Option AV := match o.g with
  | none => pureV P σ e o.o
  | some (t, w) => match e (.tmp t) with
    | .sc (.bool b) => match b == w with
      | true => pureV P σ e o.o
      | false => some (.tup [])
    | .tup [] => some (.tup [])
    | _ => none
def sPure (P : Program) (o : SO) (s : St) (K : St → Prop) : Prop := onSome (sV P s.σ (ev s) o) fun v => put s o.d v s.σ false K
def sameS (P : Program) (l : List SO) (rc : List Nat) (s : St) (σ' : Sig) : Prop := ∀ k ∈ rc, ∀ x, l[k]? = some x → sV P σ' (ev s) x = sV P s.σ (ev s) x
def sT (P : Program) (l : List SO) : DT → St → (St → Prop) → Prop
  | .nil, s, K => K s
  | .pu i t, s, K => match l[i]? with
    | none => False
    | some o => pureK o.o = true ∧ sPure P o s fun s' => sT P l t s' K
  | .ef i rc t, s, K => match l[i]? with
    | none => False
    | some o => sStep2 P o s fun s' => sameS P l rc s s'.σ ∧ sT P l t s' K
  | .or a b, s, K => sT P l a s K ∧ sT P l b s K
/-! A check of a tree, by evaluation -/
def puB (l : List SO) (anc : List (List Nat)) (i : Nat) (t : DT) : Bool := match l[i]? with
  | none => false
  | some x => realS x && (match x.d with
      | some d => !(looksS x).contains d
      | none => true) &&
    (opsT t).all (fun j => match l[j]? with
      | some o => realS o && (match o.d with
        | some d => !(looksS x).contains d || (opsT t).all fun m => m == j || (anc.getD j []).contains m
        | none => true)
      | none => false) &&
    ((opsT t).all fun m => !(anc.getD i []).contains m) &&
    (nodesT t).all (fun n => (anc.getD n.1 []).contains i || (match l[n.1]? with
      | some o => apartS x o && (freeK x.o || (match n.2 with
        | none => true
        | some rc => rc.contains i))
      | none => false))
def okTB (l : List SO) (anc : List (List Nat)) : Bool → DT → Bool
  | _, .nil => true
  | false, .pu i t => !(opsT t).contains i && (puB l anc i t && okTB l anc false t)
  | true, .pu _ _ => false
  | false, .ef i rc t => !(opsT t).contains i && ((opsT t).all (fun j => (anc.getD j []).contains i) && okTB l anc false t)
  | true, .ef i rc t => !(opsT t).contains i && okTB l anc false t
  | f, .or a b => okTB l anc true a && (okTB l anc true b && ((((opsT a).all fun i => (opsT b).contains i) && ((opsT b).all fun i => (opsT a).contains i)) && (Nat.beq (opsT a).length (opsT b).length &&
      (f || (opsT a).all fun j => (headsT a ++ headsT b).any fun h => h == j || (anc.getD j []).contains h))))
def chkT (t : DT) (anc : List (List Nat)) (l : List SO) (af : List (List Nat)) : Bool :=
  (List.range af.length).all (fun i => (af.getD i []).all fun k => Nat.blt k i) &&
  ((List.range anc.length).all (fun i => (anc.getD i []).all fun k => (af.getD i []).any fun j => j == k || (anc.getD j []).contains k) &&
  (l.all realS && okTB l anc false t && ((List.range l.length).all (fun i => (opsT t).contains i) && ((opsT t).all (fun i => Nat.blt i l.length) && Nat.ble (opsT t).length l.length))))
def sv (P : Program) : SC SO → St → (Exit → St → Prop) → Prop
  | .skip, s, Q => Q .normal s
  | .ret, s, Q => Q .ret s
  | .exit id, s, Q => Q (.exit id) s
  | .seq a b, s, Q => sv P a s (thenK Q fun s' => ∃ s'', Weak s' s'' ∧ sv P b s'' Q) ∨ ∀ c : Code, strip c = .seq a b → GoodC P c s Q
  | .sq _ a b, s, Q => sv P a s (thenK Q fun s' => ∃ s'', Weak s' s'' ∧ sv P b s'' Q)
  | .ct a b, s, Q => sv P a s (thenK Q fun s' => ∃ s'', Weak s' s'' ∧ sv P b s'' Q)
  | .cond c x y, s, Q => match ev s c with
    | .sc (.bool b) => Br b (sv P x s Q) (sv P y s Q)
    | _ => False
  | .block id c, s, Q => sv P c s (blockK id Q)
  | .loop c, s, Q => ∃ (I : Nat → St → Prop) (n : Nat) (s1 : St), Weak s s1 ∧ I n s1 ∧ ∀ m s2, I m s2 → sv P c s2 (thenK Q fun s3 => ∃ m' s4, m' < m ∧ Weak s3 s4 ∧ I m' s4)
  | .lp _ c, s, Q => ∃ (I : Nat → St → Prop) (n : Nat) (s1 : St), Weak s s1 ∧ I n s1 ∧ ∀ m s2, I m s2 → sv P c s2 (thenK Q fun s3 => ∃ m' s4, m' < m ∧ Weak s3 s4 ∧ I m' s4)
  | .reg l, s, Q => sOps P l s fun s' => Q .normal s'
  | .dr _ _ l af, s, Q => P.follows .mixedOrders = true ∧ ∃ (t : DT) (anc : List (List Nat)), chkT t anc l af = true ∧ sT P l t s (Q .normal)
  | .rng .., _, _ => False
  | .bad, _, _ => False

section
variable {P : Program}
theorem GoodC.mono {c : Code} {s : St} {Q Q' : Exit → St → Prop} (h : ∀ e s, Q e s → Q' e s) (hg : GoodC P c s Q) : GoodC P c s Q' :=
  fun rd O w0 a w hr => wp_mono (hg rd O w0 a w hr) fun e a' w' ⟨s', hq, hr'⟩ => ⟨s', h _ _ hq, hr'⟩
theorem put_mono {s : St} {d : Option Nat} {v : AV} {σ : Sig} {b : Bool} {K K' : St → Prop} (h : ∀ s, K s → K' s) (hk : put s d v σ b K) : put s d v σ b K' := putM h hk
theorem sOp2_mono {o : SO} {s : St} {K K' : St → Prop} (h : ∀ s, K s → K' s) (hk : sOp2 P o s K) : sOp2 P o s K' := by
  obtain ⟨v, σ', b, h1, h2⟩ := hk
  exact ⟨v, σ', b, h1, putM h h2⟩
theorem sG_mono {s : St} {d : Option Nat} {t : Nat} {w : Bool} {X X' : Prop} {K K' : St → Prop} (hX : X → X') (h : ∀ s, K s → K' s) (hk : sG s d t w X K) : sG s d t w X' K' := by
  unfold sG at hk ⊢
  split at hk
  · rename_i b hb
    cases b <;> cases w <;> simp only [Br_true, Br_false] at hk ⊢ <;> first | exact hX hk | exact putM h hk
  · exact putM h hk
  · cases hk
theorem sStep2_mono {o : SO} {s : St} {K K' : St → Prop} (h : ∀ s, K s → K' s) (hk : sStep2 P o s K) : sStep2 P o s K' := by
  unfold sStep2 at hk ⊢
  split at hk
  · exact sOp2_mono h hk
  · exact sG_mono (sOp2_mono h) h hk
theorem sOps_mono {os : List SO} : ∀ {s : St} {K K' : St → Prop}, (∀ s, K s → K' s) → sOps P os s K → sOps P os s K' := by
  induction os with
  | nil => exact fun h hk => h _ hk
  | cons o os ih => exact fun h hk => sStep2_mono (fun s' hs => ih h hs) hk
theorem sPure_mono {o : SO} {s : St} {K K' : St → Prop} (h : ∀ s, K s → K' s) (hk : sPure P o s K) : sPure P o s K' := by
  obtain ⟨v, h1, h2⟩ := onSome_elim hk
  exact onSome_intro h1 (putM h h2)
theorem sT_mono {l : List SO} : ∀ {t : DT} {s : St} {K K' : St → Prop}, (∀ s, K s → K' s) → sT P l t s K → sT P l t s K'
  | .nil, s, K, K', h, hk => h _ hk
  | .pu i t, s, K, K', h, hk => by
    unfold sT at hk ⊢
    split at hk
    · cases hk
    · exact ⟨hk.1, sPure_mono (fun s' hs => sT_mono h hs) hk.2⟩
  | .ef i rc t, s, K, K', h, hk => by
    unfold sT at hk ⊢
    split at hk
    · cases hk
    · exact sStep2_mono (fun s' hs => ⟨hs.1, sT_mono h hs.2⟩) hk
  | .or a b, s, K, K', h, hk => ⟨sT_mono h hk.1, sT_mono h hk.2⟩
theorem so_none {ops : Array Oper} {o : Oper} (hg : o.guard = none) : so ops o = ⟨o.dst, o.op, none⟩ := by simp [so, hg]
theorem so_some {ops : Array Oper} {o : Oper} {j : Nat} {w : Bool} {t : Nat} (hg : o.guard = some (j, w)) (hs : slotOf ops j = some t) : so ops o = ⟨o.dst, o.op, some (t, w)⟩ := by simp [so, hg, hs]
theorem so_bad {ops : Array Oper} {o : Oper} {j : Nat} {w : Bool} (hg : o.guard = some (j, w)) (hs : slotOf ops j = none) : so ops o = ⟨o.dst, .panic (.const (.bool true)), none⟩ := by simp [so, hg, hs]
theorem sStep2_vc {ops : Array Oper} {o : Oper} {s : St} {K : St → Prop} (hk : sStep2 P (so ops o) s K) : vcStep2 P ops o s K := by
  unfold vcStep2
  cases hg : o.guard with
  | none =>
    rw [so_none hg] at hk
    exact hk
  | some jw =>
    obtain ⟨j, want⟩ := jw
    simp only
    cases hs : slotOf ops j with
    | none =>
      rw [so_bad hg hs] at hk
      obtain ⟨v, σ', b, h1, h2⟩ := hk
      rcases h1 with ⟨h, _⟩ | ⟨h, _⟩ | ⟨_, c, n, h, _⟩ | ⟨h, _⟩ | ⟨_, c, n, x, h, _⟩
      · cases h
      · cases h
      · cases h
      · cases h
      · cases h
    | some t =>
      rw [so_some hg hs] at hk
      exact hk
theorem sOps_vc {ops : Array Oper} : ∀ {os : List Oper} {s : St} {K K' : St → Prop}, (∀ s, K s → K' s) → sOps P (soL ops os) s K → vcOps2 P ops os s K'
  | [], s, K, K', h, hk => h _ hk
  | o :: os, s, K, K', h, hk => vcStep2_mono (fun s' hs => sOps_vc h hs) (sStep2_vc hk)
theorem soL_get {ops : Array Oper} : ∀ (os : List Oper) (i : Nat), (soL ops os)[i]? = (os[i]?).map (so ops)
  | [], i => by simp [soL]
  | o :: os, 0 => rfl
  | o :: os, i + 1 => by simpa [soL] using soL_get os i
theorem soL_len {ops : Array Oper} : ∀ (os : List Oper), (soL ops os).length = os.length
  | [] => rfl
  | o :: os => by simp [soL, soL_len os]
theorem looks_of {op : Op} {t : Nat} (h : t ∈ op.operands.toList.filterMap fun | .tmp t => some t | _ => none) : t ∈ op.operands.toList.filterMap tmpOf := by
  obtain ⟨a, h1, h2⟩ := List.mem_filterMap.1 h
  refine List.mem_filterMap.2 ⟨a, h1, ?_⟩
  cases a with
  | tmp u => exact h2
  | _ => cases h2
theorem so_real {ops : Array Oper} {o : Oper} (h : realS (so ops o) = true) : (so ops o).o = o.op ∧ (so ops o).d = o.dst ∧ ∀ t ∈ o.looksAt ops, t ∈ looksS (so ops o) := by
  unfold so at h ⊢
  cases hg : o.guard with
  | none => exact ⟨rfl, rfl, fun t ht => by
      rcases List.mem_append.1 ht with ht | ht
      · exact List.mem_append_left _ (looks_of ht)
      · simp [hg] at ht⟩
  | some jw =>
    obtain ⟨j, want⟩ := jw
    rw [hg] at h
    simp only at h ⊢
    cases hs : slotOf ops j with
    | none => rw [hs] at h; cases h
    | some t' =>
      refine ⟨rfl, rfl, fun t ht => ?_⟩
      have hs' : (ops[j]?).bind (·.dst) = some t' := by
        unfold slotOf at hs
        split at hs
        · rename_i hx; rw [hx]; exact hs
        · cases hs
      rcases List.mem_append.1 ht with ht | ht
      · exact List.mem_append_left _ (looks_of ht)
      · simp [hg, hs'] at ht
        exact List.mem_append_right _ (by simp [ht])
theorem so_apart {ops : Array Oper} {x y : Oper} (h : apartS (so ops x) (so ops y) = true) : x.apart ops y = true := by
  unfold apartS at h
  simp only [Bool.and_eq_true] at h
  obtain ⟨⟨⟨h1, h2⟩, h3⟩, h4⟩ := h
  obtain ⟨a1, a2, a3⟩ := so_real h1
  obtain ⟨b1, b2, b3⟩ := so_real h2
  unfold Oper.apart
  rw [a2, b2] at h3
  rw [b2] at h4
  simp only [Bool.and_eq_true]
  constructor
  · cases hd : x.dst with
    | none => rfl
    | some d =>
      rw [hd] at h3
      simp only [Bool.and_eq_true, Bool.not_eq_true'] at h3 ⊢
      refine ⟨?_, h3.2⟩
      cases hc : (y.looksAt ops).contains d with
      | false => rfl
      | true =>
        have := b3 d (by simpa using hc)
        have h5 : (looksS (so ops y)).contains d = true := by simpa using this
        rw [h5] at h3
        exact absurd h3.1 (by simp)
  · cases hd : y.dst with
    | none => rfl
    | some d =>
      rw [hd] at h4
      simp only [Bool.not_eq_true'] at h4 ⊢
      cases hc : (x.looksAt ops).contains d with
      | false => rfl
      | true =>
        have := a3 d (by simpa using hc)
        have h5 : (looksS (so ops x)).contains d = true := by simpa using this
        rw [h5] at h4
        cases h4
theorem pure_real {o : SO} (h : pureK o.o = true) : realS o = true := by
  unfold realS
  split
  · rename_i he; rw [he] at h; cases h
  · rfl
theorem sV_step {ops : Array Oper} {o : Oper} {σ : Sig} {e : Operand → AV} (hr : realS (so ops o) = true) : sV P σ e (so ops o) = stepV P ops σ e o := by
  unfold stepV
  cases hg : o.guard with
  | none => rw [so_none hg]; rfl
  | some jw =>
    obtain ⟨j, want⟩ := jw
    simp only
    cases hs : slotOf ops j with
    | none => rw [so_bad hg hs] at hr; cases hr
    | some t => rw [so_some hg hs]; rfl
theorem sT_vcT {ops : Array Oper} {l : List SO} (hl : ∀ i : Nat, l[i]? = (ops[i]?).map (so ops)) (hrr : ∀ (i : Nat) (x : SO), l[i]? = some x → realS x = true) : ∀ {t : DT} {s : St} {K : St → Prop}, sT P l t s K → vcT P ops t s K
  | .nil, s, K, hk => hk
  | .pu i t, s, K, hk => by
    unfold sT at hk
    unfold vcT
    rw [hl] at hk
    cases ho : ops[i]? with
    | none => rw [ho] at hk; cases hk
    | some o =>
      rw [ho] at hk
      simp only [Option.map_some] at hk ⊢
      have hr := pure_real hk.1
      obtain ⟨e1, e2, _⟩ := so_real hr
      refine ⟨e1 ▸ hk.1, ?_⟩
      obtain ⟨v, h1, h2⟩ := onSome_elim hk.2
      rw [sV_step hr] at h1
      rw [e2] at h2
      exact onSome_intro h1 (putM (fun s' hs => sT_vcT hl hrr hs) h2)
  | .ef i rc t, s, K, hk => by
    unfold sT at hk
    unfold vcT
    rw [hl] at hk
    cases ho : ops[i]? with
    | none => rw [ho] at hk; cases hk
    | some o =>
      rw [ho] at hk
      simp only [Option.map_some] at hk ⊢
      refine sStep2_vc (sStep2_mono (fun s' hs => ⟨fun k hkk x hx => ?_, sT_vcT hl hrr hs.2⟩) hk)
      have hlx : l[k]? = some (so ops x) := by rw [hl, hx]; rfl
      have := hs.1 k hkk _ hlx
      rwa [sV_step (hrr k _ hlx), sV_step (hrr k _ hlx)] at this
  | .or a b, s, K, hk => ⟨sT_vcT hl hrr hk.1, sT_vcT hl hrr hk.2⟩
theorem puB_spec {ops : Array Oper} {l : List SO} (hl : ∀ i : Nat, l[i]? = (ops[i]?).map (so ops)) {anc : List (List Nat)} {i : Nat} {t : DT} (h : puB l anc i t = true) : PuOK ops (fun i => anc.getD i []) i t := by
  unfold puB at h
  rw [hl] at h
  cases hx : ops[i]? with
  | none => rw [hx] at h; cases h
  | some x =>
    rw [hx] at h
    simp only [Option.map_some, Bool.and_eq_true, List.all_eq_true, Bool.or_eq_true] at h
    obtain ⟨⟨⟨⟨hr, hself⟩, hlook⟩, htopo⟩, hnodes⟩ := h
    obtain ⟨e1, e2, e3⟩ := so_real hr
    have nin : ∀ {d : Nat}, (!(looksS (so ops x)).contains d) = true → d ∉ x.looksAt ops := by
      intro d hd hin
      have : (looksS (so ops x)).contains d = true := by simpa using e3 d hin
      rw [this] at hd; cases hd
    refine ⟨⟨x, hx⟩, fun y hy d hd => ?_, fun y hy j hj o ho d hd => ?_, fun m hm hin => ?_, fun y hy n hn o ho => ?_⟩
    · rw [hx] at hy; cases hy
      rw [e2, hd] at hself
      exact nin hself
    · rw [hx] at hy; cases hy
      have h1 := hlook j hj
      rw [hl, ho] at h1
      simp only [Option.map_some, Bool.and_eq_true] at h1
      obtain ⟨f1, f2, f3⟩ := so_real h1.1
      have h2 := h1.2
      rw [f2, hd] at h2
      simp only [Bool.or_eq_true, List.all_eq_true, beq_iff_eq] at h2
      rcases h2 with h2 | h2
      · exact .inl (nin h2)
      · exact .inr fun m hm => (h2 m hm).imp id fun e => by simpa using e
    · have h1 := htopo m hm
      have : (anc.getD i []).contains m = true := by simpa using hin
      rw [this] at h1
      cases h1
    · rw [hx] at hy; cases hy
      rcases hnodes n hn with h1 | h1
      · exact .inl (by simpa using h1)
      · right
        rw [hl, ho] at h1
        simp only [Option.map_some, Bool.and_eq_true, Bool.or_eq_true] at h1
        refine ⟨so_apart h1.1, ?_⟩
        rcases h1.2 with h2 | h2
        · exact .inl (e1 ▸ h2)
        · cases hk : n.2 with
          | none => exact .inr (.inl rfl)
          | some rc => rw [hk] at h2; exact .inr (.inr ⟨rc, rfl, by simpa using h2⟩)
theorem okTB_spec {ops : Array Oper} {l : List SO} (hl : ∀ i : Nat, l[i]? = (ops[i]?).map (so ops)) {anc : List (List Nat)} : ∀ {t : DT} {f : Bool}, okTB l anc f t = true → okT ops (fun i => anc.getD i []) f t
  | .nil, _, _ => by unfold okT; trivial
  | .pu i t, false, h => by
    simp only [okTB, Bool.and_eq_true, Bool.not_eq_true'] at h
    exact ⟨fun hin => by have : (opsT t).contains i = true := by simpa using hin
                         rw [this] at h; exact absurd h.1 (by simp), puB_spec hl h.2.1, okTB_spec hl h.2.2⟩
  | .pu i t, true, h => by cases h
  | .ef i rc t, false, h => by
    simp only [okTB, Bool.and_eq_true, Bool.not_eq_true', List.all_eq_true] at h
    exact ⟨fun hin => by have : (opsT t).contains i = true := by simpa using hin
                         rw [this] at h; exact absurd h.1 (by simp), fun j hj => by simpa using h.2.1 j hj, okTB_spec hl h.2.2⟩
  | .ef i rc t, true, h => by
    simp only [okTB, Bool.and_eq_true, Bool.not_eq_true'] at h
    exact ⟨fun hin => by have : (opsT t).contains i = true := by simpa using hin
                         rw [this] at h; exact absurd h.1 (by simp), okTB_spec hl h.2⟩
  | .or a b, f, h => by
    have h' : okTB l anc true a = true ∧ okTB l anc true b = true ∧ (((opsT a).all fun i => (opsT b).contains i) = true ∧ ((opsT b).all fun i => (opsT a).contains i) = true) ∧ Nat.beq (opsT a).length (opsT b).length = true ∧
        (f = true ∨ ((opsT a).all fun j => (headsT a ++ headsT b).any fun h => h == j || (anc.getD j []).contains h) = true) := by
      cases f <;> simp only [okTB, Bool.and_eq_true, Bool.or_eq_true] at h <;> first | exact h | exact ⟨h.1, h.2.1, h.2.2.1, h.2.2.2.1, .inl rfl⟩
    obtain ⟨h1, h2, ⟨h3, h4⟩, h5, h6⟩ := h'
    simp only [List.all_eq_true] at h3 h4
    have key : okT ops (fun i => anc.getD i []) true a ∧ okT ops (fun i => anc.getD i []) true b ∧ ((∀ i, i ∈ opsT a ↔ i ∈ opsT b) ∧ (opsT a).length = (opsT b).length) ∧ (f = false → ∀ j ∈ opsT a, ∃ h, (h ∈ headsT a ∨ h ∈ headsT b) ∧ (h = j ∨ h ∈ anc.getD j [])) := by
      refine ⟨okTB_spec hl h1, okTB_spec hl h2, ⟨fun i => ⟨fun hi => by simpa using h3 i hi, fun hi => by simpa using h4 i hi⟩, Nat.eq_of_beq_eq_true h5⟩, fun hf j hj => ?_⟩
      rcases h6 with h6 | h6
      · rw [hf] at h6; cases h6
      · simp only [List.all_eq_true, List.any_eq_true, List.mem_append, Bool.or_eq_true, beq_iff_eq] at h6
        obtain ⟨h, hh, hj'⟩ := h6 j hj
        exact ⟨h, hh, hj'.imp id fun e => by simpa using e⟩
    cases f <;> exact key
theorem sv_vc : ∀ (c : Code) {s : St} {Q Q' : Exit → St → Prop}, (∀ e s, Q e s → Q' e s) → sv P (strip c) s Q → vc P c s Q'
  | .skip, s, Q, Q', h, hk => h _ _ hk
  | .ret, s, Q, Q', h, hk => h _ _ hk
  | .exit id, s, Q, Q', h, hk => h _ _ hk
  | .seq a b, s, Q, Q', h, hk => by
    rcases hk with hk | hk
    case inr => exact .inr ((hk _ rfl).mono h)
    exact .inl (sv_vc a (fun e s hs => by
      cases e with
      | normal =>
        obtain ⟨s'', hw, hs⟩ := hs
        exact ⟨s'', hw, sv_vc b h hs⟩
      | _ => exact h _ _ hs) hk)
  | .cond c x y, s, Q, Q', h, hk => by
    simp only [strip, sv] at hk
    simp only [vc]
    split at hk
    · rename_i b hb
      rw [hb]
      cases b with
      | true => exact sv_vc x h hk
      | false => exact sv_vc y h hk
    · cases hk
  | .block id c, s, Q, Q', h, hk => sv_vc c (fun e s hs => by
      cases e with
      | exit id' =>
        simp only [blockK] at hs ⊢
        split at hs
        · rename_i hh; exact h _ _ hs
        · rename_i hh; exact h _ _ hs
      | _ => exact h _ _ hs) hk
  | .loop c, s, Q, Q', h, hk => by
    obtain ⟨I, n, s1, h1, h2, h3⟩ := hk
    exact ⟨I, n, s1, h1, h2, fun m s2 hI => sv_vc c (fun e s hs => by
      cases e with
      | normal => exact hs
      | _ => exact h _ _ hs) (h3 m s2 hI)⟩
  | .region _ ops draw, s, Q, Q', h, hk => by
    cases draw with
    | false => exact sOps_vc (fun s hs => h _ _ hs) hk
    | true =>
      obtain ⟨hm, t, anc, hc, h5⟩ := hk
      have hll : (soL ops ops.toList).length = ops.size := by rw [soL_len]; simp
      have hl : ∀ i : Nat, (soL ops ops.toList)[i]? = (ops[i]?).map (so ops) := by intro i; rw [soL_get]; simp
      simp only [chkT, Bool.and_eq_true, List.all_eq_true, List.mem_range, List.any_eq_true, Bool.or_eq_true, beq_iff_eq] at hc
      obtain ⟨h1, h2, ⟨h0, h3⟩, h4, h6, h7⟩ := hc
      have hget : ∀ i : Nat, (ops.toList.map waitL).getD i [] = match ops[i]? with | some o => waitL o | none => [] := by
        intro i
        rw [List.getD_eq_getElem?_getD, List.getElem?_map]
        have : ops.toList[i]? = ops[i]? := by simp
        rw [this]
        cases ops[i]? <;> rfl
      refine ⟨hm, t, fun i => anc.getD i [], ⟨fun i o k ho hw => ?_, fun i k hk => ?_⟩, okTB_spec hl h3, fun i => ⟨fun hi => ?_, fun hi => ?_⟩, by rw [← hll]; exact Nat.le_of_ble_eq_true h7, vcT_mono (fun s hs => h _ _ hs) (sT_vcT hl (fun i x hx => h0 x (List.mem_of_getElem? hx)) h5)⟩
      · have hlt : i < (ops.toList.map waitL).length := by simpa using (Array.getElem?_eq_some_iff.1 ho).1
        have := h1 i hlt k (by rw [hget, ho]; exact waitL_iff.2 hw)
        exact Nat.le_of_ble_eq_true this
      · have hlt : i < anc.length := by
          rcases Nat.lt_or_ge i anc.length with hx | hx
          · exact hx
          · simp [List.getD_eq_getElem?_getD, List.getElem?_eq_none hx] at hk
        obtain ⟨j, hj, e⟩ := h2 i hlt k hk
        rw [hget] at hj
        cases ho : ops[i]? with
        | none => rw [ho] at hj; simp at hj
        | some o => rw [ho] at hj; exact ⟨o, j, rfl, waitL_iff.1 hj, e.imp id fun e => by simpa using e⟩
      · have := Nat.le_of_ble_eq_true (h6 i hi)
        rw [hll] at this
        exact this
      · have := h4 i (by rw [hll]; exact hi)
        simpa using this
  | .rangeFunc .., s, Q, Q', h, hk => by cases hk
  | .scope _, s, Q, Q', h, hk => by cases hk
  | .label _, s, Q, Q', h, hk => by cases hk
  | .goto _, s, Q, Q', h, hk => by cases hk
  | .refuse _, s, Q, Q', h, hk => by cases hk
end

/-! ### Operations in a word -/
inductive I where
  | mv (d : Nat) (x : Operand)
  | as (d : Nat) (x : Operand)
  | pk (d : Nat) (c a b : Operand)
  | al (d t : Nat)
  | bx (d t : Nat) (x : Operand)
  | ld (d t : Nat) (x : Operand)
  | st (t : Nat) (a x : Operand)
  | fa (d t : Nat) (x : Operand) (f : Nat)
  | ex (d : Nat) (x : Operand) (i : Nat)
  | nc (d : Nat) (x : Operand)
  | bn (d : Nat) (op : BinOp) (t : Nat) (x y : Operand) (u : Nat)
  | un (d : Nat) (op : UnOp) (t : Nat) (x : Operand)
  | cv (d s t : Nat) (x : Operand)
  | ln (d t : Nat) (x : Operand)
  | mn (d : Nat) (x y : Operand) (ts : List Nat)
  | mx (d : Nat) (x y : Operand) (ts : List Nat)
  | ia (d t : Nat) (x y : Operand)
  | ix (d t : Nat) (x y : Operand)
  | fd (d t : Nat) (x : Operand) (f : Nat)
  | sl (d t : Nat) (x : Operand) (lo hi mx : Option Operand)
  | bd (d t : Nat) (ps : List (Nat × Operand))
  | bo (d t n : Nat) (ps : List (Nat × Operand))
  | bs (d t n : Nat) (ps : List (Nat × Operand))
  | ms (d t : Nat) (x y : Operand)
  | ap (d : Option Nat) (t tx : Nat) (x y : Operand)
  | cp (d : Option Nat) (t tx : Nat) (x y : Operand)
  | sb (d s t : Nat) (x : Operand)
  | ca (d : Option Nat) (f : Nat) (xs : List Operand) (ts : List Nat)
  | cl (d : Option Nat) (f : Nat) (xs : List Operand) (ts : List Nat)
  | cm (d : Option Nat) (f : Nat) (ms : List Bool) (xs : List Operand) (ts : List Nat)
  | cu (d : Option Nat) (x : Operand) (xs : List Operand) (ts : List Nat)
  | lz (d t g : Nat)
  | mf (d f : Nat) (x : Operand)
  | op (d : Option Nat) (o : Op)
/-- .. behind a guard, or without one. -/
inductive J where
  | p (i : I)
  | g (t : Nat) (w : Bool) (i : I)
def I.so : I → SO
  | .mv d x => ⟨some d, .move x, none⟩
  | .as d x => ⟨some d, .assign x, none⟩
  | .pk d c a b => ⟨some d, .pick c a b, none⟩
  | .al d t => ⟨some d, .alloc t, none⟩
  | .bx d t x => ⟨some d, .box t x, none⟩
  | .ld d t x => ⟨some d, .load t x, none⟩
  | .st t a x => ⟨none, .store t a x, none⟩
  | .fa d t x f => ⟨some d, .fieldAddr t x f, none⟩
  | .ex d x i => ⟨some d, .extract x i, none⟩
  | .nc d x => ⟨some d, .nilCheck x, none⟩
  | .bn d b t x y u => ⟨some d, .binOp b t x y u, none⟩
  | .un d b t x => ⟨some d, .unOp b t x, none⟩
  | .cv d s t x => ⟨some d, .convert s t x, none⟩
  | .ln d t x => ⟨some d, .call { callee := .builtin .len, args := #[x], argTypes := #[t] }, none⟩
  | .mn d x y ts => ⟨some d, .call { callee := .builtin .min, args := #[x, y], argTypes := ts.toArray }, none⟩
  | .mx d x y ts => ⟨some d, .call { callee := .builtin .max, args := #[x, y], argTypes := ts.toArray }, none⟩
  | .ia d t x y => ⟨some d, .indexAddr t x y, none⟩
  | .ix d t x y => ⟨some d, .index t x y, none⟩
  | .fd d t x f => ⟨some d, .field t x f, none⟩
  | .sl d t x lo hi m => ⟨some d, .slice t x lo hi m, none⟩
  | .bd d t ps => ⟨some d, .build t ps.toArray, none⟩
  | .bo d t n ps => ⟨some d, .buildSlice t n ps.toArray, none⟩
  | .bs d t n ps => ⟨some d, .buildSlice t n ps.toArray, none⟩
  | .ms d t x y => ⟨some d, .makeSlice t x y, none⟩
  | .ap d t tx x y => ⟨d, .call { callee := .builtin .append, args := #[x, y], argTypes := #[t, tx] }, none⟩
  | .cp d t tx x y => ⟨d, .call { callee := .builtin .copy, args := #[x, y], argTypes := #[t, tx] }, none⟩
  | .sb d s t x => ⟨some d, .convert s t x, none⟩
  | .ca d f xs ts => ⟨d, .call { callee := .value (.func f), args := xs.toArray, argTypes := ts.toArray }, none⟩
  | .cl d f xs ts => ⟨d, .call { callee := .value (.func f), args := xs.toArray, argTypes := ts.toArray }, none⟩
  | .cm d f _ xs ts => ⟨d, .call { callee := .value (.func f), args := xs.toArray, argTypes := ts.toArray }, none⟩
  | .cu d x xs ts => ⟨d, .call { callee := .value x, args := xs.toArray, argTypes := ts.toArray }, none⟩
  | .lz d t g => ⟨some d, .load t (.global g), none⟩
  | .mf d f x => ⟨some d, .makeFunc (.func f) #[x] #[], none⟩
  | .op d o => ⟨d, o, none⟩
def soI : List J → List SO
  | [] => []
  | .p i :: l => ⟨i.so.d, i.so.o, none⟩ :: soI l
  | .g t w i :: l => ⟨i.so.d, i.so.o, some (t, w)⟩ :: soI l
/-- Code in words, as the operations stand in it. -/
def exC : SC J → SC SO
  | .skip => .skip
  | .ret => .ret
  | .exit id => .exit id
  | .seq a b => .seq (exC a) (exC b)
  | .sq _ a b => .seq (exC a) (exC b)
  | .ct a b => .seq (exC a) (exC b)
  | .cond c x y => .cond c (exC x) (exC y)
  | .block id c => .block id (exC c)
  | .loop c => .loop (exC c)
  | .lp _ c => .loop (exC c)
  | .reg l => .reg (soI l)
  | .dr _ _ l af => .dr .nil [] (soI l) af
  | .rng id l it ty x tn tb b => .seq (.reg (soI l ++ [⟨some it, .range ty x, none⟩])) (.block id (.loop (.seq (.reg [⟨some tn, .next (.tmp it) true, none⟩, ⟨some tb, .extract (.tmp tn) 0, none⟩]) (.seq (.cond (.tmp tb) .skip (.exit id)) (exC b)))))
  | .bad => .bad

def evT (tm : List (Nat × AV)) : Operand → AV
  | .tmp t => match lookA tm t with
    | some v => v
    | none => .dead
  | .const v => absV v
  | .func f => .sc (.func (.func f) #[] #[])
  | .global _ => .dead
def evL (tm : List (Nat × AV)) : List Operand → List AV
  | [] => []
  | x :: l => evT tm x :: evL tm l
def lookT : List (Nat × AV) → Nat → AV
  | [], _ => .dead
  | (k, v) :: l, n => match k == n with
    | true => v
    | false => lookT l n
def evP (tm : List (Nat × AV)) : List (Nat × Operand) → List (Nat × AV)
  | [] => []
  | x :: l => (x.1, evT tm x.2) :: evP tm l
def putK (n d : Nat) (tm : List (Nat × AV)) (G : Nat) (K : St → Prop) (x : AV × Sig) : Prop := Br (Nat.blt d n) (K ⟨n, (d, x.1) :: tm, x.2, G + 1⟩) False
def putV (n d : Nat) (tm : List (Nat × AV)) (σ : Sig) (G : Nat) (K : St → Prop) (v : AV) : Prop := Br (Nat.blt d n) (K ⟨n, (d, v) :: tm, σ, G⟩) False
def putS (n : Nat) (tm : List (Nat × AV)) (G : Nat) (K : St → Prop) (σ : Sig) : Prop := K ⟨n, tm, σ, G⟩
def putN (n : Nat) (tm : List (Nat × AV)) (G : Nat) (K : St → Prop) : Option Nat → AV × Sig → Prop
  | none, x => K ⟨n, tm, x.2, G + 1⟩
  | some d, x => Br (Nat.blt d n) (K ⟨n, (d, x.1) :: tm, x.2, G + 1⟩) False
def wantK (P : Program) (n : Nat) (d : Option Nat) (tm : List (Nat × AV)) (σ : Sig) (G f : Nat) (K : St → Prop) (x : Sig × List AV) : Prop := Want P f x.2 (CallK ⟨n, tm, σ, G⟩ d K x.1)
/-- One word. -/
def iSt (P : Program) (i : I) (s : St) (K : St → Prop) : Prop := match i with
  | .ca d f xs _ => onSome (frzAll s.σ (evL s.tm xs)) (wantK P s.n d s.tm s.σ s.G f K)
  | .cl d f xs _ => vcLend P s d f (evL s.tm xs) K
  | .cm d f ms xs _ => vcMove P s d f ms (evL s.tm xs) K
  | .bs d t n ps => onSome (absBuildOwn P d s.G s.σ t n (evP s.tm ps)) (putN s.n s.tm s.G K (some d))
  | .ap d t tx x y => onSome (absAppend P (d.getD 0) s.G s.σ t tx (evT s.tm x) (evT s.tm y)) (putN s.n s.tm s.G K d)
  | .cp d t tx x y => onSome (absCopy P s.σ t tx (evT s.tm x) (evT s.tm y)) (putN s.n s.tm s.G K d)
  | .sb d r t x => match tk P r with
    | some .string => onSome (s2bR P d s.G s.σ t (evT s.tm x)) (putN s.n s.tm s.G K (some d))
    | _ => False
  | .cu d x xs _ => onSome (fnV (evT s.tm x)) fun f => vcLend P s d f (.agg [] :: evL s.tm xs) K
  | .lz d t _ => onSome (absUnit P t) fun v => put s (some d) v s.σ false K
  | .mf d f x => onSome (absFn f (evT s.tm x)) fun v => put s (some d) v s.σ false K
  | i => onSome (absOp P (i.so.d.getD 0) s.G (evT s.tm) s.σ i.so.o) (PutK s i.so.d (bumps i.so.o) K)
def iSkip (i : I) (s : St) (K : St → Prop) : Prop := put s i.so.d (.tup []) s.σ false K
section
variable {P : Program} {n G : Nat} {tm : List (Nat × AV)} {σ : Sig} {Q : Exit → St → Prop} {K : St → Prop} {d t f i s u : Nat} {x y z : Operand} {l : List J} {w : Bool}
theorem evT_tmp : ∀ {tm : List (Nat × AV)} {t : Nat}, evT tm (.tmp t) = lookT tm t := by
  intro tm t
  induction tm with
  | nil => rfl
  | cons x l ih =>
    obtain ⟨k, v⟩ := x
    simp only [evT, lookA, lookT] at ih ⊢
    cases hk : k == t with
    | true => rfl
    | false => exact ih
theorem ev_evT : ev ⟨n, tm, σ, G⟩ x = evT tm x := by cases x <;> rfl
theorem evf : (ev ⟨n, tm, σ, G⟩) = evT tm := funext fun _ => ev_evT
theorem evf' (s : St) : ev s = evT s.tm := by obtain ⟨n, tm, σ, G⟩ := s; exact evf
theorem map_evL : ∀ (xs : List Operand), xs.map (evT tm) = evL tm xs
  | [] => rfl
  | x :: xs => by rw [List.map_cons, map_evL xs]; rfl
theorem map_evP : ∀ (xs : List (Nat × Operand)), xs.map (fun x => (x.1, evT tm x.2)) = evP tm xs
  | [] => rfl
  | x :: xs => by rw [List.map_cons, map_evP xs]; rfl
theorem putN_put {s : St} {d : Option Nat} {x : AV × Sig} (h : putN s.n s.tm s.G K d x) : put s d x.1 x.2 true K := by
  unfold put
  cases d with
  | none => exact h
  | some d =>
    simp only [putN] at h ⊢
    cases hb : Nat.blt d s.n with
    | true => rw [hb] at h; exact h
    | false => rw [hb] at h; exact h.elim
theorem iSt_sOp2 {i : I} {s : St} (h : iSt P i s K) : sOp2 P ⟨i.so.d, i.so.o, none⟩ s K := by
  have plain : onSome (absOp P (i.so.d.getD 0) s.G (evT s.tm) s.σ i.so.o) (PutK s i.so.d (bumps i.so.o) K) → sOp2 P ⟨i.so.d, i.so.o, none⟩ s K := by
    intro h
    obtain ⟨x, h1, h2⟩ := onSome_elim h
    exact ⟨x.1, x.2, _, .inl ⟨by rw [evf']; exact h1, rfl⟩, h2⟩
  have args : ∀ (xs : List Operand) (c : Call), c.args = xs.toArray → c.args.toList.map (ev s) = evL s.tm xs := by
    intro xs c hc
    rw [hc, List.toList_toArray, evf', map_evL]
  cases i with
  | ca d f xs ts =>
    obtain ⟨⟨σ1, as⟩, h1, res, rf, h2, h3, h4⟩ := onSome_elim h
    exact ⟨nm (d.getD 0) s.G res, addF σ1 (d.getD 0) s.G rf, true, .inr (.inr (.inl ⟨rfl, { callee := .value (.func f), args := xs.toArray, argTypes := ts.toArray }, f, rfl, rfl, .inl ⟨σ1, as, res, rf, by rw [args xs _ rfl]; exact h1, h2, h3, rfl, rfl⟩⟩)), h4⟩
  | cl d f xs ts =>
    obtain ⟨⟨σ1, as⟩, h1, res, rf, h2, h3, h4⟩ := onSome_elim h
    exact ⟨nm (d.getD 0) s.G res, addF s.σ (d.getD 0) s.G rf, true, .inr (.inr (.inl ⟨rfl, { callee := .value (.func f), args := xs.toArray, argTypes := ts.toArray }, f, rfl, rfl, .inr (.inl ⟨σ1, as, res, rf, by rw [args xs _ rfl]; exact h1, h2, h3, rfl, rfl⟩)⟩)), h4⟩
  | cm d f ms xs ts =>
    obtain ⟨h0, h⟩ := h
    obtain ⟨⟨σ1, as⟩, h1, h⟩ := onSome_elim h
    obtain ⟨σin, h2, res, σout, h3, h4, h⟩ := onSome_elim h
    obtain ⟨σ2, h5, h6⟩ := onSome_elim h
    exact ⟨_, σ2, true, .inr (.inr (.inl ⟨rfl, { callee := .value (.func f), args := xs.toArray, argTypes := ts.toArray }, f, rfl, rfl, .inr (.inr ⟨ms, _, σ1, as, σin, res, σout, by rw [args xs _ rfl], h0, by rw [args xs _ rfl]; exact h1, h2, h3, h4, h5, rfl⟩)⟩)), h6⟩
  | cu d x xs ts =>
    obtain ⟨f, h0, h⟩ := onSome_elim h
    obtain ⟨⟨σ1, as⟩, h1, res, rf, h2, h3, h4⟩ := onSome_elim h
    exact ⟨nm (d.getD 0) s.G res, addF s.σ (d.getD 0) s.G rf, true, .inr (.inr (.inr (.inr ⟨rfl, { callee := .value x, args := xs.toArray, argTypes := ts.toArray }, f, x, rfl, rfl, by rw [evf']; exact h0, ⟨σ1, as, res, rf, by rw [args xs _ rfl]; exact h1, h2, h3, rfl, rfl⟩⟩))), h4⟩
  | lz d t g =>
    obtain ⟨v, h1, h2⟩ := onSome_elim h
    exact ⟨v, s.σ, false, .inr (.inr (.inr (.inl ⟨h1, rfl, rfl⟩))), h2⟩
  | mf d f x =>
    obtain ⟨v, h1, h2⟩ := onSome_elim h
    exact ⟨v, s.σ, false, .inr (.inr (.inr (.inl ⟨by rw [evf']; exact h1, rfl, rfl⟩))), h2⟩
  | bs d t n ps =>
    obtain ⟨x, h1, h2⟩ := onSome_elim h
    exact ⟨x.1, x.2, true, .inr (.inl ⟨by rw [evf']; show absBuildOwn P d s.G s.σ t n (ps.toArray.toList.map fun x => (x.1, evT s.tm x.2)) = _; rw [List.toList_toArray, map_evP]; exact h1, rfl⟩), putN_put h2⟩
  | ap d t tx x y =>
    obtain ⟨z, h1, h2⟩ := onSome_elim h
    exact ⟨z.1, z.2, true, .inr (.inl ⟨by rw [evf']; exact h1, rfl⟩), putN_put h2⟩
  | cp d t tx x y =>
    obtain ⟨z, h1, h2⟩ := onSome_elim h
    exact ⟨z.1, z.2, true, .inr (.inl ⟨by rw [evf']; exact h1, rfl⟩), putN_put h2⟩
  | sb d r t x =>
    simp only [iSt] at h
    split at h
    · rename_i hk
      obtain ⟨z, h1, h2⟩ := onSome_elim h
      exact ⟨z.1, z.2, true, .inr (.inl ⟨by rw [evf']; simp only [I.so, absNew, hk]; exact h1, rfl⟩), putN_put h2⟩
    · cases h
  | _ => exact plain h
theorem PutK_mono {s : St} {d : Option Nat} {b : Bool} {K K' : St → Prop} {x : AV × Sig} (h : ∀ s, K s → K' s) (hk : PutK s d b K x) : PutK s d b K' x := putM h hk
theorem putN_mono {n : Nat} {tm : List (Nat × AV)} {G : Nat} {K K' : St → Prop} {d : Option Nat} {x : AV × Sig} (h : ∀ s, K s → K' s) (hk : putN n tm G K d x) : putN n tm G K' d x := by
  cases d with
  | none => exact h _ hk
  | some d =>
    simp only [putN] at hk ⊢
    cases hb : Nat.blt d n with
    | true => rw [hb] at hk; exact h _ hk
    | false => rw [hb] at hk; exact hk
theorem onSome_mono {α : Type} {x : Option α} {K K' : α → Prop} (h : ∀ a, K a → K' a) (hk : onSome x K) : onSome x K' := by
  obtain ⟨a, h1, h2⟩ := onSome_elim hk
  exact onSome_intro h1 (h a h2)
theorem iSt_mono {i : I} {s : St} {K K' : St → Prop} (h : ∀ s, K s → K' s) (hk : iSt P i s K) : iSt P i s K' := by
  cases i with
  | ca d f xs ts => exact onSome_mono (fun x ⟨res, rf, h1, h2, h3⟩ => ⟨res, rf, h1, h2, putM h h3⟩) hk
  | cl d f xs ts => exact onSome_mono (fun x ⟨res, rf, h1, h2, h3⟩ => ⟨res, rf, h1, h2, putM h h3⟩) hk
  | cm d f ms xs ts => exact ⟨hk.1, onSome_mono (fun x => onSome_mono fun σin ⟨res, σout, h1, h2, h3⟩ => ⟨res, σout, h1, h2, onSome_mono (fun σ2 => putM h) h3⟩) hk.2⟩
  | cu d x xs ts => exact onSome_mono (fun f => onSome_mono (fun x ⟨res, rf, h1, h2, h3⟩ => ⟨res, rf, h1, h2, putM h h3⟩)) hk
  | lz d t g => exact onSome_mono (fun v => putM h) hk
  | mf d f x => exact onSome_mono (fun v => putM h) hk
  | bs d t n ps => exact onSome_mono (fun x => putN_mono h) hk
  | ap d t tx x y => exact onSome_mono (fun x => putN_mono h) hk
  | cp d t tx x y => exact onSome_mono (fun x => putN_mono h) hk
  | sb d r t x =>
    simp only [iSt] at hk ⊢
    split at hk
    · exact onSome_mono (fun x => putN_mono h) hk
    · cases hk
  | mv d x => exact onSome_mono (x := absOp P d s.G (evT s.tm) s.σ (.move x)) (fun x => PutK_mono h) hk
  | as d x => exact onSome_mono (x := absOp P d s.G (evT s.tm) s.σ (.assign x)) (fun x => PutK_mono h) hk
  | _ => exact onSome_mono (fun x => PutK_mono h) hk
theorem put_some {v : AV} {σ' : Sig} : put ⟨n, tm, σ, G⟩ (some d) v σ' true K = putK n d tm G K (v, σ') := by
  show (match Nat.blt d n with | true => _ | false => _) = Br (Nat.blt d n) _ _
  cases Nat.blt d n <;> rfl
theorem put_some0 {v : AV} : put ⟨n, tm, σ, G⟩ (some d) v σ false K = putV n d tm σ G K v := by
  show (match Nat.blt d n with | true => _ | false => _) = Br (Nat.blt d n) _ _
  cases Nat.blt d n <;> rfl
theorem onSome_map {α β : Type} {x : Option α} {g : α → β} {K : β → Prop} : onSome (x.map g) K = onSome x (fun a => K (g a)) := by cases x <;> rfl
theorem plainV' {x : Option AV} : onSome (x.map fun v => (v, σ)) (PutK ⟨n, tm, σ, G⟩ (some d) false K) = onSome x (putV n d tm σ G K) := by
  rw [onSome_map]
  congr 1
theorem plainR {x : Option (AV × Sig)} : onSome x (PutK ⟨n, tm, σ, G⟩ (some d) true K) = onSome x (putK n d tm G K) := by
  congr 1
theorem r_mv : iSt P (.mv d x) ⟨n, tm, σ, G⟩ K = putV n d tm σ G K (evT tm x) := plainV' (x := some (evT tm x))
theorem r_as : iSt P (.as d x) ⟨n, tm, σ, G⟩ K = putV n d tm σ G K (evT tm x) := plainV' (x := some (evT tm x))
theorem r_pk : iSt P (.pk d x y z) ⟨n, tm, σ, G⟩ K = onSome (absPick (evT tm x) (evT tm y) (evT tm z)) (putV n d tm σ G K) := plainV'
theorem r_al : iSt P (.al d t) ⟨n, tm, σ, G⟩ K = onSome (absAlloc P d G σ t) (putK n d tm G K) := plainR
theorem r_bx : iSt P (.bx d t x) ⟨n, tm, σ, G⟩ K = onSome (absBox P d G σ t (evT tm x)) (putK n d tm G K) := plainR
theorem r_ld : iSt P (.ld d t x) ⟨n, tm, σ, G⟩ K = onSome (absLoad P σ t (evT tm x)) (putV n d tm σ G K) := plainV'
theorem r_fa : iSt P (.fa d t x f) ⟨n, tm, σ, G⟩ K = onSome (absFieldAddr P t (evT tm x) f) (putV n d tm σ G K) := plainV'
theorem r_ex : iSt P (.ex d x i) ⟨n, tm, σ, G⟩ K = onSome (absExtract (evT tm x) i) (putV n d tm σ G K) := plainV'
theorem r_nc : iSt P (.nc d x) ⟨n, tm, σ, G⟩ K = onSome (absNilCheck (evT tm x)) (putV n d tm σ G K) := plainV'
theorem r_bn {b : BinOp} : iSt P (.bn d b t x y u) ⟨n, tm, σ, G⟩ K = onSome (absBin P b t (evT tm x) (evT tm y)) (putV n d tm σ G K) := plainV'
theorem r_un {b : UnOp} : iSt P (.un d b t x) ⟨n, tm, σ, G⟩ K = onSome (absUn b (evT tm x)) (putV n d tm σ G K) := plainV'
theorem r_cv : iSt P (.cv d s t x) ⟨n, tm, σ, G⟩ K = onSome (absConvS P σ s t (evT tm x)) (putV n d tm σ G K) := plainV'
theorem r_st : iSt P (.st t x y) ⟨n, tm, σ, G⟩ K = onSome (absStore P σ t (evT tm x) (evT tm y)) (putS n tm G K) := by
  show onSome ((absStore P σ t (evT tm x) (evT tm y)).map fun σ' => (AV.dead, σ')) (PutK ⟨n, tm, σ, G⟩ none false K) = _
  rw [onSome_map]
  rfl
theorem r_ia : iSt P (.ia d t x y) ⟨n, tm, σ, G⟩ K = onSome (absIndexAddr P σ t (evT tm x) (evT tm y)) (putV n d tm σ G K) := plainV'
theorem r_ix : iSt P (.ix d t x y) ⟨n, tm, σ, G⟩ K = onSome (absIndex P t (evT tm x) (evT tm y)) (putV n d tm σ G K) := plainV'
theorem r_fd : iSt P (.fd d t x f) ⟨n, tm, σ, G⟩ K = onSome (absField P t (evT tm x) f) (putV n d tm σ G K) := plainV'
theorem r_ms : iSt P (.ms d t x y) ⟨n, tm, σ, G⟩ K = onSome (absMake P d G σ t (evT tm x) (evT tm y)) (putK n d tm G K) := plainR
theorem r_ln : iSt P (.ln d t x) ⟨n, tm, σ, G⟩ K = onSome (absLen P t (evT tm x)) (putV n d tm σ G K) := plainV'
theorem r_mn {ts : List Nat} : iSt P (.mn d x y ts) ⟨n, tm, σ, G⟩ K = onSome (absMin (evT tm x) (evT tm y)) (putV n d tm σ G K) := plainV'
theorem r_mx {ts : List Nat} : iSt P (.mx d x y ts) ⟨n, tm, σ, G⟩ K = onSome (absMax (evT tm x) (evT tm y)) (putV n d tm σ G K) := plainV'
def evO (tm : List (Nat × AV)) : Option Operand → Option AV
  | none => none
  | some x => some (evT tm x)
theorem map_evO {o : Option Operand} : o.map (evT tm) = evO tm o := by cases o <;> rfl
theorem r_sl {lo hi mx : Option Operand} : iSt P (.sl d t x lo hi mx) ⟨n, tm, σ, G⟩ K = onSome (absSlice P t (evT tm x) (evO tm lo) (evO tm hi) (evO tm mx)) (putV n d tm σ G K) := by
  show onSome ((absSlice P t (evT tm x) (lo.map (evT tm)) (hi.map (evT tm)) (mx.map (evT tm))).map fun v => (v, σ)) (PutK ⟨n, tm, σ, G⟩ (some d) false K) = _
  rw [map_evO, map_evO, map_evO]
  exact plainV'
theorem r_bd {ps : List (Nat × Operand)} : iSt P (.bd d t ps) ⟨n, tm, σ, G⟩ K = onSome (absBuild P t (evP tm ps)) (putV n d tm σ G K) := by
  show onSome ((absBuild P t (ps.toArray.toList.map fun x => (x.1, evT tm x.2))).map fun v => (v, σ)) (PutK ⟨n, tm, σ, G⟩ (some d) false K) = _
  rw [List.toList_toArray, map_evP]
  exact plainV'
theorem r_bo {m : Nat} {ps : List (Nat × Operand)} : iSt P (.bo d t m ps) ⟨n, tm, σ, G⟩ K = onSome (absBuildRo P t m (evP tm ps)) (putV n d tm σ G K) := by
  show onSome ((absBuildRo P t m (ps.toArray.toList.map fun x => (x.1, evT tm x.2))).map fun v => (v, σ)) (PutK ⟨n, tm, σ, G⟩ (some d) false K) = _
  rw [List.toList_toArray, map_evP]
  exact plainV'
theorem r_bs {m : Nat} {ps : List (Nat × Operand)} : iSt P (.bs d t m ps) ⟨n, tm, σ, G⟩ K = onSome (absBuildOwn P d G σ t m (evP tm ps)) (putN n tm G K (some d)) := rfl
theorem r_ap {d : Option Nat} {tx : Nat} : iSt P (.ap d t tx x y) ⟨n, tm, σ, G⟩ K = onSome (absAppend P (d.getD 0) G σ t tx (evT tm x) (evT tm y)) (putN n tm G K d) := rfl
theorem r_cp {d : Option Nat} {tx : Nat} : iSt P (.cp d t tx x y) ⟨n, tm, σ, G⟩ K = onSome (absCopy P σ t tx (evT tm x) (evT tm y)) (putN n tm G K d) := rfl
def sbK (P : Program) (n d G : Nat) (tm : List (Nat × AV)) (σ : Sig) (t : Nat) (x : AV) (K : St → Prop) : Option TK → Prop
  | some .string => onSome (s2bR P d G σ t x) (putN n tm G K (some d))
  | _ => False
theorem r_sb : iSt P (.sb d s t x) ⟨n, tm, σ, G⟩ K = sbK P n d G tm σ t (evT tm x) K (tk P s) := by
  unfold sbK
  simp only [iSt]
  try (split <;> rfl)
theorem r_ca {xs : List Operand} {ts : List Nat} {d : Option Nat} : iSt P (.ca d f xs ts) ⟨n, tm, σ, G⟩ K = onSome (frzAll σ (evL tm xs)) (wantK P n d tm σ G f K) := rfl
theorem r_cl {xs : List Operand} {ts : List Nat} {d : Option Nat} : iSt P (.cl d f xs ts) ⟨n, tm, σ, G⟩ K = onSome (frzAll σ (evL tm xs)) (ldC' P ⟨n, tm, σ, G⟩ d f K) := rfl
theorem r_cm {xs : List Operand} {ts : List Nat} {ms : List Bool} {d : Option Nat} : iSt P (.cm d f ms xs ts) ⟨n, tm, σ, G⟩ K = mvA P ⟨n, tm, σ, G⟩ d f K ms (evL tm xs) (disc false σ 1 30 1000000 [] (nmsM ms (evL tm xs))) := rfl
def cuK (P : Program) (n : Nat) (d : Option Nat) (tm : List (Nat × AV)) (σ : Sig) (G : Nat) (xs : List Operand) (K : St → Prop) (f : Nat) : Prop := onSome (frzAll σ (.agg [] :: evL tm xs)) (ldC' P ⟨n, tm, σ, G⟩ d f K)
theorem r_cu {xs : List Operand} {ts : List Nat} {d : Option Nat} : iSt P (.cu d x xs ts) ⟨n, tm, σ, G⟩ K = onSome (fnV (evT tm x)) (cuK P n d tm σ G xs K) := rfl
theorem cuK_eq {xs : List Operand} {d : Option Nat} : cuK P n d tm σ G xs K f = onSome (frzAll σ (.agg [] :: evL tm xs)) (ldC' P ⟨n, tm, σ, G⟩ d f K) := rfl
theorem r_lz {g : Nat} : iSt P (.lz d t g) ⟨n, tm, σ, G⟩ K = onSome (absUnit P t) (putV n d tm σ G K) := by
  show onSome (absUnit P t) (fun v => put ⟨n, tm, σ, G⟩ (some d) v σ false K) = _
  congr 1
theorem r_mf : iSt P (.mf d f x) ⟨n, tm, σ, G⟩ K = onSome (absFn f (evT tm x)) (putV n d tm σ G K) := by
  show onSome (absFn f (evT tm x)) (fun v => put ⟨n, tm, σ, G⟩ (some d) v σ false K) = _
  congr 1
theorem lookT_of : ∀ (tm : List (Nat × AV)) (t : Nat) (b : Bool), lookT tm t = .sc (.bool b) → lookA tm t = some (.sc (.bool b))
  | [], _, _, h => by cases h
  | (k, v) :: l, t, b, h => by
    simp only [lookT, lookA] at h ⊢
    split at h
    · rename_i hk; rw [hk]; rw [h]
    · rename_i hk; rw [hk]; exact lookT_of l t b h
theorem lookT_tup : ∀ (tm : List (Nat × AV)) (t : Nat), lookT tm t = .tup [] → lookA tm t = some (.tup [])
  | [], _, h => by cases h
  | (k, v) :: l, t, h => by
    simp only [lookT, lookA] at h ⊢
    split at h
    · rename_i hk; rw [hk]; rw [h]
    · rename_i hk; rw [hk]; exact lookT_tup l t h
def guardP (P : Program) (n : Nat) (tm : List (Nat × AV)) (σ : Sig) (G t : Nat) (w : Bool) (i : I) (K : St → Prop) (v : AV) : Prop :=
  match v with
  | .sc (.bool b) => Br b (Br w (iSt P i ⟨n, tm, σ, G⟩ K) (iSkip i ⟨n, tm, σ, G⟩ K)) (Br w (iSkip i ⟨n, tm, σ, G⟩ K) (iSt P i ⟨n, tm, σ, G⟩ K))
  | .tup [] => iSkip i ⟨n, tm, σ, G⟩ K
  | _ => False
theorem guard_sound {i : I} (h : guardP P n tm σ G t w i K (lookT tm t)) : sStep2 P ⟨i.so.d, i.so.o, some (t, w)⟩ ⟨n, tm, σ, G⟩ K := by
  cases hv : lookT tm t with
  | sc v =>
    rw [hv] at h
    cases v with
    | bool b =>
      unfold sStep2 sG
      simp only [lookT_of _ _ _ hv]
      cases b <;> cases w <;> simp only [guardP, Br_true, Br_false] at h ⊢ <;> first | exact iSt_sOp2 h | exact h
    | _ => cases h
  | tup vs =>
    rw [hv] at h
    cases vs with
    | nil =>
      unfold sStep2 sG
      simp only [lookT_tup _ _ hv]
      exact h
    | cons => cases h
  | _ => rw [hv] at h; cases h
theorem guardP_mono {K K' : St → Prop} {i : I} {v : AV} (h : ∀ s, K s → K' s) (hk : guardP P n tm σ G t w i K v) : guardP P n tm σ G t w i K' v := by
  unfold guardP at hk ⊢
  split at hk
  · rename_i b
    cases b <;> cases w <;> simp only [Br_true, Br_false] at hk ⊢ <;> first | exact iSt_mono h hk | exact putM h hk
  · exact putM h hk
  · cases hk

/-- The conditions, one word at a time: what the simplifier goes by. -/
def jOps (P : Program) : List J → St → (St → Prop) → Prop
  | [], s, Q => Q s
  | .p i :: l, s, Q => iSt P i s fun s' => jOps P l s' Q
  | .g t w i :: l, s, Q => guardP P s.n s.tm s.σ s.G t w i (fun s' => jOps P l s' Q) (lookT s.tm t)
def nthJ : List J → Nat → Option J
  | [], _ => none
  | j :: l, i => match i == 0 with
    | true => some j
    | false => nthJ l (i - 1)
theorem nthJ_so : ∀ (l : List J) (i : Nat), (soI l)[i]? = (nthJ l i).map fun
    | .p j => ⟨j.so.d, j.so.o, none⟩
    | .g t w j => ⟨j.so.d, j.so.o, some (t, w)⟩
  | [], i => rfl
  | .p j :: l, 0 => rfl
  | .g t w j :: l, 0 => rfl
  | .p j :: l, i + 1 => by simpa [soI, nthJ] using nthJ_so l i
  | .g t w j :: l, i + 1 => by simpa [soI, nthJ] using nthJ_so l i
/-- Pure words: what they tell in a state with other rows. -/
def rdW (P : Program) (σ : Sig) (tm : List (Nat × AV)) (i : I) : Option AV := pureV P σ (evT tm) i.so.o
def gdW (w : Bool) (x : Option AV) : AV → Option AV
  | .sc (.bool b) => match b == w with
    | true => x
    | false => some (.tup [])
  | .tup [] => some (.tup [])
  | _ => none
def rdJ (P : Program) (σ : Sig) (tm : List (Nat × AV)) : Option J → Option AV
  | some (.p i) => rdW P σ tm i
  | some (.g t w i) => gdW w (rdW P σ tm i) (lookT tm t)
  | none => none
def sameJ (P : Program) (l : List J) (tm : List (Nat × AV)) (σ σ' : Sig) : List Nat → Prop
  | [] => True
  | k :: rc => rdJ P σ' tm (nthJ l k) = rdJ P σ tm (nthJ l k) ∧ sameJ P l tm σ σ' rc
/-- A pure word of a drawn region. -/
def puW (P : Program) (i : I) (s : St) (K : St → Prop) : Prop := pureK i.so.o = true ∧ iSt P i s K
def isPuW : I → Bool
  | .bs .. | .sb .. | .lz .. | .mf .. => false
  | _ => true
def jT (P : Program) (l : List J) : DT → St → (St → Prop) → Prop
  | .nil, s, K => K s
  | .pu i t, s, K => match nthJ l i with
    | some (.p j) => (isPuW j = true ∧ pureK j.so.o = true) ∧ iSt P j s fun s' => jT P l t s' K
    | some (.g u w j) => (isPuW j = true ∧ pureK j.so.o = true) ∧ guardP P s.n s.tm s.σ s.G u w j (fun s' => jT P l t s' K) (lookT s.tm u)
    | none => False
  | .ef i rc t, s, K => match nthJ l i with
    | some (.p j) => iSt P j s fun s' => sameJ P l s.tm s.σ s'.σ rc ∧ jT P l t s' K
    | some (.g u w j) => guardP P s.n s.tm s.σ s.G u w j (fun s' => sameJ P l s.tm s.σ s'.σ rc ∧ jT P l t s' K) (lookT s.tm u)
    | none => False
  | .or a b, s, K => jT P l a s K ∧ jT P l b s K
def keepT : List Nat → List (Nat × AV) → List (Nat × AV)
  | [], _ => []
  | k :: ks, tm => (k, lookT tm k) :: keepT ks tm
def keepS (ks : List Nat) (s : St) : St := ⟨s.n, keepT ks s.tm, s.σ, s.G⟩
/-- The state at the head of a loop: the slots told, the names of their rows in order. -/
def headS (ks : List Nat) (s : St) : St := canL s (keepT ks s.tm) (canN s ks)
def jv (P : Program) : SC J → St → (Exit → St → Prop) → Prop
  | .skip, s, Q => Q .normal s
  | .ret, s, Q => Q .ret s
  | .exit id, s, Q => Q (.exit id) s
  | .seq a b, s, Q => jv P a s (thenK Q fun s' => jv P b s' Q)
  | .sq ks a b, s, Q => jv P a s (thenK Q fun s' => jv P b (keepS ks s') Q)
  | .ct a b, s, Q => jv P a s (thenK Q fun s' => ∃ s'', Weak s' s'' ∧ jv P b s'' Q)
  | .cond c x y, s, Q => match evT s.tm c with
    | .sc (.bool b) => Br b (jv P x s Q) (jv P y s Q)
    | _ => False
  | .block id c, s, Q => jv P c s (blockK id Q)
  | .loop c, s, Q => ∃ (I : Nat → St → Prop) (n : Nat) (s1 : St), Weak s s1 ∧ I n s1 ∧ ∀ m s2, I m s2 → jv P c s2 (thenK Q fun s3 => ∃ m' s4, m' < m ∧ Weak s3 s4 ∧ I m' s4)
  | .lp _ c, s, Q => ∃ (I : Nat → St → Prop) (n : Nat) (s1 : St), Weak s s1 ∧ I n s1 ∧ ∀ m s2, I m s2 → jv P c s2 (thenK Q fun s3 => ∃ m' s4, m' < m ∧ Weak s3 s4 ∧ I m' s4)
  | .reg l, s, Q => jOps P l s fun s' => Q .normal s'
  | .dr t anc l af, s, Q => (chkT t anc (soI l) af = true ∧ P.follows .mixedOrders = true) ∧ jT P l t s (Q .normal)
  | .rng id l it ty x tn tb b, s, Q => tk P ty = some .string ∧ jOps P l s fun s1 => ∃ str, evT s1.tm x = .sc (.string str) ∧ it < s1.n ∧ ∀ r, ∃ (I : Nat → St → Prop) (s2 : St), Weak ⟨s1.n, (it, .it r) :: s1.tm, s1.σ, s1.G⟩ s2 ∧ I 0 s2 ∧ ∀ pos s3, I pos s3 →
      (lookA s3.tm it = some (.it r) ∧ tn < s3.n ∧ tb < s3.n) ∧
      (pos < str.size → ∃ c, Utf8.decode str pos = (c, 1) ∧ jv P b ⟨s3.n, (tb, .sc (.bool true)) :: (tn, .tup [.sc (.bool true), .sc (.int .i64 pos), .sc (.int .i32 c)]) :: s3.tm, s3.σ, s3.G⟩ (thenK (blockK id Q) fun s4 => ∃ s5, Weak s4 s5 ∧ I (pos + 1) s5)) ∧
      (¬ pos < str.size → Q .normal ⟨s3.n, (tb, .sc (.bool false)) :: (tn, .tup [.sc (.bool false)]) :: s3.tm, s3.σ, s3.G⟩)
  | .bad, _, _ => False
theorem jOps_sOps : ∀ (l : List J) (s : St) (Q : St → Prop), jOps P l s Q → sOps P (soI l) s Q
  | [], s, Q, h => h
  | .p i :: l, s, Q, h => sStep2_mono (o := ⟨i.so.d, i.so.o, none⟩) (fun s' hs => jOps_sOps l s' Q hs) (iSt_sOp2 h)
  | .g t w i :: l, ⟨n, tm, σ, G⟩, Q, h => sStep2_mono (fun s' hs => jOps_sOps l s' Q hs) (guard_sound h)
theorem pu_sPure {j : I} {s : St} (h0 : isPuW j = true) (hp : pureK j.so.o = true) (h : iSt P j s K) : onSome (pureV P s.σ (ev s) j.so.o) fun v => put s j.so.d v s.σ false K := by
  have plain : onSome (absOp P (j.so.d.getD 0) s.G (evT s.tm) s.σ j.so.o) (PutK s j.so.d (bumps j.so.o) K) → onSome (pureV P s.σ (ev s) j.so.o) fun v => put s j.so.d v s.σ false K := by
    intro h
    rw [absOp_pure hp, onSome_map, pureK_bumps hp] at h
    rw [evf']
    exact h
  cases j with
  | ca d f xs ts => simp [I.so, pureK] at hp
  | cl d f xs ts => simp [I.so, pureK] at hp
  | cm d f ms xs ts => simp [I.so, pureK] at hp
  | cu d x xs ts => simp [I.so, pureK] at hp
  | lz => cases h0
  | mf => cases h0
  | bs => cases h0
  | sb => cases h0
  | ap => simp [I.so, pureK] at hp
  | cp => simp [I.so, pureK] at hp
  | _ => exact plain h
theorem jT_sT (l : List J) : ∀ (t : DT) (s : St) (Q : St → Prop), jT P l t s Q → sT P (soI l) t s Q
  | .nil, s, Q, h => h
  | .pu i t, ⟨n, tm, σ, G⟩, Q, h => by
    unfold jT at h
    unfold sT
    rw [nthJ_so]
    split at h
    · rename_i j hj
      rw [hj]
      exact ⟨h.1.2, sPure_mono (o := ⟨j.so.d, j.so.o, none⟩) (fun s' hs => jT_sT l t s' Q hs) (pu_sPure h.1.1 h.1.2 h.2)⟩
    · rename_i u w j hj
      rw [hj]
      refine ⟨h.1.2, ?_⟩
      obtain ⟨⟨h1, h2⟩, h3⟩ := h
      have key : sPure P ⟨j.so.d, j.so.o, some (u, w)⟩ ⟨n, tm, σ, G⟩ (fun s' => jT P l t s' Q) := by
        unfold sPure sV
        rw [evf]
        simp only at h3
        simp only [evT_tmp]
        cases hv : lookT tm u with
        | sc v =>
          rw [hv] at h3
          cases v with
          | bool b =>
            have pl : iSt P j ⟨n, tm, σ, G⟩ (fun s' => jT P l t s' Q) → onSome (pureV P σ (evT tm) j.so.o) fun v => put ⟨n, tm, σ, G⟩ j.so.d v σ false fun s' => jT P l t s' Q := fun hh => by
              have := pu_sPure h1 h2 hh
              rwa [evf] at this
            cases b <;> cases w <;> simp only [guardP, Br_true, Br_false] at h3 <;> first | exact pl h3 | exact h3
          | _ => cases h3
        | tup vs =>
          rw [hv] at h3
          cases vs with
          | nil => exact h3
          | cons => cases h3
        | _ => rw [hv] at h3; cases h3
      exact sPure_mono (fun s' hs => jT_sT l t s' Q hs) key
    · cases h
  | .ef i rc t, ⟨n, tm, σ, G⟩, Q, h => by
    have same : ∀ {s' : St}, sameJ P l tm σ s'.σ rc → sameS P (soI l) rc ⟨n, tm, σ, G⟩ s'.σ := by
      clear h
      intro s'
      induction rc with
      | nil => intro _ k hk; simp at hk
      | cons k0 rc ih =>
        intro hs k hk x hx
        rcases List.mem_cons.1 hk with rfl | hk
        · have h1 := hs.1
          rw [nthJ_so] at hx
          rw [evf]
          cases hn : nthJ l k with
          | none => rw [hn] at hx; cases hx
          | some j =>
            rw [hn] at hx h1
            cases j with
            | p j =>
              simp only [Option.map_some, Option.some.injEq] at hx
              subst hx
              exact h1
            | g u w j =>
              simp only [Option.map_some, Option.some.injEq] at hx
              subst hx
              simp only [rdJ] at h1
              unfold sV
              simp only [evT_tmp]
              unfold gdW at h1
              exact h1
        · exact ih hs.2 k hk x hx
    unfold jT at h
    unfold sT
    rw [nthJ_so]
    split at h
    · rename_i j hj
      rw [hj]
      exact sStep2_mono (o := ⟨j.so.d, j.so.o, none⟩) (fun s' hs => ⟨same hs.1, jT_sT l t s' Q hs.2⟩) (iSt_sOp2 h)
    · rename_i u w j hj
      rw [hj]
      exact sStep2_mono (fun s' hs => ⟨same hs.1, jT_sT l t s' Q hs.2⟩) (guard_sound h)
    · cases h
  | .or a b, s, Q, h => ⟨jT_sT l a s Q h.1, jT_sT l b s Q h.2⟩
theorem jT_mono {l : List J} : ∀ {t : DT} {s : St} {K K' : St → Prop}, (∀ s, K s → K' s) → jT P l t s K → jT P l t s K'
  | .nil, s, K, K', h, hk => h _ hk
  | .pu i t, s, K, K', h, hk => by
    unfold jT at hk ⊢
    split at hk
    · exact ⟨hk.1, iSt_mono (fun s' hs => jT_mono h hs) hk.2⟩
    · exact ⟨hk.1, guardP_mono (fun s' hs => jT_mono h hs) hk.2⟩
    · cases hk
  | .ef i rc t, s, K, K', h, hk => by
    unfold jT at hk ⊢
    split at hk
    · exact iSt_mono (fun s' hs => ⟨hs.1, jT_mono h hs.2⟩) hk
    · exact guardP_mono (fun s' hs => ⟨hs.1, jT_mono h hs.2⟩) hk
    · cases hk
  | .or a b, s, K, K', h, hk => ⟨jT_mono h hk.1, jT_mono h hk.2⟩
theorem lookA_lookT : ∀ (tm : List (Nat × AV)) (t : Nat) (v : AV), lookA tm t = some v → lookT tm t = v
  | [], _, _, h => by cases h
  | (k, u) :: l, t, v, h => by
    simp only [lookT, lookA] at h ⊢
    split at h
    · rename_i hk; rw [hk]; exact Option.some.inj h
    · rename_i hk; rw [hk]; exact lookA_lookT l t v h
theorem lookT_none : ∀ (tm : List (Nat × AV)) (t : Nat), lookA tm t = none → lookT tm t = .dead
  | [], _, _ => rfl
  | (k, u) :: l, t, h => by
    simp only [lookT, lookA] at h ⊢
    split at h
    · cases h
    · rename_i hk; rw [hk]; exact lookT_none l t h
theorem lookA_keepT : ∀ (ks : List Nat) (tm : List (Nat × AV)) (t : Nat) (v : AV), lookA (keepT ks tm) t = some v → lookT tm t = v
  | [], _, _, _, h => by cases h
  | k :: ks, tm, t, v, h => by
    simp only [keepT, lookA_cons] at h
    split at h
    · rename_i hk; subst hk; exact Option.some.inj h
    · exact lookA_keepT ks tm t v h
theorem Rel.look {rd : RD} {φ : Phi} {O : Nat → Prop} {w0 w : World} {s : St} {a : Act} (h : Rel rd φ O w0 s a w) (t : Nat) : VRel rd φ (lookT s.tm t) (a.tmps.getD t undef) := by
  cases hl : lookA s.tm t with
  | none => rw [lookT_none _ _ hl]; exact .dead _
  | some v => rw [lookA_lookT _ _ _ hl]; exact h.tm t v hl
theorem Weak.keep (ks : List Nat) (s : St) : Weak s (keepS ks s) := by
  intro rd O w0 a w ⟨rd', φ, hx, h⟩
  exact ⟨rd', φ, hx, h.heap, fun t v hl => lookA_keepT ks s.tm t v hl ▸ h.look t, h.size, h.defers, h.gen⟩
theorem Weak.head (ks : List Nat) (s : St) : Weak s (headS ks s) :=
  Weak.canL (fun t v hl rd φ O w0 a w h => lookA_keepT ks s.tm t v hl ▸ h.look t) _
/-! The nil slice, as a row of one's own: in slots -/
def nilP (s : St) (t : Nat) (x : AV × Sig × Nat) : St := ⟨s.n, (t, x.1) :: s.tm, x.2.1, x.2.2⟩
def nilS1 (s : St) (t : Nat) (u : AV) : St := nilP s t (nilV u (lookT s.tm t) s.σ s.G)
/-- .. in a cell of a row that a slot points at. -/
def nilCE (σ : Sig) (r g : Nat) (f : Frag) (p : List Nat) (row : Row) (i j sz G : Nat) (e : List AV) : Option AV → Option Sig
  | some .nilS => some (setA (setA σ (800000 + G) (G, one ⟨sz, [], 2, false⟩)) r (g, fset f p ⟨row.sz, row.es.set i (e.set j (.blk (800000 + G) G [] sz 0 0)), 0, false⟩))
  | _ => none
def nilCD (σ : Sig) (r g : Nat) (p : List Nat) (i j sz G : Nat) (f : Frag) : Option Row → Option Sig
  | some row => match row.es[i]?, row.ao with
    | some e, false => nilCE σ r g f p row i j sz G e (e[j]?)
    | _, _ => none
  | none => none
def nilCC (σ : Sig) (j sz G : Nat) : AV → Option Sig
  | .ptr r g p _ i _ => match Nat.beq r (800000 + G), lookA σ r with
    | false, some (g', f) => match Nat.beq g' g with
      | true => nilCD σ r g p i j sz G f (f p)
      | false => none
    | _, _ => none
  | _ => none
def nilCB (s : St) : Option Sig → St
  | some σ' => ⟨s.n, s.tm, σ', s.G + 1⟩
  | none => s
def nilCell (s : St) (t j sz : Nat) : St := nilCB s (nilCC s.σ j sz s.G (lookT s.tm t))
def nilN : List (Nat × Nat) → St → St
  | [], s => s
  | (t, sz) :: l, s => match Nat.ble 1000 t with
    | true => nilN l (nilCell s (t % 1000) (t / 1000 - 1) sz)
    | false => nilN l (nilS1 s t (.blk 0 0 [] sz 0 0))
theorem HRel.review {rd : RD} {φ : Phi} {O : Nat → Prop} {w0 w : World} {σ : Sig} {r g : Nat} {p : List Nat} {f : Frag} {row : Row} (h : HRel rd φ O w0 σ w) (hl : lookA σ r = some (g, f)) (hf : f p = some row) (hao : row.ao = false)
    {es' : List (List AV)} (hlen : es'.length = row.es.length) (hwide : ∀ e ∈ es', e.length = row.sz)
    (hc : ∀ (i j : Nat) (c' : AV), (es'[i]?).bind (·[j]?) = some c' → ∃ c, (row.es[i]?).bind (·[j]?) = some c ∧ ∀ v, VRel rd φ c v → VRel rd φ c' v) : HRel rd φ O w0 (setA σ r (g, fset f p ⟨row.sz, es', 0, false⟩)) w := by
  have hat : rowAt σ r g p = some row := by unfold rowAt; rw [hl]; simp [hf]
  obtain ⟨pl, hφ, hok⟩ := h.rows r g p row hat
  have hcase := fun {r2 g2 p2 row2} (hr : rowAt (setA σ r (g, fset f p ⟨row.sz, es', 0, false⟩)) r2 g2 p2 = some row2) => rowAt_fset hl hr
  have hsome : ∀ {r2 g2 p2 row2}, rowAt (setA σ r (g, fset f p ⟨row.sz, es', 0, false⟩)) r2 g2 p2 = some row2 → ∃ x, rowAt σ r2 g2 p2 = some x := by
    intro r2 g2 p2 row2 hr
    rcases hcase hr with ⟨rfl, rfl, rfl, rfl⟩ | ⟨h1, _⟩
    · exact ⟨_, hat⟩
    · exact ⟨_, h1⟩
  refine ⟨?_, ?_, h.rdok, ?_, ?_, h.frame, h.size, h.os, h.tape, h.output⟩
  · intro r2 g2 p2 row2 hr
    rcases hcase hr with ⟨rfl, rfl, rfl, rfl⟩ | ⟨hr, hne⟩
    · refine ⟨pl, hφ, hwide, by rw [hlen]; exact hok.len, fun e he => ⟨fun h => absurd h (by simp), fun h => absurd h (by simp)⟩, hok.nil, hok.room, fun b q had i j c' hcc => ?_, fun ha => by cases ha⟩
      obtain ⟨c, h1, h2⟩ := hc i j c' hcc
      obtain ⟨v, h3, h4⟩ := hok.cells b q had i j c h1
      exact ⟨v, h3, h2 v h4⟩
    · exact h.rows _ _ _ _ hr
  · intro r1 g1 p1 row1 r2 g2 p2 row2 pl1 pl2 b q1 q2 h1 h2 h3 h4 h5 h6
    obtain ⟨x1, e1⟩ := hsome h1
    obtain ⟨x2, e2⟩ := hsome h2
    exact h.sep _ _ _ _ _ _ _ _ _ _ _ _ _ e1 e2 h3 h4 h5 h6
  · intro r2 g2 p2 row2 pl2 b2 q2 h1 h2 h3 k hor
    rcases hcase h1 with ⟨rfl, rfl, rfl, rfl⟩ | ⟨h1, _⟩
    · exact h.rdsep _ _ _ _ _ _ _ hat h2 h3 k (.inl hao)
    · exact h.rdsep _ _ _ _ _ _ _ h1 h2 h3 k hor
  · intro r1 g1 p1 row1 pl1 b q1 h1 h2 h3
    obtain ⟨x1, e1⟩ := hsome h1
    exact h.own _ _ _ _ _ _ _ e1 h2 h3
theorem Weak.nilCell (s : St) (t j sz : Nat) : Weak s (nilCell s t j sz) := by
  unfold E.nilCell
  cases hx : nilCC s.σ j sz s.G (lookT s.tm t) with
  | none => exact .refl s
  | some σ' =>
    intro rd O w0 a w ⟨rd', φ, hx0, h⟩
    unfold nilCC at hx
    split at hx
    · rename_i r g p sz0 i o hp
      split at hx
      · rename_i g' f hne hl
        split at hx
        · rename_i hg
          have hg := Nat.eq_of_beq_eq_true hg
          subst hg
          unfold nilCD at hx
          split at hx
          · rename_i row hf
            split at hx
            · rename_i e hes hao
              unfold nilCE at hx
              split at hx
              · rename_i hej
                cases hx
                have hfr : ∀ q, φ (800000 + s.G) s.G q = none := fun q => by
                  cases hh : φ (800000 + s.G) s.G q with
                  | none => rfl
                  | some x => exact absurd (h.gen _ _ _ (by rw [hh]; simp)) (Nat.lt_irrefl _)
                obtain ⟨n1, n2⟩ := h.heap.newNil hfr sz 2
                generalize hφ' : (phiSet φ (800000 + s.G) s.G fun q => match q with | [] => some (⟨none, 0⟩ : Pl) | _ => none) = φ' at n1 n2
                have hne' : r ≠ 800000 + s.G := fun e => by rw [e, Nat.beq_refl] at hne; cases hne
                have hl' : lookA (setA s.σ (800000 + s.G) (s.G, one ⟨sz, [], 2, false⟩)) r = some (g', f) := by rw [lookA_setA, if_neg hne', hl]
                have hat : rowAt s.σ r g' p = some row := by unfold rowAt; rw [hl]; simp [hf]
                obtain ⟨pl, hφr, hok⟩ := h.heap.rows _ _ _ _ hat
                have hmem : e ∈ row.es := List.mem_of_getElem? hes
                refine ⟨rd', φ', hx0.step .refl n2, n1.review hl' hf hao (by simp) ?_ ?_, fun t' v hlv => (h.tm t' v hlv).mono (fun _ _ _ h => h) n2, h.size, h.defers, ?_⟩
                · intro x hx
                  rcases List.mem_or_eq_of_mem_set hx with hx | rfl
                  · exact hok.wide x hx
                  · rw [List.length_set]; exact hok.wide e hmem
                · intro i' j' c' hcc
                  by_cases hi : i = i'
                  · subst hi
                    have hlt : i < row.es.length := (List.getElem?_eq_some_iff.1 hes).1
                    rw [List.getElem?_set_self hlt] at hcc
                    by_cases hj : j = j'
                    · subst hj
                      have hjl : j < e.length := (List.getElem?_eq_some_iff.1 hej).1
                      simp only [Option.bind_some, List.getElem?_set_self hjl, Option.some.injEq] at hcc
                      subst hcc
                      refine ⟨.nilS, by rw [hes]; exact hej, fun v hv => ?_⟩
                      cases hv
                      exact .blk (800000 + s.G) s.G [] sz 0 0 ⟨none, 0⟩ none (by rw [← hφ']; simp [phiSet]) (.inl rfl) (Nat.zero_le _)
                    · simp only [Option.bind_some, List.getElem?_set_ne hj] at hcc
                      exact ⟨c', by rw [hes]; exact hcc, fun v hv => hv⟩
                  · rw [List.getElem?_set_ne hi] at hcc
                    exact ⟨c', hcc, fun v hv => hv⟩
                · intro r' g0 p' hp'
                  rw [← hφ'] at hp'
                  unfold phiSet at hp'
                  split at hp'
                  · rename_i ee; rw [ee.2]; exact Nat.lt_succ_self _
                  · exact Nat.lt_succ_of_lt (h.gen _ _ _ hp')
              · cases hx
            · cases hx
          · cases hx
        · cases hx
      · cases hx
    · cases hx
theorem Weak.nil1 (s : St) (t : Nat) (u : AV) : Weak s (nilS1 s t u) := by
  intro rd O w0 a w ⟨rd', φ, hx, h⟩
  obtain ⟨φ1, x1, h1, g1, v1⟩ := nilV_sound (u := u) h.heap h.gen (h.look t)
  refine ⟨rd', φ1, hx.step .refl x1, h1, fun t' v hl => ?_, h.size, h.defers, g1⟩
  show VRel rd' φ1 v _
  unfold nilS1 nilP at hl
  simp only [lookA_cons] at hl
  split at hl
  · rename_i e
    subst e
    cases hl
    exact v1
  · exact (h.tm t' v hl).mono (fun _ _ _ h => h) x1
theorem Weak.nilN : ∀ (l : List (Nat × Nat)) (s : St), Weak s (nilN l s)
  | [], s => .refl s
  | (t, sz) :: l, s => by
    simp only [E.nilN]
    split
    · exact (Weak.nilCell s _ _ _).trans (Weak.nilN l _)
    · exact (Weak.nil1 s t _).trans (Weak.nilN l _)
end
end Go.Proofs.Ytkhemolkhegppaa.E
