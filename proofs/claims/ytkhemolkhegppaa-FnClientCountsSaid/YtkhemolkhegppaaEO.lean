/-
  E, part O: weaker states; control; the condition of a code; results.
-/
import Derived.Test.YtkhemolkhegppaaEQ
namespace Go.Proofs.Ytkhemolkhegppaa.E
open Go Go.RowKit
set_option linter.unusedVariables false

/-- What is known of one state is enough for the other. -/
def Weak (s s' : St) : Prop := ∀ (rd : REnv) (O : Nat → Prop) (w0 : World) (a : Act) (w : World), RelE rd O w0 s a w → RelE rd O w0 s' a w
theorem Weak.rel {s s' : St} (hw : Weak s s') {rd : REnv} {O : Nat → Prop} {w0 w : World} {a : Act} (h : RelE rd O w0 s a w) : RelE rd O w0 s' a w := hw _ _ _ _ _ h
theorem Weak.refl (s : St) : Weak s s := fun _ _ _ _ _ h => h
theorem Weak.trans {s s' s'' : St} (h : Weak s s') (k : Weak s' s'') : Weak s s'' := fun _ _ _ _ _ x => k _ _ _ _ _ (h _ _ _ _ _ x)

/-- What is no longer asked for may be forgotten. -/
theorem Weak.forget {n G : Nat} {tm tm' : List (Nat × AV)} {σ σ' : Sig} (e2 : ∀ t v, lookA tm' t = some v → lookA tm t = some v) (e3 : ∀ r x, lookA σ' r = some x → lookA σ r = some x) : Weak ⟨n, tm, σ, G⟩ ⟨n, tm', σ', G⟩ := by
  intro rd O w0 a w ⟨rd', φ, hx, h⟩
  have hat : ∀ {r g p row}, rowAt σ' r g p = some row → rowAt σ r g p = some row := by
    intro r g p row hr
    unfold rowAt at hr ⊢
    cases hl : lookA σ' r with
    | none => rw [hl] at hr; cases hr
    | some x => rw [hl] at hr; rw [e3 _ _ hl]; exact hr
  exact ⟨rd', φ, hx, ⟨fun r g p row hr => h.heap.rows _ _ _ _ (hat hr), fun r g p row r' g' p' row' pl pl' b q q' h1 h2 => h.heap.sep _ _ _ _ _ _ _ _ _ _ _ _ _ (hat h1) (hat h2), h.heap.rdok,
    fun r g p row pl b q h1 => h.heap.rdsep _ _ _ _ _ _ _ (hat h1), fun r g p row pl b q h1 => h.heap.own _ _ _ _ _ _ _ (hat h1), h.heap.frame, h.heap.size, h.heap.os, h.heap.tape, h.heap.output⟩,
    fun t v hl => h.tm _ _ (e2 _ _ hl), h.size, h.defers, h.gen⟩

/-! ### Control -/
def thenK (Q : Exit → St → Prop) (K : St → Prop) : Exit → St → Prop
  | .normal, s => K s
  | .exit id, s => Q (.exit id) s
  | .goto l, s => Q (.goto l) s
  | .ret, s => Q .ret s
  | .panic c, s => Q (.panic c) s
  | .outgrown, s => Q .outgrown s
def blockK (id : Nat) (Q : Exit → St → Prop) : Exit → St → Prop
  | .normal, s => Q .normal s
  | .exit id', s => match id' == id with
    | true => Q .normal s
    | false => Q (.exit id') s
  | .goto l, s => Q (.goto l) s
  | .ret, s => Q .ret s
  | .panic c, s => Q (.panic c) s
  | .outgrown, s => Q .outgrown s

/-- What the condition is for. -/
def GoodC (P : Program) (c : Code) (s : St) (Q : Exit → St → Prop) : Prop := ∀ (rd : REnv) (O : Nat → Prop) (w0 : World) (a : Act) (w : World), RelE rd O w0 s a w → c.wp P (Post rd O w0 Q) a w
/-- THE CONDITION that a code comes to Q. -/
def vc (P : Program) : Code → St → (Exit → St → Prop) → Prop
  | .skip, s, Q => Q .normal s
  | .ret, s, Q => Q .ret s
  | .exit id, s, Q => Q (.exit id) s
  | .seq a b, s, Q => vc P a s (thenK Q fun s' => ∃ s'', Weak s' s'' ∧ vc P b s'' Q) ∨ GoodC P (.seq a b) s Q
  | .cond c x y, s, Q => match ev s c with
    | .sc (.bool b) => Br b (vc P x s Q) (vc P y s Q)
    | _ => False
  | .block id c, s, Q => vc P c s (blockK id Q)
  | .loop c, s, Q => ∃ (I : Nat → St → Prop) (n : Nat) (s1 : St), Weak s s1 ∧ I n s1 ∧ ∀ m s2, I m s2 → vc P c s2 (thenK Q fun s3 => ∃ m' s4, m' < m ∧ Weak s3 s4 ∧ I m' s4)
  | .region _ ops draw, s, Q => match draw with
    | false => vcOps2 P ops ops.toList s (Q .normal)
    | true => P.follows .mixedOrders = true ∧ ∃ (t : DT) (A : Nat → List Nat), Static ops A ∧ okT ops A false t ∧ (∀ i, i ∈ opsT t ↔ i < ops.size) ∧ (opsT t).length ≤ ops.size ∧ vcT P ops t s (Q .normal)
  | _, _, _ => False

theorem wp_loop_fam {P : Program} {Q : Exit → Act → World → Prop} {c : Code} (I : Nat → Act → World → Prop)
    (round : ∀ n a w, I n a w → c.wp P (Exit.then (fun a' w' => ∃ m, m < n ∧ I m a' w') Q) a w) (n : Nat) (a : Act) (w : World) (h : I n a w) : (Code.loop c).wp P Q a w := by
  intro b k cs
  have key : ∀ n a w, I n a w → ∃ e a' w', Q e a' w' ∧ Arrives P (lone (b.at a (.code c :: .inLoop c :: k)) cs w) b k cs e a' w' := by
    intro n
    induction n using Nat.strongRecOn with
    | _ n ih =>
      intro a w hI
      obtain ⟨e, a1, w1, hq, harr⟩ := round n a w hI b (.inLoop c :: k) cs
      cases e with
      | normal =>
        obtain ⟨m, hm, hI1⟩ := hq
        obtain ⟨e2, a2, w2, hq2, harr2⟩ := ih m hm a1 w1 hI1
        exact ⟨e2, a2, w2, hq2, .of_steps (Steps.trans harr (.one step_inLoop)) harr2⟩
      | _ => exact ⟨_, a1, w1, hq, .pass (x := .inLoop c) rfl (fun _ _ => .inl (by simp)) harr⟩
  obtain ⟨e, a', w', hq, harr⟩ := key n a w h
  exact ⟨e, a', w', hq, .of_steps (.one step_loop) harr⟩

theorem range_map (ops : Array Oper) : (List.range ops.size).map (ops[·]?) = ops.toList.map some := by
  apply List.ext_getElem?
  intro i
  rw [List.getElem?_map, List.getElem?_map]
  rcases Nat.lt_or_ge i ops.size with h | h
  · rw [List.getElem?_range h]
    simp [h]
  · rw [List.getElem?_eq_none (by simpa using h), List.getElem?_eq_none (by simpa using h)]
    rfl

theorem vc_sound {P : Program} {rd : REnv} {O : Nat → Prop} {w0 : World} : ∀ (c : Code) (s : St) (Q : Exit → St → Prop), vc P c s Q → ∀ a w, RelE rd O w0 s a w → c.wp P (Post rd O w0 Q) a w
  | .skip, s, Q, hv, a, w, h => wp_skip ⟨s, hv, h⟩
  | .ret, s, Q, hv, a, w, h => wp_ret ⟨s, hv, h⟩
  | .exit id, s, Q, hv, a, w, h => wp_exit ⟨s, hv, h⟩
  | .seq x y, s, Q, hv, a, w, h => by
    rcases hv with hv | hv
    case inr => exact hv _ _ _ _ _ h
    refine wp_seq (wp_mono (vc_sound x s _ hv a w h) ?_)
    rintro e a' w' ⟨s', hk, hr⟩
    cases e with
    | normal =>
      obtain ⟨s'', hw, hk⟩ := hk
      exact vc_sound y s'' Q hk a' w' (hw.rel hr)
    | _ => exact ⟨s', hk, hr⟩
  | .cond c x y, s, Q, hv, a, w, h => by
    simp only [vc] at hv
    split at hv
    · rename_i b hb
      obtain ⟨rd', φ, hx, hrel⟩ := h
      have hev := hrel.ev c
      rw [hb] at hev
      have hev := sc_inv hev
      cases b with
      | true => exact wp_cond_true hev (vc_sound x s Q hv a w ⟨rd', φ, hx, hrel⟩)
      | false => exact wp_cond_false hev (vc_sound y s Q hv a w ⟨rd', φ, hx, hrel⟩)
    · cases hv
  | .block id c, s, Q, hv, a, w, h => by
    refine wp_block (wp_mono (vc_sound c s _ hv a w h) ?_)
    rintro e a' w' ⟨s', hk, hr⟩
    cases e with
    | exit id' =>
      simp only [blockK] at hk
      simp only [Exit.inBlock]
      by_cases hid : id' = id
      · rw [if_pos hid]
        have : (id' == id) = true := by simp [hid]
        rw [this] at hk
        exact ⟨s', hk, hr⟩
      · rw [if_neg hid]
        have : (id' == id) = false := by simp [hid]
        rw [this] at hk
        exact ⟨s', hk, hr⟩
    | _ => exact ⟨s', hk, hr⟩
  | .loop c, s, Q, hv, a, w, h => by
    obtain ⟨I, n, s1, hw, hI, hround⟩ := hv
    refine wp_loop_fam (fun n a w => ∃ s, I n s ∧ RelE rd O w0 s a w) ?_ n a w ⟨s1, hI, hw.rel h⟩
    rintro m a2 w2 ⟨s2, h2, hr2⟩
    refine wp_mono (vc_sound c s2 _ (hround m s2 h2) a2 w2 hr2) ?_
    rintro e a' w' ⟨s3, hk, hr⟩
    cases e with
    | normal =>
      obtain ⟨m', s4, hlt, hweak, hI4⟩ := hk
      exact ⟨m', hlt, s4, hI4, hweak.rel hr⟩
    | _ => exact ⟨s3, hk, hr⟩
  | .region id ops draw, s, Q, hv, a, w, h => by
    simp only [vc] at hv
    cases draw with
    | false => exact wp_region (vcOps2_sound (fun s' a' w' hk hr => ⟨s', hk, hr⟩) _ _ (range_map ops) s a w h hv)
    | true =>
      obtain ⟨hm, t, A, h1, h2, h3, h4, h5⟩ := hv
      refine wp_region_any hm (vcT_any h1 (fun s a w hk hr => ⟨s, hk, hr⟩) ops.size _ t s a _ h2 (fun i => ?_) h4 ?_ ?_ (vcT_mono (fun s hk => ⟨s, .refl s, hk⟩) h5))
      · rw [h3]
        constructor
        · intro hi
          exact ⟨hi, by simp [hi]⟩
        · exact fun hi => hi.1
      · intro j o k hj
        exfalso
        simp only [Array.getD_eq_getD_getElem?, Array.getElem?_replicate] at hj
        split at hj <;> simp at hj
      · obtain ⟨rd', φ, hx, hr⟩ := h
        exact ⟨rd', φ, hx, hr.heap.drew, hr.tm, hr.size, hr.defers, hr.gen⟩
  | .rangeFunc .., s, Q, hv, a, w, h => by cases hv
  | .scope _, s, Q, hv, a, w, h => by cases hv
  | .label _, s, Q, hv, a, w, h => by cases hv
  | .goto _, s, Q, hv, a, w, h => by cases hv
  | .refuse _, s, Q, hv, a, w, h => by cases hv

/-! ### States with names in order -/
/-- A kept slot's names, and those behind them, under names after the slot. -/
def addN (σ : Sig) (tm : List (Nat × AV)) : List Nat → Asc → Asc
  | [], acc => acc
  | t :: ks, acc => addN σ tm ks (disc true σ 10000 20 t acc (nmsA (match lookA tm t with
    | some v => v
    | none => .dead)))
def mapTm (N : NF) : List (Nat × AV) → List (Nat × AV)
  | [] => []
  | (t, v) :: l => (t, mapA N v) :: mapTm N l
def canM (s : St) (ks : List (Nat × AV)) (L : Asc) : Bool → Option Sig → St
  | true, some σ' => ⟨s.n, mapTm (lkN L) ks, σ', 1⟩
  | _, _ => ⟨s.n, [], [], s.G⟩
def zeroG (L : Asc) : Bool := L.all fun x => Nat.beq x.2.2 0
def canN (s : St) (ks : List Nat) : Asc := addN s.σ s.tm ks (disc true s.σ 1 20 900000 (stayL s.σ) (rootN s.σ (stayL s.σ)))
/-- What stays known of a state: the slots told, and the rows that they name. -/
def canL (s : St) (ks : List (Nat × AV)) (L : Asc) : St := canM s ks L (distN L && (zeroG L && stayOK L)) (renS s.σ (lkN L) L)
def phiK (φ : Phi) (L : Asc) : Phi := fun r g p => match lkB L r g with
  | some x => φ x.1 x.2 p
  | none => match Nat.beq g 0 && Nat.ble 1000000 r with
    | true => φ r g p
    | false => none
theorem phiK_of {φ : Phi} {L : Asc} : ∀ r g p pl, phiL φ L r g p = some pl → phiK φ L r g p = some pl := by
  intro r g p pl h
  unfold phiL at h
  unfold phiK
  split at h
  · rename_i x hx
    rw [hx]; exact h
  · cases h
theorem phiK_stay {φ : Phi} {L : Asc} (hs : stayOK L = true) : ∀ r p pl, φ r 0 p = some pl → 1000000 ≤ r → phiK φ L r 0 p = some pl := by
  intro r p pl h hr
  unfold phiK
  split
  · rename_i x hx
    have h1 := List.all_eq_true.1 hs _ (lkB_mem hx)
    simp only [Nat.ble_eq_true_of_le hr, Bool.and_eq_true] at h1
    have e1 := Nat.eq_of_beq_eq_true h1.1
    have e2 := Nat.eq_of_beq_eq_true h1.2
    rw [e1, e2]
    exact h
  · have : (Nat.beq 0 0 && Nat.ble 1000000 r) = true := by rw [Nat.ble_eq_true_of_le hr]; rfl
    rw [this]
    exact h
theorem HRel.phi {rd : RD} {φ φ' : Phi} {O : Nat → Prop} {w0 w : World} {σ : Sig} (h : HRel rd φ O w0 σ w) (hs : ∀ r g p pl, φ r g p = some pl → φ' r g p = some pl) : HRel rd φ' O w0 σ w := by
  have same : ∀ {r g p row pl}, rowAt σ r g p = some row → φ' r g p = some pl → φ r g p = some pl := by
    intro r g p row pl hr hp
    obtain ⟨pl', h1, _⟩ := h.rows _ _ _ _ hr
    rw [hs _ _ _ _ h1] at hp
    cases hp
    exact h1
  exact ⟨fun r g p row hr => by obtain ⟨pl, h1, h2⟩ := h.rows _ _ _ _ hr; exact ⟨pl, hs _ _ _ _ h1, h2.mono (fun _ _ _ h => h) hs⟩,
    fun r g p row r' g' p' row' pl pl' b q q' h1 h2 h3 h4 => h.sep _ _ _ _ _ _ _ _ _ _ _ _ _ h1 h2 (same h1 h3) (same h2 h4), h.rdok, fun r g p row pl b q h1 h2 => h.rdsep _ _ _ _ _ _ _ h1 (same h1 h2),
    fun r g p row pl b q h1 h2 => h.own _ _ _ _ _ _ _ h1 (same h1 h2), h.frame, h.size, h.os, h.tape, h.output⟩
theorem lookA_mapTm {N : NF} : ∀ {l : List (Nat × AV)} {t : Nat} {v : AV}, lookA (mapTm N l) t = some v → ∃ u, lookA l t = some u ∧ v = mapA N u
  | [], _, _, h => by cases h
  | (k, u) :: l, t, v, h => by
    simp only [mapTm, lookA_cons] at h ⊢
    split at h
    · rename_i hk; rw [if_pos hk]; cases h; exact ⟨u, rfl, rfl⟩
    · rename_i hk; rw [if_neg hk]; exact lookA_mapTm h
theorem Weak.canL {s : St} {ks : List (Nat × AV)} (hks : ∀ t v, lookA ks t = some v → ∀ (rd : RD) (φ : Phi) (O : Nat → Prop) (w0 : World) (a : Act) (w : World), Rel rd φ O w0 s a w → VRel rd φ v (a.tmps.getD t undef)) (L : Asc) : Weak s (E.canL s ks L) := by
  intro rd O w0 a w ⟨rd', φ, hx, h⟩
  have none' : RelE rd O w0 ⟨s.n, [], [], s.G⟩ a w := by
    have hno : ∀ {r g p row}, rowAt ([] : Sig) r g p = some row → False := by
      intro r g p row hr
      simp [rowAt, lookA] at hr
    exact ⟨rd', φ, hx, ⟨fun r g p row hr => (hno hr).elim, fun r g p row r' g' p' row' pl pl' b q q' hr => (hno hr).elim, h.heap.rdok, fun r g p row pl b q hr => (hno hr).elim, fun r g p row pl b q hr => (hno hr).elim, h.heap.frame, h.heap.size, h.heap.os, h.heap.tape, h.heap.output⟩,
      fun t v hl => by simp [lookA] at hl, h.size, h.defers, h.gen⟩
  unfold E.canL
  cases hd : distN L && (zeroG L && stayOK L) with
  | false =>
    unfold canM
    exact none'
  | true =>
    cases hr : renS s.σ (lkN L) L with
    | none =>
      unfold canM
      exact none'
    | some σ' =>
      simp only [Bool.and_eq_true] at hd
      unfold canM
      refine ⟨rd', phiK φ L, ⟨hx.1, fun r p pl e hr => phiK_stay hd.2.2 r p pl (hx.2 r p pl e hr) hr⟩, (h.heap.renL hd.1 hr).phi phiK_of, fun t v hl => ?_, h.size, h.defers, fun r g p hp => ?_⟩
      · obtain ⟨u, hu, rfl⟩ := lookA_mapTm hl
        exact (mapA_rel (phiL_carries hd.1) (hks t u hu _ _ _ _ _ _ h)).mono (fun _ _ _ h => h) phiK_of
      · unfold phiK at hp
        split at hp
        · rename_i x hx
          have := List.all_eq_true.1 hd.2.1 _ (lkB_mem hx)
          have := Nat.eq_of_beq_eq_true this
          simp only at this
          show g < 1
          omega
        · split at hp
          · rename_i hg
            simp only [Bool.and_eq_true] at hg
            have := Nat.eq_of_beq_eq_true hg.1
            show g < 1
            omega
          · exact absurd rfl hp

/-! ### The contract of a function, out of its code -/
def absRes (P : Program) (s : St) : List ResultVar → Option (List AV)
  | [] => some []
  | .tmp t :: l => match absRes P s l with
    | some vs => some (ev s (.tmp t) :: vs)
    | none => none
  | .cell t ty :: l => match absLoad P s.σ ty (ev s (.tmp t)) with
    | some v => match absRes P s l with
      | some vs => some (v :: vs)
      | none => none
    | none => none
def packRes : List AV → AV
  | [v] => v
  | vs => .tup vs

def resVar (tmps : Array Value) : ResultVar → Sem Value
  | .tmp t => pure (tmps.getD t undef)
  | .cell a t => do loadVar t (← asAddr (tmps.getD a undef))

theorem absRes_sound {P : Program} {rd : RD} {φ : Phi} {O : Nat → Prop} {w0 w : World} {s : St} {a : Act} (h : Rel rd φ O w0 s a w) : ∀ {l : List ResultVar} {vs : List AV}, absRes P s l = some vs →
    ∃ us, PW rd φ vs us ∧ (l.mapM (resVar a.tmps)).run P w = Result.ok us w
  | [], vs, he => by cases he; exact ⟨[], PW.nil, by simp⟩
  | .tmp t :: l, vs, he => by
    simp only [absRes] at he
    split at he
    · rename_i vs' hl
      cases he
      obtain ⟨us, h1, h2⟩ := absRes_sound h hl
      have hv := h.ev (.tmp t)
      refine ⟨a.tmps.getD t undef :: us, ⟨by simp [h1.1], fun j c hc => ?_⟩, ?_⟩
      · cases j with
        | zero => cases hc; exact ⟨_, rfl, hv⟩
        | succ j => simpa using h1.2 j c (by simpa using hc)
      · simp only [List.mapM_cons, Sem.run_bind, resVar, Sem.run_pure, Result.andThen_ok, h2]
    · cases he
  | .cell t ty :: l, vs, he => by
    simp only [absRes] at he
    split at he
    · rename_i v hv
      split at he
      · rename_i vs' hl
        cases he
        obtain ⟨us, h1, h2⟩ := absRes_sound h hl
        have hx := h.ev (.tmp t)
        obtain ⟨cv, e1, e2⟩ := load_val h.heap hx hv
        have e3 : (resVar a.tmps (.cell t ty)).run P w = .ok cv w := by
          rw [show a.eval (.tmp t) = a.tmps.getD t undef from rfl] at e1
          cases hp : a.tmps.getD t undef with
          | pointer A =>
            rw [hp] at e1
            cases A with
            | none => simp [Instr.loadAt, Instr.sureAddr] at e1
            | some A =>
              simp only [Instr.loadAt, Instr.sureAddr, Sem.run_bind, Sem.run_pure, Result.andThen_ok] at e1
              simp only [resVar, hp, asAddr, Sem.run_bind, Sem.run_pure, Result.andThen_ok, e1]
          | _ => rw [hp] at e1; simp [Instr.loadAt, Instr.sureAddr] at e1
        refine ⟨cv :: us, ⟨by simp [h1.1], fun j c hc => ?_⟩, ?_⟩
        · cases j with
          | zero => cases hc; exact ⟨_, rfl, e2⟩
          | succ j => simpa using h1.2 j c (by simpa using hc)
        · simp only [List.mapM_cons, Sem.run_bind, e3, Result.andThen_ok, h2, Sem.run_pure]
      · cases he
    · cases he

theorem results_sound {P : Program} {rd : RD} {φ : Phi} {O : Nat → Prop} {w0 w : World} {s : St} {a : Act} (h : Rel rd φ O w0 s a w) {fn : Func} {vs : List AV} (he : absRes P s fn.results.toList = some vs) :
    ∃ v, (results fn a.tmps).run P w = .ok v w ∧ VRel rd φ (packRes vs) v := by
  obtain ⟨us, h1, h2⟩ := absRes_sound h he
  have h3 : (fn.results.mapM (resVar a.tmps)).run P w = .ok us.toArray w := by
    rw [Array.mapM_eq_mapM_toList]
    simp [h2]
  have h4 : results fn a.tmps = (do
    let vs ← fn.results.mapM (resVar a.tmps)
    pure (if h : vs.size = 1 then vs[0] else .tuple vs)) := rfl
  rw [h4, Sem.run_bind, h3]
  refine ⟨_, rfl, ?_⟩
  split
  · rename_i hs
    have hs' : us.length = 1 := by simpa using hs
    match us, vs, h1, hs' with
    | [u], [x], h1, _ =>
      obtain ⟨v', hv', hr⟩ := h1.2 0 x rfl
      cases hv'
      exact hr
    | [u], [], h1, _ => exact absurd h1.1 (by simp)
    | [u], _ :: _ :: _, h1, _ => exact absurd h1.1 (by simp)
  · rename_i hs
    have hs' : us.length ≠ 1 := by simpa using hs
    have hp : packRes vs = .tup vs := by
      match vs, h1 with
      | [], _ => rfl
      | [x], h1 => exact absurd (h1.1.symm.trans rfl) hs'
      | _ :: _ :: _, _ => rfl
    rw [hp]
    exact PW.tup h1

end Go.Proofs.Ytkhemolkhegppaa.E
