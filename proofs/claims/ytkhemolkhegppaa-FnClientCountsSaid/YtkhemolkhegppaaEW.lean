/-
  E, part W: calls that rows are moved into; calls that rows are lent to; states with names in order.
-/
import Derived.Test.YtkhemolkhegppaaEV
namespace Go.Proofs.Ytkhemolkhegppaa.E
open Go Go.RowKit
set_option linter.unusedVariables false

/-! Names that a value tells -/
def nmsC : AV → List (Nat × Nat)
  | .blk r g _ _ _ _ => [(r, g)]
  | .ptr r g _ _ _ _ => [(r, g)]
  | _ => []
def nmsL : List AV → List (Nat × Nat)
  | [] => []
  | c :: cs => nmsC c ++ nmsL cs
def nmsA : AV → List (Nat × Nat)
  | .agg cs => nmsL cs
  | v => nmsC v
def nmsAL : List AV → List (Nat × Nat)
  | [] => []
  | c :: cs => nmsA c ++ nmsAL cs
def nmsT : AV → List (Nat × Nat)
  | .tup vs => nmsAL vs
  | v => nmsA v
def nmsM : List Bool → List AV → List (Nat × Nat)
  | true :: ms, a :: as => nmsA a ++ nmsM ms as
  | false :: ms, _ :: as => nmsM ms as
  | _, _ => []
def nmsE : List (List AV) → List (Nat × Nat)
  | [e] => nmsL e
  | _ => []
def nmsRow (row : Row) : List (Nat × Nat) := match Nat.ble 1 row.fl with
  | true => []
  | false => nmsE row.es
/-- The names in a row that lives; none if it does not. -/
def rowNms (σ : Sig) (x : Nat × Nat) : Option (List (Nat × Nat)) := (lookA σ x.1).bind fun gf => match Nat.beq gf.1 x.2 with
  | true => (gf.2 []).map nmsRow
  | false => none
def tgt (keep : Bool) (k : Nat) (x : Nat × Nat) : Nat × Nat := match keep, Nat.ble 1000000 x.1 with
  | true, true => x
  | _, _ => (k, 0)
def disc (keep : Bool) (σ : Sig) (st : Nat) : Nat → Nat → Asc → List (Nat × Nat) → Asc
  | 0, _, acc, _ => acc
  | _, _, acc, [] => acc
  | n + 1, k, acc, x :: t => match hasS acc x.1 with
    | true => disc keep σ st n k acc t
    | false => match rowNms σ x with
      | some l => disc keep σ st n (k + st) (acc ++ [(x, tgt keep k x)]) (t ++ l)
      | none => disc keep σ st n k acc t
/-- The names that stay: what was moved in. -/
def stayL : Sig → Asc
  | [] => []
  | (k, _) :: l => match Nat.ble 1000000 k with
    | true => ((k, 0), (k, 0)) :: stayL l
    | false => stayL l
def rootN (σ : Sig) : Asc → List (Nat × Nat)
  | [] => []
  | x :: l => (match rowNms σ x.1 with | some l => l | none => []) ++ rootN σ l
def stayOK (L : Asc) : Bool := L.all fun x => match Nat.ble 1000000 x.2.1 with
  | true => Nat.beq x.1.1 x.2.1 && Nat.beq x.1.2 x.2.2
  | false => true
def inOK (L : Asc) : Bool := L.all fun x => Nat.ble 1000000 x.2.1 && Nat.beq x.2.2 0

/-- Arguments: what is moved, under its new name; the others frozen. -/
def prepG (N : NF) : Sig → List Bool → List AV → Option (Sig × List AV)
  | σ, [], [] => some (σ, [])
  | σ, true :: ms, a :: as => (prepG N σ ms as).map fun y => (y.1, mapA N a :: y.2)
  | σ, false :: ms, a :: as => (frz σ a).bind fun x => (prepG N x.1 ms as).map fun y => (y.1, x.2 :: y.2)
  | _, _, _ => none
def WantM (P : Program) (n : Nat) (σin : Sig) (args : List AV) (K : AV → Sig → Prop) : Prop := ∃ res σout, CallM P n σin args res σout ∧ K res σout
theorem WantM.intro {P : Program} {n : Nat} {σin : Sig} {args : List AV} {K : AV → Sig → Prop} {res : AV} {σout : Sig} (h : CallM P n σin args res σout) (k : K res σout) : WantM P n σin args K := ⟨res, σout, h, k⟩
def mvE (s : St) (d : Option Nat) (K : St → Prop) (v : AV) (σ2 : Sig) : Prop := put s d v σ2 true K
def mvD (s : St) (d : Option Nat) (K : St → Prop) (L : Asc) (σ1 : Sig) (res : AV) (σout : Sig) : Prop :=
  distK σout = true ∧ onSome (outS (bkN L (d.getD 0) s.G) (delL σ1 L) σout) (mvE s d K (mapT (bkN L (d.getD 0) s.G) res))
def mvC (P : Program) (s : St) (d : Option Nat) (n : Nat) (K : St → Prop) (L : Asc) (x : Sig × List AV) (σin : Sig) : Prop := WantM P n σin x.2 (mvD s d K L x.1)
def mvB (P : Program) (s : St) (d : Option Nat) (n : Nat) (K : St → Prop) (L : Asc) (x : Sig × List AV) : Prop := onSome (renS x.1 (lkN L) L) (mvC P s d n K L x)
def mvA (P : Program) (s : St) (d : Option Nat) (n : Nat) (K : St → Prop) (ms : List Bool) (args : List AV) (L : Asc) : Prop :=
  (distN L = true ∧ inOK L = true) ∧ onSome (prepG (lkN L) s.σ ms args) (mvB P s d n K L)
def vcMove (P : Program) (s : St) (d : Option Nat) (n : Nat) (ms : List Bool) (args : List AV) (K : St → Prop) : Prop :=
  mvA P s d n K ms args (disc false s.σ 1 30 1000000 [] (nmsM ms args))

/-! Rows that are lent -/
def plainC : AV → Bool
  | .sc _ | .nilS | .blk .. | .ptr .. | .dead | .ro _ [] => true
  | _ => false
def plainL : List AV → Bool
  | [] => true
  | c :: cs => match plainC c with
    | true => plainL cs
    | false => false
def plainA : AV → Bool
  | .agg cs => plainL cs
  | v => plainC v
def plainAL : List AV → Bool
  | [] => true
  | c :: cs => match plainA c with
    | true => plainAL cs
    | false => false
def plainT : AV → Bool
  | .tup vs => plainAL vs
  | v => plainA v
def plainRf : List (List Nat × Row) → Bool
  | [] => true
  | x :: l => match Nat.ble 2 x.2.fl with
    | true => plainRf l
    | false => false
def ldD (s : St) (d : Option Nat) (K : St → Prop) (res : AV) (rf : List (List Nat × Row)) : Prop :=
  (plainT res = true ∧ plainRf rf = true) ∧ put s d (nm (d.getD 0) s.G res) (addF s.σ (d.getD 0) s.G rf) true K
def ldC' (P : Program) (s : St) (d : Option Nat) (n : Nat) (K : St → Prop) (x : Sig × List AV) : Prop := Want P n x.2 (ldD s d K)
def vcLend (P : Program) (s : St) (d : Option Nat) (n : Nat) (args : List AV) (K : St → Prop) : Prop := onSome (frzAll s.σ args) (ldC' P s d n K)

section
variable {P : Program} {rd : RD} {φ φ' : Phi} {O : Nat → Prop} {w0 w : World} {σ σ' : Sig} {N : NF} {s : St} {a : Act}
theorem prepG_sound (hN : Carries N φ φ') : ∀ {ms : List Bool} {cs cs' : List AV} {vs : List Value} {rd : RD} {σ σ' : Sig}, HRel rd φ O w0 σ w → PW rd φ cs vs → prepG N σ ms cs = some (σ', cs') →
    Frozen rd φ O w0 w σ' fun rd' => PW rd' φ' cs' vs
  | [], [], cs', vs, rd, σ, σ', h, hp, hf => by
    cases hf
    have : vs = [] := List.eq_nil_of_length_eq_zero hp.1.symm
    subst this
    exact ⟨rd, .refl, h, PW.nil⟩
  | true :: ms, c :: cs, cs', vs, rd, σ, σ', h, hp, hf => by
    obtain ⟨v, us, rfl, hr, hp⟩ := hp.uncons
    simp only [prepG] at hf
    obtain ⟨⟨σ1, cs1⟩, h1, hf⟩ := Option.map_eq_some_iff.1 hf
    cases hf
    obtain ⟨rd1, x1, k1, v1⟩ := prepG_sound hN h hp h1
    exact ⟨rd1, x1, k1, PW.cons (mapA_rel hN (hr.mono x1.1 (fun _ _ _ _ h => h))) v1⟩
  | false :: ms, c :: cs, cs', vs, rd, σ, σ', h, hp, hf => by
    obtain ⟨v, us, rfl, hr, hp⟩ := hp.uncons
    simp only [prepG] at hf
    obtain ⟨⟨σ1, c1⟩, h1, hf⟩ := Option.bind_eq_some_iff.1 hf
    obtain ⟨⟨σ2, cs1⟩, h2, hf⟩ := Option.map_eq_some_iff.1 hf
    cases hf
    obtain ⟨rd1, x1, k1, v1⟩ := frz_sound h hr h1
    obtain ⟨rd2, x2, k2, v2⟩ := prepG_sound hN k1 (hp.mono x1.1 (fun _ _ _ _ h => h)) h2
    exact ⟨rd2, x1.trans x2, k2, PW.cons ((v1 φ').mono x2.1 (fun _ _ _ _ h => h)) v2⟩
  | [], _ :: _, _, _, _, _, _, _, _, hf => by cases hf
  | true :: _, [], _, _, _, _, _, _, _, hf => by cases hf
  | false :: _, [], _, _, _, _, _, _, _, hf => by cases hf

theorem Rel.putG (h : Rel rd φ O w0 s a w) {dst : Option Nat} {v : AV} {σ : Sig} {b : Bool} {K : St → Prop} (hk : E.put s dst v σ b K) {rd' : RD} (hx : ∀ b o v, rd b o = some v → rd' b o = some v) {φ' : Phi} {w' : World} {cv : Value} (hh : HRel rd' φ' O w0 σ w')
    (hv : VRel rd' φ' v cv) (h4 : ∀ r g p pl, φ r g p = some pl → φ' r g p = some pl) (hg : ∀ r g p, φ' r g p ≠ none → g < bmp b s.G) :
    ∃ s', K s' ∧ Rel rd' φ' O w0 s' (a.put dst cv) w' := by
  unfold E.put at hk
  cases dst with
  | none => exact ⟨_, hk, hh, fun t v hl => (h.tm t v hl).mono hx h4, h.size, h.defers, hg⟩
  | some d =>
    simp only at hk
    split at hk
    · rename_i hd
      have hd : d < s.n := Nat.le_of_ble_eq_true hd
      refine ⟨_, hk, hh, fun t u hl => ?_, by simp [Act.put, h.size], h.defers, hg⟩
      rw [getD_set _ _ _ _ (by rw [h.size]; exact hd)]
      simp only [lookA_cons] at hl
      by_cases ht : d = t
      · rw [if_pos ht] at hl
        rw [if_pos ht.symm]
        cases hl
        exact hv
      · rw [if_neg ht] at hl
        rw [if_neg (fun e => ht e.symm)]
        exact (h.tm t u hl).mono hx h4
    · exact hk.elim

theorem phiM_gen {L : Asc} {d G : Nat} (hgen : ∀ r g p, φ r g p ≠ none → g < G) (halive : ∀ x ∈ L, ∃ row, rowAt σ x.1.1 x.1.2 [] = some row) (h : HRel rd φ O w0 σ w) : ∀ r g p, phiM φ φ' L d G r g p ≠ none → g < G + 1 := by
  intro r g p hp
  unfold phiM at hp
  split at hp
  · rename_i x hx
    obtain ⟨row, hrow⟩ := halive _ (lkN_mem hx)
    obtain ⟨pl, h1, _⟩ := h.rows _ _ _ _ hrow
    have := hgen _ _ [] (show φ r g [] ≠ none by rw [h1]; simp)
    omega
  · split at hp
    · rename_i hg
      have hg := of_decide_eq_true hg
      omega
    · have := hgen _ _ _ hp
      omega

theorem vcMove_sound {rd0 : REnv} (hx0 : ExtE O w0 rd0 rd φ) {d : Option Nat} {n : Nat} {ms : List Bool} {args : List AV} {K : St → Prop} (h : Rel rd φ O w0 s a w) {cargs : Array Value} (hargs : PW rd φ args cargs.toList) (hv : vcMove P s d n ms args K) :
    FnOK P n ∧ Calls P n cargs w fun e w' => ∃ v s', e = .returned v ∧ K s' ∧ RelE rd0 O w0 s' (a.put d v) w' := by
  unfold vcMove mvA at hv
  generalize disc false s.σ 1 30 1000000 [] (nmsM ms args) = L at hv
  obtain ⟨⟨hd, hin⟩, hv⟩ := hv
  obtain ⟨⟨σ1, args'⟩, hp, hv⟩ := onSome_elim hv
  obtain ⟨σin, hr, hv⟩ := onSome_elim hv
  obtain ⟨res, σout, ⟨hfn, hc⟩, hk, hv⟩ := hv
  obtain ⟨σ2, ho, hv⟩ := onSome_elim hv
  refine ⟨hfn, ?_⟩
  have hL : ∀ x ∈ L, 1000000 ≤ x.2.1 ∧ x.2.2 = 0 := fun x hx => by
    have := List.all_eq_true.1 hin x hx
    simp only [Bool.and_eq_true] at this
    exact ⟨Nat.le_of_ble_eq_true this.1, Nat.eq_of_beq_eq_true this.2⟩
  obtain ⟨rd1, x1, h1, p1⟩ := prepG_sound (φ' := phiL φ L) (phiL_carries hd) h.heap hargs hp
  have h2 := (h1.renL hd hr).rebase
  refine (hc w rd1 (phiL φ L) cargs (fun r g p hne => ?_) h2 p1).mono ?_
  · unfold phiL at hne
    split at hne
    · rename_i x hx
      exact (hL _ (lkB_mem hx)).2
    · exact absurd rfl hne
  · rintro e w' ⟨v, rd', φ', rfl, x2, hm, h3, hres⟩
    obtain ⟨j1, j2, j3, j4⟩ := h1.joinM (d := d.getD 0) (G := s.G) h.gen hL hd hr hk x2 hm h3 ho
    obtain ⟨s', hs, hrel⟩ := h.putG hv (fun b o v e => x2.1 _ _ _ (x1.1 _ _ _ e)) j1 (mapT_rel j3 hres) j2 (fun r g p hp => by
      have := phiM_gen h.gen (renS_alive hr) h1 r g p hp
      simpa [bmp] using this)
    exact ⟨v, s', rfl, hs, rd', _, hx0.step (x1.trans j4) j2, hrel⟩

theorem VRel.of_plainC {rd rd' : RD} {c : AV} {v : Value} (h : VRel rd φ c v) (hp : plainC c = true) : VRel rd' φ c v := by
  cases h with
  | dead v => exact .dead v
  | sc v h => exact .sc v h
  | nilS => exact .nilS
  | blk r g p sz off len pl A hφ hA hl => exact .blk r g p sz off len pl A hφ hA hl
  | ptr r g p sz i o pl b q hφ had => exact .ptr r g p sz i o pl b q hφ had
  | ro0 sz A cap => exact .ro0 sz A cap
  | ro sz es b q cap f hc hs hr hv =>
    cases es with
    | nil => exact .ro0 sz _ _
    | cons => cases hp
  | rp => cases hp
  | agg => cases hp
  | tup => cases hp
  | it => cases hp
theorem plainL_spec : ∀ {cs : List AV}, plainL cs = true → ∀ c ∈ cs, plainC c = true
  | [], _, c, hc => by simp at hc
  | x :: cs, h, c, hc => by
    simp only [plainL] at h
    split at h
    · rename_i hx
      rcases List.mem_cons.1 hc with rfl | hc
      · exact hx
      · exact plainL_spec h c hc
    · cases h
theorem VRel.of_plainA {rd rd' : RD} {c : AV} {v : Value} (h : VRel rd φ c v) (hp : plainA c = true) : VRel rd' φ c v := by
  cases c with
  | agg cs =>
    obtain ⟨arr, rfl, hq⟩ := PW.of_agg h
    refine PW.agg ⟨hq.1, fun j c hc => ?_⟩
    obtain ⟨u, hu, hr⟩ := hq.2 j c hc
    exact ⟨u, hu, hr.of_plainC (plainL_spec hp c (List.mem_of_getElem? hc))⟩
  | _ => exact h.of_plainC hp
theorem plainAL_spec : ∀ {cs : List AV}, plainAL cs = true → ∀ c ∈ cs, plainA c = true
  | [], _, c, hc => by simp at hc
  | x :: cs, h, c, hc => by
    simp only [plainAL] at h
    split at h
    · rename_i hx
      rcases List.mem_cons.1 hc with rfl | hc
      · exact hx
      · exact plainAL_spec h c hc
    · cases h
theorem VRel.of_plainT {rd rd' : RD} {c : AV} {v : Value} (h : VRel rd φ c v) (hp : plainT c = true) : VRel rd' φ c v := by
  cases c with
  | tup cs =>
    obtain ⟨arr, rfl, hq⟩ := PW.of_tup h
    refine PW.tup ⟨hq.1, fun j c hc => ?_⟩
    obtain ⟨u, hu, hr⟩ := hq.2 j c hc
    exact ⟨u, hu, hr.of_plainA (plainAL_spec hp c (List.mem_of_getElem? hc))⟩
  | _ => exact h.of_plainA hp
theorem plainRf_spec : ∀ {l : List (List Nat × Row)}, plainRf l = true → ∀ x ∈ l, 2 ≤ x.2.fl
  | [], _, c, hc => by simp at hc
  | x :: cs, h, c, hc => by
    simp only [plainRf] at h
    split at h
    · rename_i hx
      rcases List.mem_cons.1 hc with rfl | hc
      · exact Nat.le_of_ble_eq_true hx
      · exact plainRf_spec h c hc
    · cases h
theorem rowAt_sigOf {rf : List (List Nat × Row)} {r g : Nat} {p : List Nat} {row : Row} (h : rowAt (sigOf rf) r g p = some row) : ∃ q, (q, row) ∈ rf := by
  cases rf with
  | nil => simp [sigOf, rowAt, lookA] at h
  | cons x l =>
    simp only [sigOf, rowAt, lookA_cons, lookA] at h
    split at h
    · rename_i y hy
      split at hy
      · cases hy
        split at h
        · exact lookF_mem h
        · cases h
      · cases hy
    · cases h

theorem vcLend_sound {rd0 : REnv} (hx0 : ExtE O w0 rd0 rd φ) {d : Option Nat} {n : Nat} {args : List AV} {K : St → Prop} (h : Rel rd φ O w0 s a w) {cargs : Array Value} (hargs : PW rd φ args cargs.toList) (hv : vcLend P s d n args K) :
    FnOK P n ∧ Calls P n cargs w fun e w' => ∃ v s', e = .returned v ∧ K s' ∧ RelE rd0 O w0 s' (a.put d v) w' := by
  unfold vcLend at hv
  obtain ⟨⟨σ1, args'⟩, hl, hv⟩ := onSome_elim hv
  obtain ⟨res, rf, ⟨hfn, hc⟩, ⟨hpl, hrf⟩, hk⟩ := hv
  refine ⟨hfn, ?_⟩
  obtain ⟨rd1, x1, h1, l1⟩ := frzAll_sound h.heap hargs hl
  have hfr : ∀ p, φ (d.getD 0) s.G p = none := fun p => by
    cases hp : φ (d.getD 0) s.G p with
    | none => rfl
    | some x => exact absurd (h.gen _ s.G p (by rw [hp]; simp)) (Nat.lt_irrefl _)
  refine (hc w rd1 cargs h1.rdok (l1 _)).mono ?_
  rintro e w' ⟨v, rd', ψ, rfl, x2, h2, h4⟩
  let rd2 : RD := fun b o => if b < w.heap.size then rd b o else rd' b o
  have hlt : ∀ b o v, rd b o = some v → b < w.heap.size := fun b o v e => cell_lt (k := o) (by rw [h.heap.rdok _ _ _ e]; rfl)
  have x3 : Ext (fun _ => False) w rd rd2 := ⟨fun b o v e => by simp only [rd2]; rw [if_pos (hlt _ _ _ e)]; exact e, fun b o hb _ => by simp only [rd2]; rw [if_pos hb]⟩
  have hnew : ∀ {r g p row pl b q}, rowAt (sigOf rf) r g p = some row → phi0 ψ r g p = some pl → pl.ad = some (b, q) → ¬ b < w.heap.size := fun e1 e2 e3 hb => by
    have := (h2.own _ _ _ _ _ _ _ e1 e2 e3).1
    rcases this with hh | hh
    · exact hh
    · omega
  have k2 : HRel rd2 (phi0 ψ) (fun _ => False) w (sigOf rf) w' := by
    refine ⟨?_, h2.sep, ?_, ?_, h2.own, h2.frame, h2.size, h2.os, h2.tape, h2.output⟩
    · intro r g p row hr
      obtain ⟨pl, hp, hok⟩ := h2.rows _ _ _ _ hr
      obtain ⟨q0, hq0⟩ := rowAt_sigOf hr
      have hfl := plainRf_spec hrf _ hq0
      refine ⟨pl, hp, hok.wide, hok.len, hok.kind, hok.nil, hok.room, fun b q had i j c hcc => ?_, fun ha => ⟨(hok.frz ha).1, fun b q had k hk => ?_⟩⟩
      · obtain ⟨u, hu, hrel⟩ := hok.cells b q had i j c hcc
        refine ⟨u, hu, hrel.of_plainC ?_⟩
        cases he : row.es[i]? with
        | none => rw [he] at hcc; cases hcc
        | some e' =>
          rw [he] at hcc
          have := (hok.kind e' (List.mem_of_getElem? he)).2 hfl c (List.mem_of_getElem? hcc)
          cases c <;> first | rfl | cases this
      · simp only [rd2]
        rw [if_neg (hnew hr hp had)]
        exact (hok.frz ha).2 b q had k hk
    · intro b o v e
      simp only [rd2] at e
      split at e
      · rename_i hb
        rw [World.cell?_of_block (h2.frame b hb (fun h => h))]
        exact h.heap.rdok _ _ _ e
      · exact h2.rdok _ _ _ e
    · intro r g p row pl b q e1 e2 e3 k hor
      simp only [rd2]
      rw [if_neg (hnew e1 e2 e3)]
      exact h2.rdsep _ _ _ _ _ _ _ e1 e2 e3 k hor
  obtain ⟨j1, j2⟩ := h.heap.join hfr x3 k2 (fun p row hp => by
    obtain ⟨q, hq⟩ := lookF_mem hp
    have := plainRf_spec hrf _ hq
    simp only at this
    omega)
  have hr := nm_rel (φ := φ) (d := d.getD 0) (G := s.G) (h4.of_plainT (rd' := rd2) hpl)
  have x4 : Ext O w0 rd rd2 := ⟨x3.1, fun b k hb hO => x3.2 b k (Nat.lt_of_lt_of_le hb h.heap.size) (fun h => h)⟩
  obtain ⟨s', hs, hrel⟩ := h.put hk x3.1 j1 hr j2 (fun r g p hp => (phiSet_new r g p hp).imp id fun h => ⟨rfl, h⟩)
  exact ⟨v, s', rfl, hs, rd2, _, hx0.step x4 j2, hrel⟩
end

end Go.Proofs.Ytkhemolkhegppaa.E
