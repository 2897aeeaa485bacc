/-
  E, part R: a walk that ends somewhere ends at one place; so a walk to a set of results gives a contract with one of them.
-/
import Derived.Test.YtkhemolkhegppaaEL
namespace Go.Proofs.Ytkhemolkhegppaa.E
open Go Go.RowKit
set_option linter.unusedVariables false

/-- Code without drawn choices and without loops over letters. -/
def noOr : DT → Bool
  | .nil => true
  | .pu _ t => noOr t
  | .ef _ _ t => noOr t
  | .or _ _ => false
def smp : SC J → Bool
  | .skip | .ret | .exit _ | .reg _ => true
  | .seq a b => smp a && smp b
  | .sq _ a b => smp a && smp b
  | .ct a b => smp a && smp b
  | .cond _ x y => smp x && smp y
  | .block _ c => smp c
  | .loop c => smp c
  | .lp _ c => smp c
  | .dr t _ _ _ => noOr t
  | .rng .. => false
  | .bad => false
def At (e : Exit) (s : St) : Exit → St → Prop := fun e1 s1 => e1 = e ∧ s1 = s

section
variable {P : Program}
theorem put_one {s : St} {d : Option Nat} {v : AV} {σ : Sig} {b : Bool} {K : St → Prop} (h : put s d v σ b K) : ∃ s', K s' ∧ put s d v σ b (· = s') := by
  unfold put at h ⊢
  cases d with
  | none => exact ⟨_, h, rfl⟩
  | some d =>
    simp only at h ⊢
    split at h
    · rename_i hb
      exact ⟨_, h, rfl⟩
    · cases h
theorem sOp2_one {o : SO} {s : St} {K : St → Prop} (h : sOp2 P o s K) : ∃ s', K s' ∧ sOp2 P o s (· = s') := by
  obtain ⟨v, σ', b, h1, h2⟩ := h
  obtain ⟨s', k1, k2⟩ := put_one h2
  exact ⟨s', k1, v, σ', b, h1, k2⟩
theorem sStep2_one {o : SO} {s : St} {K : St → Prop} (h : sStep2 P o s K) : ∃ s', K s' ∧ sStep2 P o s (· = s') := by
  unfold sStep2 at h ⊢
  split at h
  · exact sOp2_one h
  · rename_i t w hg
    unfold sG at h ⊢
    split at h
    · rename_i b hb
      cases b <;> cases w <;> simp only [Br_true, Br_false] at h ⊢ <;> first | exact sOp2_one h | exact put_one h
    · exact put_one h
    · cases h
theorem sOps_one : ∀ {l : List SO} {s : St} {K : St → Prop}, sOps P l s K → ∃ s', K s' ∧ sOps P l s (· = s')
  | [], s, K, h => ⟨s, h, rfl⟩
  | o :: l, s, K, h => by
    obtain ⟨s1, k1, h1⟩ := sStep2_one h
    obtain ⟨s2, k2, h2⟩ := sOps_one k1
    exact ⟨s2, k2, sStep2_mono (fun s hs => by subst hs; exact h2) h1⟩
theorem sPure_one {o : SO} {s : St} {K : St → Prop} (h : sPure P o s K) : ∃ s', K s' ∧ sPure P o s (· = s') := by
  obtain ⟨v, h1, h2⟩ := onSome_elim h
  obtain ⟨s', k1, k2⟩ := put_one h2
  exact ⟨s', k1, onSome_intro h1 k2⟩
theorem sT_one {l : List SO} : ∀ {t : DT} {s : St} {K : St → Prop}, noOr t = true → sT P l t s K → ∃ s', K s' ∧ sT P l t s (· = s')
  | .nil, s, K, _, h => ⟨s, h, rfl⟩
  | .pu i t, s, K, hn, h => by
    unfold sT at h ⊢
    split at h
    · cases h
    · rename_i o ho
      obtain ⟨s1, k1, h1⟩ := sPure_one h.2
      obtain ⟨s2, k2, h2⟩ := sT_one (t := t) hn k1
      exact ⟨s2, k2, h.1, sPure_mono (fun s hs => by subst hs; exact h2) h1⟩
  | .ef i rc t, s, K, hn, h => by
    unfold sT at h ⊢
    split at h
    · cases h
    · rename_i o ho
      obtain ⟨s1, k1, h1⟩ := sStep2_one h
      obtain ⟨s2, k2, h2⟩ := sT_one (t := t) hn k1.2
      exact ⟨s2, k2, sStep2_mono (fun s hs => by subst hs; exact ⟨k1.1, h2⟩) h1⟩
  | .or a b, s, K, hn, h => by cases hn
theorem sv_mono : ∀ {c : SC SO} {s : St} {Q Q' : Exit → St → Prop}, (∀ e s, Q e s → Q' e s) → sv P c s Q → sv P c s Q'
  | .skip, s, Q, Q', h, hk => h _ _ hk
  | .ret, s, Q, Q', h, hk => h _ _ hk
  | .exit id, s, Q, Q', h, hk => h _ _ hk
  | .seq a b, s, Q, Q', h, hk => by
    rcases hk with hk | hk
    · exact .inl (sv_mono (fun e s hs => by
        cases e with
        | normal => obtain ⟨s'', hw, hs⟩ := hs; exact ⟨s'', hw, sv_mono h hs⟩
        | _ => exact h _ _ hs) hk)
    · exact .inr fun c hc => (hk c hc).mono h
  | .sq ks a b, s, Q, Q', h, hk => sv_mono (c := a) (fun e s hs => by
      cases e with
      | normal => obtain ⟨s'', hw, hs⟩ := hs; exact ⟨s'', hw, sv_mono h hs⟩
      | _ => exact h _ _ hs) hk
  | .ct a b, s, Q, Q', h, hk => sv_mono (c := a) (fun e s hs => by
      cases e with
      | normal => obtain ⟨s'', hw, hs⟩ := hs; exact ⟨s'', hw, sv_mono h hs⟩
      | _ => exact h _ _ hs) hk
  | .cond c x y, s, Q, Q', h, hk => by
    simp only [sv] at hk ⊢
    split at hk
    · rename_i b hb
      cases b with
      | true => exact sv_mono h hk
      | false => exact sv_mono h hk
    · cases hk
  | .block id c, s, Q, Q', h, hk => sv_mono (c := c) (fun e s hs => by
      cases e with
      | exit id' =>
        simp only [blockK] at hs ⊢
        split at hs <;> exact h _ _ hs
      | _ => exact h _ _ hs) hk
  | .loop c, s, Q, Q', h, hk => by
    obtain ⟨I, n, s1, h1, h2, h3⟩ := hk
    exact ⟨I, n, s1, h1, h2, fun m s2 hI => sv_mono (c := c) (fun e s hs => by
      cases e with
      | normal => exact hs
      | _ => exact h _ _ hs) (h3 m s2 hI)⟩
  | .lp _ c, s, Q, Q', h, hk => by
    obtain ⟨I, n, s1, h1, h2, h3⟩ := hk
    exact ⟨I, n, s1, h1, h2, fun m s2 hI => sv_mono (c := c) (fun e s hs => by
      cases e with
      | normal => exact hs
      | _ => exact h _ _ hs) (h3 m s2 hI)⟩
  | .reg l, s, Q, Q', h, hk => sOps_mono (fun s hs => h _ _ hs) hk
  | .dr t anc l af, s, Q, Q', h, hk => by
    obtain ⟨h1, t', anc', h2, h3⟩ := hk
    exact ⟨h1, t', anc', h2, sT_mono (fun s hs => h _ _ hs) h3⟩
  | .rng .., _, _, _, _, hk => by cases hk
  | .bad, _, _, _, _, hk => by cases hk

theorem seq_one {a b : SC SO} {s : St} {Q : Exit → St → Prop} {e1 : Exit} {s1 : St} (h1 : sv P a s (At e1 s1)) (hq : thenK Q (fun s' => ∃ s'', Weak s' s'' ∧ ∃ e s2, Q e s2 ∧ sv P b s'' (At e s2)) e1 s1) :
    ∃ e s2, Q e s2 ∧ sv P a s (thenK (At e s2) fun s' => ∃ s'', Weak s' s'' ∧ sv P b s'' (At e s2)) := by
  cases e1 with
  | normal =>
    obtain ⟨s'', hw, e, s2, hQ, h2⟩ := hq
    refine ⟨e, s2, hQ, sv_mono (fun e' s' hs => ?_) h1⟩
    obtain ⟨rfl, rfl⟩ := hs
    exact ⟨s'', hw, h2⟩
  | ret => exact ⟨_, _, hq, sv_mono (fun e' s' hs => by obtain ⟨rfl, rfl⟩ := hs; exact ⟨rfl, rfl⟩) h1⟩
  | exit id => exact ⟨_, _, hq, sv_mono (fun e' s' hs => by obtain ⟨rfl, rfl⟩ := hs; exact ⟨rfl, rfl⟩) h1⟩
  | _ => exact ⟨_, _, hq, sv_mono (fun e' s' hs => by obtain ⟨rfl, rfl⟩ := hs; exact ⟨rfl, rfl⟩) h1⟩
theorem loop_one {c : SC SO} {Q : Exit → St → Prop} {I : Nat → St → Prop} (h : ∀ m s2, I m s2 → ∃ e s', thenK Q (fun s3 => ∃ m' s4, m' < m ∧ Weak s3 s4 ∧ I m' s4) e s' ∧ sv P c s2 (At e s')) :
    ∀ m s2, I m s2 → ∃ e s', Q e s' ∧ ∃ (J : Nat → St → Prop) (n : Nat), J n s2 ∧ ∀ k s, J k s → sv P c s (thenK (At e s') fun s3 => ∃ m' s4, m' < k ∧ Weak s3 s4 ∧ J m' s4) := by
  intro m
  induction m using Nat.strongRecOn with
  | _ m ih =>
    intro s2 hI
    obtain ⟨e1, s1, hq, h1⟩ := h m s2 hI
    have stop : ∀ {e1 : Exit} {s1 : St}, e1 ≠ .normal → Q e1 s1 → sv P c s2 (At e1 s1) → ∃ e s', Q e s' ∧ ∃ (J : Nat → St → Prop) (n : Nat), J n s2 ∧ ∀ k s, J k s → sv P c s (thenK (At e s') fun s3 => ∃ m' s4, m' < k ∧ Weak s3 s4 ∧ J m' s4) := by
      intro e1 s1 hne hQ h1
      refine ⟨e1, s1, hQ, fun k s => s = s2, 0, rfl, fun k s hs => ?_⟩
      subst hs
      refine sv_mono (fun e' s' hs => ?_) h1
      obtain ⟨rfl, rfl⟩ := hs
      cases e' with
      | normal => exact absurd rfl hne
      | _ => exact ⟨rfl, rfl⟩
    cases e1 with
    | normal =>
      obtain ⟨m', s4, hlt, hw, hI4⟩ := hq
      obtain ⟨e, s', hQ, J, n, hJ, hstep⟩ := ih m' hlt s4 hI4
      refine ⟨e, s', hQ, fun k s => (k = n + 1 ∧ s = s2) ∨ J k s, n + 1, .inl ⟨rfl, rfl⟩, fun k s hs => ?_⟩
      rcases hs with ⟨rfl, rfl⟩ | hs
      · refine sv_mono (fun e' s' hs => ?_) h1
        obtain ⟨rfl, rfl⟩ := hs
        exact ⟨n, s4, by omega, hw, .inr hJ⟩
      · refine sv_mono (fun e' s' hs => ?_) (hstep k s hs)
        cases e' with
        | normal => obtain ⟨m', s4, h1, h2, h3⟩ := hs; exact ⟨m', s4, h1, h2, .inr h3⟩
        | _ => exact hs
    | ret => exact stop (by simp) hq h1
    | exit id => exact stop (by simp) hq h1
    | _ => exact stop (by simp) hq h1
theorem jv_one : ∀ (c : SC J) {s : St} {Q : Exit → St → Prop}, smp c = true → jv P c s Q → ∃ e s', Q e s' ∧ sv P (exC c) s (At e s')
  | .skip, s, Q, _, h => ⟨.normal, s, h, rfl, rfl⟩
  | .ret, s, Q, _, h => ⟨.ret, s, h, rfl, rfl⟩
  | .exit id, s, Q, _, h => ⟨.exit id, s, h, rfl, rfl⟩
  | .seq a b, s, Q, hs, h => by
    simp only [smp, Bool.and_eq_true] at hs
    obtain ⟨e1, s1, hq, h1⟩ := jv_one a hs.1 h
    obtain ⟨e, s2, hQ, h2⟩ := seq_one (b := exC b) (Q := Q) h1 (by
      cases e1 with
      | normal => exact ⟨s1, .refl s1, jv_one b hs.2 hq⟩
      | _ => exact hq)
    exact ⟨e, s2, hQ, .inl h2⟩
  | .sq ks a b, s, Q, hs, h => by
    simp only [smp, Bool.and_eq_true] at hs
    obtain ⟨e1, s1, hq, h1⟩ := jv_one a hs.1 h
    obtain ⟨e, s2, hQ, h2⟩ := seq_one (b := exC b) (Q := Q) h1 (by
      cases e1 with
      | normal => exact ⟨_, .keep ks s1, jv_one b hs.2 hq⟩
      | _ => exact hq)
    exact ⟨e, s2, hQ, .inl h2⟩
  | .ct a b, s, Q, hs, h => by
    simp only [smp, Bool.and_eq_true] at hs
    obtain ⟨e1, s1, hq, h1⟩ := jv_one a hs.1 h
    obtain ⟨e, s2, hQ, h2⟩ := seq_one (b := exC b) (Q := Q) h1 (by
      cases e1 with
      | normal => obtain ⟨s'', hw, hb⟩ := hq; exact ⟨s'', hw, jv_one b hs.2 hb⟩
      | _ => exact hq)
    exact ⟨e, s2, hQ, .inl h2⟩
  | .cond c x y, ⟨n, tm, σ, G⟩, Q, hs, h => by
    simp only [smp, Bool.and_eq_true] at hs
    simp only [jv] at h
    simp only [exC, sv, ev_evT]
    split at h
    · rename_i b hb
      cases b with
      | true => exact jv_one x hs.1 h
      | false => exact jv_one y hs.2 h
    · cases h
  | .block id c, s, Q, hs, h => by
    obtain ⟨e1, s1, hq, h1⟩ := jv_one c (Q := blockK id Q) hs h
    cases e1 with
    | exit id' =>
      simp only [blockK] at hq
      split at hq
      · rename_i hid
        refine ⟨_, _, hq, sv_mono (c := exC c) (fun e' s' hs => ?_) h1⟩
        obtain ⟨rfl, rfl⟩ := hs
        simp only [blockK]
        rw [hid]
        exact ⟨rfl, rfl⟩
      · rename_i hid
        refine ⟨_, _, hq, sv_mono (c := exC c) (fun e' s' hs => ?_) h1⟩
        obtain ⟨rfl, rfl⟩ := hs
        simp only [blockK]
        rw [hid]
        exact ⟨rfl, rfl⟩
    | normal => exact ⟨_, _, hq, sv_mono (c := exC c) (fun e' s' hs => by obtain ⟨rfl, rfl⟩ := hs; exact ⟨rfl, rfl⟩) h1⟩
    | ret => exact ⟨_, _, hq, sv_mono (c := exC c) (fun e' s' hs => by obtain ⟨rfl, rfl⟩ := hs; exact ⟨rfl, rfl⟩) h1⟩
    | _ => exact ⟨_, _, hq, sv_mono (c := exC c) (fun e' s' hs => by obtain ⟨rfl, rfl⟩ := hs; exact ⟨rfl, rfl⟩) h1⟩
  | .loop c, s, Q, hs, h => by
    obtain ⟨I, n, s1, h1, h2, h3⟩ := h
    obtain ⟨e, s', hQ, J, k, hJ, hstep⟩ := loop_one (fun m s2 hI => jv_one c hs (h3 m s2 hI)) n s1 h2
    exact ⟨e, s', hQ, J, k, s1, h1, hJ, hstep⟩
  | .lp ks c, s, Q, hs, h => by
    obtain ⟨I, n, s1, h1, h2, h3⟩ := h
    obtain ⟨e, s', hQ, J, k, hJ, hstep⟩ := loop_one (fun m s2 hI => jv_one c hs (h3 m s2 hI)) n s1 h2
    exact ⟨e, s', hQ, J, k, s1, h1, hJ, hstep⟩
  | .reg l, s, Q, _, h => by
    obtain ⟨s', k1, k2⟩ := sOps_one (jOps_sOps l s _ h)
    exact ⟨.normal, s', k1, sOps_mono (fun s hs => ⟨rfl, hs⟩) k2⟩
  | .dr t anc l af, s, Q, hs, h => by
    obtain ⟨s', k1, k2⟩ := sT_one hs (jT_sT l t s _ h.2)
    exact ⟨.normal, s', k1, h.1.2, t, anc, h.1.1, sT_mono (fun s hs => ⟨rfl, hs⟩) k2⟩
  | .rng .., _, _, hs, _ => by cases hs
  | .bad, _, _, hs, _ => by cases hs

/-- A function's end, somewhere in a set. -/
def retX (P : Program) (rs : List ResultVar) (Post : AV → Sig → Prop) : Exit → St → Prop
  | .ret, s => ∃ res σout, Post res σout ∧ RetM P rs s res σout
  | .normal, s => ∃ res σout, Post res σout ∧ RetM P rs s res σout
  | _, _ => False
theorem retX_ret {rs : List ResultVar} {Post : AV → Sig → Prop} {s : St} : retX P rs Post .ret s = ∃ res σout, Post res σout ∧ RetM P rs s res σout := rfl
theorem retX_normal {rs : List ResultVar} {Post : AV → Sig → Prop} {s : St} : retX P rs Post .normal s = ∃ res σout, Post res σout ∧ RetM P rs s res σout := rfl
theorem callX_of_jv {n : Nat} {c : SC J} {N : Nat} {rs : List ResultVar} (hb : BodyOK P n c N rs) (hc : smp c = true)
    {σin : Sig} {args : List AV} (Post : AV → Sig → Prop) (hlen : Nat.ble args.length N = true) (hv : jv P c ⟨N, enumA 0 args, σin, 1⟩ (retX P rs Post)) : ∃ res σout, Post res σout ∧ CallM P n σin args res σout := by
  obtain ⟨fn, hf, hb, hn, rfl, rfl⟩ := hb
  cases hbody : fn.body with
  | none => rw [hbody] at hb; cases hb
  | some code =>
    rw [hbody] at hb
    have e : strip code = exC c := Option.some.inj hb
    obtain ⟨e1, s1, hq, h1⟩ := jv_one c hc hv
    have key : ∀ {res σout}, RetM P fn.results.toList s1 res σout → (e1 = .ret ∨ e1 = .normal) → CallM P n σin args res σout := by
      intro res σout hr he
      refine callM_of_vc hf hbody hn (Nat.le_of_ble_eq_true hlen) (sv_vc code (fun _ _ h => h) (e ▸ sv_mono (fun e' s' hs => ?_) h1))
      obtain ⟨rfl, rfl⟩ := hs
      rcases he with rfl | rfl <;> exact hr
    cases e1 with
    | ret => obtain ⟨res, σout, hp, hr⟩ := hq; exact ⟨res, σout, hp, key hr (.inl rfl)⟩
    | normal => obtain ⟨res, σout, hp, hr⟩ := hq; exact ⟨res, σout, hp, key hr (.inr rfl)⟩
    | _ => cases hq
end
/-- The end of such a walk: where one is. -/
def RetAt (P : Program) (rs : List ResultVar) (Post : AV → Sig → Prop) (s : St) : Prop := ∃ res σout, Post res σout ∧ RetM P rs s res σout
theorem retX_ret' {P : Program} {rs : List ResultVar} {Post : AV → Sig → Prop} {s : St} : retX P rs Post .ret s = RetAt P rs Post s := rfl
theorem retX_normal' {P : Program} {rs : List ResultVar} {Post : AV → Sig → Prop} {s : St} : retX P rs Post .normal s = RetAt P rs Post s := rfl
theorem RetAt.intro {P : Program} {rs : List ResultVar} {Post : AV → Sig → Prop} {s : St} (res : AV) (σout : Sig) (h : Post res σout) (k : RetM P rs s res σout) : RetAt P rs Post s := ⟨res, σout, h, k⟩
attribute [go_sem] retX_ret' retX_normal'
/-! A cut behind a conditional statement -/
def MK (ks : List Nat) (us : List (Nat × Nat)) (M : St → Prop) (s : St) : Prop := M (headS ks (nilN us s))
theorem MK_eq {ks : List Nat} {us : List (Nat × Nat)} {M : St → Prop} {n G : Nat} {tm : List (Nat × AV)} {σ : Sig} : MK ks us M ⟨n, tm, σ, G⟩ = M (headS ks (nilN us ⟨n, tm, σ, G⟩)) := rfl
theorem ct_intro {P : Program} {a b : SC J} {s : St} {Q : Exit → St → Prop} (ks : List Nat) (us : List (Nat × Nat)) (M : St → Prop) (h1 : jv P a s (thenK Q (MK ks us M))) (h2 : ∀ s', M s' → jv P b s' Q) : jv P (.ct a b) s Q :=
  jv_mono a (fun e s hs => by
    cases e with
    | normal => exact ⟨_, (Weak.nilN us s).trans (.head ks _), h2 _ hs⟩
    | _ => exact hs) h1
attribute [go_sem] MK_eq
end Go.Proofs.Ytkhemolkhegppaa.E
