/-
  E, part K: the contract out of the code in words; the rules, for the simplifier.
-/
import Derived.Test.YtkhemolkhegppaaEJ
namespace Go.Proofs.Ytkhemolkhegppaa.E
open Go Go.RowKit
set_option linter.unusedVariables false

theorem strip_seq : ∀ {c : Code} {A B : SC SO}, strip c = .seq A B → ∃ a b, c = .seq a b ∧ strip a = A ∧ strip b = B
  | .seq a b, A, B, h => by cases h; exact ⟨a, b, rfl, rfl, rfl⟩
  | .region _ ops d, A, B, h => by cases d <;> cases h
  | .skip, A, B, h | .ret, A, B, h | .exit _, A, B, h | .cond .., A, B, h | .block .., A, B, h | .loop _, A, B, h | .rangeFunc .., A, B, h | .scope _, A, B, h | .label _, A, B, h | .goto _, A, B, h | .refuse _, A, B, h => by cases h
theorem strip_reg : ∀ {c : Code} {L : List SO}, strip c = .reg L → ∃ i ops, c = .region i ops false ∧ soL ops ops.toList = L
  | .region i ops d, L, h => by
    cases d with
    | true => cases h
    | false => cases h; exact ⟨i, ops, rfl, rfl⟩
  | .seq .., L, h | .skip, L, h | .ret, L, h | .exit _, L, h | .cond .., L, h | .block .., L, h | .loop _, L, h | .rangeFunc .., L, h | .scope _, L, h | .label _, L, h | .goto _, L, h | .refuse _, L, h => by cases h
theorem strip_block : ∀ {c : Code} {id : Nat} {A : SC SO}, strip c = .block id A → ∃ a, c = .block id a ∧ strip a = A
  | .block _ a, id, A, h => by cases h; exact ⟨a, rfl, rfl⟩
  | .region _ ops d, id, A, h => by cases d <;> cases h
  | .seq .., id, A, h | .skip, id, A, h | .ret, id, A, h | .exit _, id, A, h | .cond .., id, A, h | .loop _, id, A, h | .rangeFunc .., id, A, h | .scope _, id, A, h | .label _, id, A, h | .goto _, id, A, h | .refuse _, id, A, h => by cases h
theorem strip_loop : ∀ {c : Code} {A : SC SO}, strip c = .loop A → ∃ a, c = .loop a ∧ strip a = A
  | .loop a, A, h => by cases h; exact ⟨a, rfl, rfl⟩
  | .region _ ops d, A, h => by cases d <;> cases h
  | .seq .., A, h | .skip, A, h | .ret, A, h | .exit _, A, h | .cond .., A, h | .block .., A, h | .rangeFunc .., A, h | .scope _, A, h | .label _, A, h | .goto _, A, h | .refuse _, A, h => by cases h
theorem strip_cond : ∀ {c : Code} {x : Operand} {A B : SC SO}, strip c = .cond x A B → ∃ a b, c = .cond x a b ∧ strip a = A ∧ strip b = B
  | .cond _ a b, x, A, B, h => by cases h; exact ⟨a, b, rfl, rfl, rfl⟩
  | .region _ ops d, x, A, B, h => by cases d <;> cases h
  | .seq .., x, A, B, h | .skip, x, A, B, h | .ret, x, A, B, h | .exit _, x, A, B, h | .block .., x, A, B, h | .loop _, x, A, B, h | .rangeFunc .., x, A, B, h | .scope _, x, A, B, h | .label _, x, A, B, h | .goto _, x, A, B, h | .refuse _, x, A, B, h => by cases h
theorem strip_skip : ∀ {c : Code}, strip c = .skip → c = .skip
  | .skip, h => rfl
  | .region _ ops d, h => by cases d <;> cases h
  | .seq .., h | .ret, h | .exit _, h | .cond .., h | .block .., h | .loop _, h | .rangeFunc .., h | .scope _, h | .label _, h | .goto _, h | .refuse _, h => by cases h
theorem strip_exit : ∀ {c : Code} {id : Nat}, strip c = .exit id → c = .exit id
  | .exit _, id, h => by cases h; rfl
  | .region _ ops d, id, h => by cases d <;> cases h
  | .seq .., id, h | .ret, id, h | .skip, id, h | .cond .., id, h | .block .., id, h | .loop _, id, h | .rangeFunc .., id, h | .scope _, id, h | .label _, id, h | .goto _, id, h | .refuse _, id, h => by cases h
theorem soL_app {ops : Array Oper} : ∀ {l : List Oper} {A B : List SO}, soL ops l = A ++ B → ∃ a b, l = a ++ b ∧ soL ops a = A ∧ soL ops b = B
  | l, [], B, h => ⟨[], l, rfl, rfl, h⟩
  | [], x :: A, B, h => by cases h
  | o :: l, x :: A, B, h => by
    simp only [soL, List.cons_append, List.cons.injEq] at h
    obtain ⟨a, b, h1, h2, h3⟩ := soL_app h.2
    exact ⟨o :: a, b, by rw [h1]; rfl, by simp only [soL, h2, h.1], h3⟩
theorem so_inv {ops : Array Oper} {o : Oper} {d : Option Nat} {p : Op} (h : so ops o = ⟨d, p, none⟩) (hp : realS ⟨d, p, none⟩ = true) : o.op = p ∧ o.dst = d ∧ o.guard = none := by
  unfold so at h
  split at h
  · rename_i hg; cases h; exact ⟨rfl, rfl, hg⟩
  · split at h
    · cases h
    · cases h; cases hp
theorem tk_stringU {P : Program} {t : Nat} (h : tk P t = some .string) : P.underlying t = some .string := by
  obtain ⟨i, hi, hk⟩ := ti_k h
  obtain ⟨dsc, h1, h2, -⟩ := ti_desc hi
  rw [hk] at h2
  cases dsc <;> simp [kindOf] at h2
  exact h1
theorem jv_sv {P : Program} : ∀ (c : SC J) {s : St} {Q Q' : Exit → St → Prop}, (∀ e s, Q e s → Q' e s) → jv P c s Q → sv P (exC c) s Q'
  | .skip, s, Q, Q', h, hk => h _ _ hk
  | .ret, s, Q, Q', h, hk => h _ _ hk
  | .exit id, s, Q, Q', h, hk => h _ _ hk
  | .seq a b, s, Q, Q', h, hk => .inl (jv_sv a (fun e s hs => by
      cases e with
      | normal => exact ⟨s, .refl s, jv_sv b h hs⟩
      | _ => exact h _ _ hs) hk)
  | .sq ks a b, s, Q, Q', h, hk => .inl (jv_sv a (fun e s hs => by
      cases e with
      | normal => exact ⟨_, .keep ks s, jv_sv b h hs⟩
      | _ => exact h _ _ hs) hk)
  | .ct a b, s, Q, Q', h, hk => .inl (jv_sv a (fun e s hs => by
      cases e with
      | normal =>
        obtain ⟨s'', hw, hs⟩ := hs
        exact ⟨s'', hw, jv_sv b h hs⟩
      | _ => exact h _ _ hs) hk)
  | .cond c x y, ⟨n, tm, σ, G⟩, Q, Q', h, hk => by
    simp only [jv] at hk
    simp only [exC, sv, ev_evT]
    split at hk
    · rename_i b hb
      cases b with
      | true => exact jv_sv x h hk
      | false => exact jv_sv y h hk
    · cases hk
  | .block id c, s, Q, Q', h, hk => jv_sv c (fun e s hs => by
      cases e with
      | exit id' =>
        simp only [blockK] at hs ⊢
        split at hs
        · exact h _ _ hs
        · exact h _ _ hs
      | _ => exact h _ _ hs) hk
  | .loop c, s, Q, Q', h, hk => by
    obtain ⟨I, n, s1, h1, h2, h3⟩ := hk
    exact ⟨I, n, s1, h1, h2, fun m s2 hI => jv_sv c (fun e s hs => by
      cases e with
      | normal => exact hs
      | _ => exact h _ _ hs) (h3 m s2 hI)⟩
  | .lp ks c, s, Q, Q', h, hk => by
    obtain ⟨I, n, s1, h1, h2, h3⟩ := hk
    exact ⟨I, n, s1, h1, h2, fun m s2 hI => jv_sv c (fun e s hs => by
      cases e with
      | normal => exact hs
      | _ => exact h _ _ hs) (h3 m s2 hI)⟩
  | .reg l, s, Q, Q', h, hk => sOps_mono (fun s hs => h _ _ hs) (jOps_sOps l s _ hk)
  | .dr t anc l af, s, Q, Q', h, hk => ⟨hk.1.2, t, anc, hk.1.1, sT_mono (fun s hs => h _ _ hs) (jT_sT l t s _ hk.2)⟩
  | .rng id l it ty x tn tb b, s, Q, Q', h, hk => by
    refine .inr fun c hc => ?_
    obtain ⟨hty, hk⟩ := hk
    obtain ⟨a, b', rfl, ha, hb1⟩ := strip_seq hc
    obtain ⟨i1, ops1, rfl, h1⟩ := strip_reg ha
    obtain ⟨c1, rfl, hb2⟩ := strip_block hb1
    obtain ⟨c2, rfl, hb3⟩ := strip_loop hb2
    obtain ⟨c3, c4, rfl, h20, hb4⟩ := strip_seq hb3
    obtain ⟨i2, ops2, rfl, h2⟩ := strip_reg h20
    obtain ⟨c5, body, rfl, h3, hb⟩ := strip_seq hb4
    obtain ⟨c6, c7, rfl, h4, h5⟩ := strip_cond h3
    obtain rfl := strip_skip h4
    obtain rfl := strip_exit h5
    obtain ⟨pre, last, e1, h6, h7⟩ := soL_app h1
    obtain ⟨oR, l8, rfl, h8⟩ : ∃ oR l8, last = oR :: l8 ∧ soL ops1 last = so ops1 oR :: soL ops1 l8 := by
      cases last with
      | nil => cases h7
      | cons o l => exact ⟨o, l, rfl, rfl⟩
    rw [h8] at h7
    simp only [List.cons.injEq] at h7
    have hl8 : l8 = [] := by
      cases l8 with
      | nil => rfl
      | cons o l => cases h7.2
    subst hl8
    obtain ⟨oN, oE, e2, hN, hE⟩ : ∃ oN oE, ops2.toList = [oN, oE] ∧ so ops2 oN = ⟨some tn, .next (.tmp it) true, none⟩ ∧ so ops2 oE = ⟨some tb, .extract (.tmp tn) 0, none⟩ := by
      cases hl : ops2.toList with
      | nil => rw [hl] at h2; cases h2
      | cons o1 l =>
        rw [hl] at h2
        cases l with
        | nil => simp [soL] at h2
        | cons o2 l =>
          cases l with
          | nil =>
            simp only [soL, List.cons.injEq] at h2
            exact ⟨o1, o2, rfl, h2.1, h2.2.1⟩
          | cons o3 l => simp [soL] at h2
    refine rng_good e1 (so_inv h7.1 rfl) e2 (so_inv hN rfl) (so_inv hE rfl) (tk_stringU hty) ?_
    refine sOps_vc ?_ (h6 ▸ jOps_sOps l s _ hk)
    rintro ⟨n, tm, σ, G⟩ ⟨str, hx, hit, hI⟩
    refine ⟨str, by rw [ev_evT]; exact hx, hit, fun r => ?_⟩
    obtain ⟨I, s2, hw, h0, hr⟩ := hI r
    refine ⟨I, s2, hw, h0, fun pos s3 hp => ⟨(hr pos s3 hp).1, fun hlt => ?_, fun hlt => h _ _ ((hr pos s3 hp).2.2 hlt)⟩⟩
    obtain ⟨c, hd, hbd⟩ := (hr pos s3 hp).2.1 hlt
    refine ⟨c, hd, sv_vc body (fun _ _ h => h) (hb ▸ jv_sv b (fun e s hs => ?_) hbd)⟩
    cases e with
    | normal => exact hs
    | exit id' =>
      simp only [thenK, blockK] at hs ⊢
      split at hs
      · exact h _ _ hs
      · exact h _ _ hs
    | _ => exact h _ _ hs
  | .bad, s, Q, Q', h, hk => by cases hk

/-- A function's end, its results' slots given. -/
def RetJ (P : Program) (rs : List ResultVar) (s : St) (res : AV) (rf : List (List Nat × Row)) : Prop :=
  match absRes P s rs with
  | some vs => RetA res rf (nilT (wants res vs) vs s.σ s.G)
  | none => False
def retJ (P : Program) (rs : List ResultVar) (res : AV) (rf : List (List Nat × Row)) : Exit → St → Prop
  | .ret, s => RetJ P rs s res rf
  | .normal, s => RetJ P rs s res rf
  | _, _ => False
/-- What is asked of a function's text: its code in words, its slots, its results. -/
def BodyOK (P : Program) (n : Nat) (c : SC J) (N : Nat) (rs : List ResultVar) : Prop :=
  ∃ fn : Func, P.funcs[n]? = some fn ∧ fn.body.map strip = some (exC c) ∧ (fn.name == "runtime.NumGoroutine") = false ∧ fn.ntmps = N ∧ fn.results.toList = rs

/-- THE CONTRACT out of the code in words. -/
theorem callR_of_jv {P : Program} {n : Nat} {c : SC J} {N : Nat} {rs : List ResultVar} (hb : BodyOK P n c N rs)
    {args : List AV} {res : AV} {rf : List (List Nat × Row)} (hlen : Nat.ble args.length N = true) (hv : jv P c ⟨N, enumA 0 args, [], 0⟩ (retJ P rs res rf)) : CallR P n args res rf := by
  obtain ⟨fn, hf, hb, hn, rfl, rfl⟩ := hb
  cases hbody : fn.body with
  | none => rw [hbody] at hb; cases hb
  | some code =>
    rw [hbody] at hb
    have e : strip code = exC c := Option.some.inj hb
    have hq : ∀ e s, retJ P fn.results.toList res rf e s → retK P fn res rf e s := by
      intro e s h
      cases e <;> exact h
    exact callR_of_vc hf hbody hn (Nat.le_of_ble_eq_true hlen) (sv_vc code (fun _ _ h => h) (e ▸ jv_sv c hq hv))

/-- .. and the contract of a function into which rows are moved. -/
def retM (P : Program) (rs : List ResultVar) (res : AV) (σout : Sig) : Exit → St → Prop
  | .ret, s => RetM P rs s res σout
  | .normal, s => RetM P rs s res σout
  | _, _ => False
theorem callM_of_jv {P : Program} {n : Nat} {c : SC J} {N : Nat} {rs : List ResultVar} (hb : BodyOK P n c N rs)
    {σin : Sig} {args : List AV} {res : AV} {σout : Sig} (hlen : Nat.ble args.length N = true) (hv : jv P c ⟨N, enumA 0 args, σin, 1⟩ (retM P rs res σout)) : CallM P n σin args res σout := by
  obtain ⟨fn, hf, hb, hn, rfl, rfl⟩ := hb
  cases hbody : fn.body with
  | none => rw [hbody] at hb; cases hb
  | some code =>
    rw [hbody] at hb
    have e : strip code = exC c := Option.some.inj hb
    exact callM_of_vc hf hbody hn (Nat.le_of_ble_eq_true hlen) (sv_vc code (fun _ _ h => h) (e ▸ jv_sv c (fun e s h => by
      cases e <;> exact h) hv))
theorem retM_ret {P : Program} {rs : List ResultVar} {res : AV} {σout : Sig} {s : St} : retM P rs res σout .ret s = RetM P rs s res σout := rfl
theorem retM_normal {P : Program} {rs : List ResultVar} {res : AV} {σout : Sig} {s : St} : retM P rs res σout .normal s = RetM P rs s res σout := rfl

def JThen (P : Program) (b : SC J) (Q : Exit → St → Prop) (s : St) : Prop := jv P b s Q
def JRest (P : Program) (l : List J) (Q : St → Prop) (s : St) : Prop := jOps P l s Q
def condJ (P : Program) (a b : SC J) (s : St) (Q : Exit → St → Prop) (v : AV) : Prop := match v with
  | .sc (.bool c) => Br c (jv P a s Q) (jv P b s Q)
  | _ => False
theorem condJ_intro {P : Program} {a b : SC J} {s : St} {Q : Exit → St → Prop} {c : Bool} (h : c = true → jv P a s Q) (k : c = false → jv P b s Q) : condJ P a b s Q (.sc (.bool c)) := Br_intro h k
section
variable {P : Program} {n G : Nat} {tm : List (Nat × AV)} {σ : Sig} {Q : Exit → St → Prop} {K : St → Prop} {d t f i id : Nat} {x y z : Operand} {l : List J} {w : Bool} {s : St} {a b : SC J}
theorem condJ_true : condJ P a b s Q (.sc (.bool true)) = jv P a s Q := rfl
theorem condJ_false : condJ P a b s Q (.sc (.bool false)) = jv P b s Q := rfl
theorem guardP_tt {i : I} : guardP P n tm σ G t true i K (.sc (.bool true)) = iSt P i ⟨n, tm, σ, G⟩ K := rfl
theorem guardP_ff {i : I} : guardP P n tm σ G t false i K (.sc (.bool false)) = iSt P i ⟨n, tm, σ, G⟩ K := rfl
theorem guardP_tf {i : I} : guardP P n tm σ G t true i K (.sc (.bool false)) = iSkip i ⟨n, tm, σ, G⟩ K := rfl
theorem guardP_ft {i : I} : guardP P n tm σ G t false i K (.sc (.bool true)) = iSkip i ⟨n, tm, σ, G⟩ K := rfl
theorem guardP_un {i : I} : guardP P n tm σ G t w i K (.tup []) = iSkip i ⟨n, tm, σ, G⟩ K := rfl
theorem guardP_intro {i : I} {c : Bool} (h : c = true → guardP P n tm σ G t w i K (.sc (.bool true))) (k : c = false → guardP P n tm σ G t w i K (.sc (.bool false))) : guardP P n tm σ G t w i K (.sc (.bool c)) := by
  cases c with
  | true => exact h rfl
  | false => exact k rfl
theorem JThen_eq : JThen P b Q ⟨n, tm, σ, G⟩ = jv P b ⟨n, tm, σ, G⟩ Q := rfl
theorem JRest_eq : JRest P l K ⟨n, tm, σ, G⟩ = jOps P l ⟨n, tm, σ, G⟩ K := rfl
theorem jv_skip : jv P .skip s Q = Q .normal s := rfl
theorem jv_ret : jv P .ret s Q = Q .ret s := rfl
theorem jv_exit : jv P (.exit id) s Q = Q (.exit id) s := rfl
theorem jv_seq : jv P (.seq a b) s Q = jv P a s (thenK Q (JThen P b Q)) := rfl
theorem jv_block : jv P (.block id a) s Q = jv P a s (blockK id Q) := rfl
theorem jv_cond : jv P (.cond x a b) ⟨n, tm, σ, G⟩ Q = condJ P a b ⟨n, tm, σ, G⟩ Q (evT tm x) := rfl
theorem jv_reg : jv P (.reg l) s Q = jOps P l s (Norm Q) := rfl
theorem jOps_nil : jOps P [] s K = K s := rfl
theorem jOps_p {i : I} : jOps P (.p i :: l) s K = iSt P i s (JRest P l K) := rfl
theorem jOps_g {i : I} : jOps P (.g t w i :: l) ⟨n, tm, σ, G⟩ K = guardP P n tm σ G t w i (JRest P l K) (lookT tm t) := rfl
def JTRest (P : Program) (l : List J) (t : DT) (K : St → Prop) (s : St) : Prop := jT P l t s K
def JERest (P : Program) (l : List J) (rc : List Nat) (tm : List (Nat × AV)) (σ : Sig) (t : DT) (K : St → Prop) (s : St) : Prop := sameJ P l tm σ s.σ rc ∧ jT P l t s K
def jPw (P : Program) (n : Nat) (tm : List (Nat × AV)) (σ : Sig) (G : Nat) (K : St → Prop) : Option J → Prop
  | some (.p j) => (isPuW j = true ∧ pureK j.so.o = true) ∧ iSt P j ⟨n, tm, σ, G⟩ K
  | some (.g u w j) => (isPuW j = true ∧ pureK j.so.o = true) ∧ guardP P n tm σ G u w j K (lookT tm u)
  | none => False
def jEw (P : Program) (n : Nat) (tm : List (Nat × AV)) (σ : Sig) (G : Nat) (K : St → Prop) : Option J → Prop
  | some (.p j) => iSt P j ⟨n, tm, σ, G⟩ K
  | some (.g u w j) => guardP P n tm σ G u w j K (lookT tm u)
  | none => False
theorem JTRest_eq {t : DT} : JTRest P l t K ⟨n, tm, σ, G⟩ = jT P l t ⟨n, tm, σ, G⟩ K := rfl
theorem JERest_eq {t : DT} {rc : List Nat} {tm0 : List (Nat × AV)} {σ0 : Sig} : JERest P l rc tm0 σ0 t K ⟨n, tm, σ, G⟩ = (sameJ P l tm0 σ0 σ rc ∧ jT P l t ⟨n, tm, σ, G⟩ K) := rfl
theorem jv_dr {t : DT} {anc af : List (List Nat)} : jv P (.dr t anc l af) s Q = ((chkT t anc (soI l) af = true ∧ P.follows .mixedOrders = true) ∧ jT P l t s (Norm Q)) := rfl
theorem jT_nil : jT P l .nil s K = K s := rfl
theorem jT_pu {t : DT} : jT P l (.pu i t) ⟨n, tm, σ, G⟩ K = jPw P n tm σ G (JTRest P l t K) (nthJ l i) := by
  rw [jT]
  cases h : nthJ l i with
  | none => rfl
  | some j => cases j <;> rfl
theorem jT_ef {t : DT} {rc : List Nat} : jT P l (.ef i rc t) ⟨n, tm, σ, G⟩ K = jEw P n tm σ G (JERest P l rc tm σ t K) (nthJ l i) := by
  rw [jT]
  cases h : nthJ l i with
  | none => rfl
  | some j => cases j <;> rfl
theorem jT_or {a b : DT} : jT P l (.or a b) s K = (jT P l a s K ∧ jT P l b s K) := rfl
theorem jPw_p {i : I} : jPw P n tm σ G K (some (.p i)) = ((isPuW i = true ∧ pureK i.so.o = true) ∧ iSt P i ⟨n, tm, σ, G⟩ K) := rfl
theorem jPw_g {i : I} : jPw P n tm σ G K (some (.g t w i)) = ((isPuW i = true ∧ pureK i.so.o = true) ∧ guardP P n tm σ G t w i K (lookT tm t)) := rfl
theorem jEw_p {i : I} : jEw P n tm σ G K (some (.p i)) = iSt P i ⟨n, tm, σ, G⟩ K := rfl
theorem jEw_g {i : I} : jEw P n tm σ G K (some (.g t w i)) = guardP P n tm σ G t w i K (lookT tm t) := rfl
theorem then_normal {K : St → Prop} : thenK Q K .normal s = K s := rfl
theorem then_ret {K : St → Prop} : thenK Q K .ret s = Q .ret s := rfl
theorem then_exit {K : St → Prop} : thenK Q K (.exit id) s = Q (.exit id) s := rfl
theorem block_normal : blockK id Q .normal s = Q .normal s := rfl
theorem block_ret : blockK id Q .ret s = Q .ret s := rfl
theorem block_exit {id' : Nat} : blockK id Q (.exit id') s = Br (id' == id) (Q .normal s) (Q (.exit id') s) := by
  cases h : id' == id <;> simp [blockK, h, Br]
theorem ret_ret {rs : List ResultVar} {res : AV} {rf : List (List Nat × Row)} : retJ P rs res rf .ret s = RetJ P rs s res rf := rfl
theorem ret_normal {rs : List ResultVar} {res : AV} {rf : List (List Nat × Row)} : retJ P rs res rf .normal s = RetJ P rs s res rf := rfl
theorem br_lt {X : Prop} : Br (Nat.blt d n) X False = if d < n then X else False := by
  by_cases h : d < n
  · rw [if_pos h, show Nat.blt d n = true from Nat.ble_eq_true_of_le h]; rfl
  · rw [if_neg h]
    cases hb : Nat.blt d n with
    | false => rfl
    | true => exact absurd (Nat.le_of_ble_eq_true hb) h
theorem putV_eq {v : AV} : putV n d tm σ G K v = if d < n then K ⟨n, (d, v) :: tm, σ, G⟩ else False := br_lt
theorem putK_eq {v : AV} {σ' : Sig} : putK n d tm G K (v, σ') = if d < n then K ⟨n, (d, v) :: tm, σ', G + 1⟩ else False := br_lt
theorem put_eq {v : AV} : put ⟨n, tm, σ, G⟩ (some d) v σ false K = if d < n then K ⟨n, (d, v) :: tm, σ, G⟩ else False := by rw [put_some0]; exact br_lt
theorem put_none {v : AV} {σ' : Sig} : put ⟨n, tm, σ, G⟩ none v σ' false K = K ⟨n, tm, σ', G⟩ := rfl
theorem put_noneT {v : AV} {σ' : Sig} : put ⟨n, tm, σ, G⟩ none v σ' true K = K ⟨n, tm, σ', G + 1⟩ := rfl
theorem putS_eq {σ' : Sig} : putS n tm G K σ' = K ⟨n, tm, σ', G⟩ := rfl
theorem wantK_eq {d : Option Nat} {args' : List AV} {σ' : Sig} : wantK P n d tm σ G f K (σ', args') = Want P f args' (CallK ⟨n, tm, σ, G⟩ d K σ') := rfl
theorem callK_eq {res : AV} {σ' : Sig} {rf : List (List Nat × Row)} : CallK ⟨n, tm, σ, G⟩ (some d) K σ' res rf = (resOK rf = true ∧ putK n d tm G K (nm d G res, addF σ' d G rf)) := by
  have h : put ⟨n, tm, σ, G⟩ (some d) (nm d G res) (addF σ' d G rf) true K = putK n d tm G K (nm d G res, addF σ' d G rf) := put_some
  show (_ ∧ put ⟨n, tm, σ, G⟩ (some d) (nm d G res) (addF σ' d G rf) true K) = _
  rw [h]
theorem callK_none {res : AV} {σ' : Sig} {rf : List (List Nat × Row)} : CallK ⟨n, tm, σ, G⟩ none K σ' res rf = (resOK rf = true ∧ putS n tm (G + 1) K (addF σ' 0 G rf)) := rfl
def KThen (P : Program) (ks : List Nat) (b : SC J) (Q : Exit → St → Prop) (s : St) : Prop := jv P b (keepS ks s) Q
theorem KThen_eq {ks : List Nat} : KThen P ks b Q ⟨n, tm, σ, G⟩ = jv P b ⟨n, keepT ks tm, σ, G⟩ Q := rfl
theorem jv_sq {ks : List Nat} : jv P (.sq ks a b) s Q = jv P a s (thenK Q (KThen P ks b Q)) := rfl
theorem evT_const {v : Value} : evT tm (.const v) = absV v := rfl
theorem evT_func : evT tm (.func f) = .sc (.func (.func f) #[] #[]) := rfl
theorem iSkip_eq {i : I} : iSkip i s K = put s i.so.d (.tup []) s.σ false K := rfl
end
/-- What holds behind a code may be made less. -/
theorem jOps_mono {P : Program} : ∀ (l : List J) {s : St} {K K' : St → Prop}, (∀ s, K s → K' s) → jOps P l s K → jOps P l s K'
  | [], _, _, _, h, hk => h _ hk
  | .p i :: l, _, _, _, h, hk => iSt_mono (fun s hs => jOps_mono l h hs) hk
  | .g t w i :: l, s, K, K', h, hk => by
    exact guardP_mono (fun s hs => jOps_mono l h hs) hk
theorem jv_mono {P : Program} : ∀ (c : SC J) {s : St} {Q Q' : Exit → St → Prop}, (∀ e s, Q e s → Q' e s) → jv P c s Q → jv P c s Q'
  | .skip, s, Q, Q', h, hk => h _ _ hk
  | .ret, s, Q, Q', h, hk => h _ _ hk
  | .exit id, s, Q, Q', h, hk => h _ _ hk
  | .seq a b, s, Q, Q', h, hk => jv_mono a (fun e s hs => by
      cases e with
      | normal => exact jv_mono b h hs
      | _ => exact h _ _ hs) hk
  | .sq ks a b, s, Q, Q', h, hk => jv_mono a (fun e s hs => by
      cases e with
      | normal => exact jv_mono b h hs
      | _ => exact h _ _ hs) hk
  | .ct a b, s, Q, Q', h, hk => jv_mono a (fun e s hs => by
      cases e with
      | normal =>
        obtain ⟨s'', hw, hs⟩ := hs
        exact ⟨s'', hw, jv_mono b h hs⟩
      | _ => exact h _ _ hs) hk
  | .cond c x y, ⟨n, tm, σ, G⟩, Q, Q', h, hk => by
    simp only [jv] at hk ⊢
    split at hk
    · rename_i b hb
      cases b with
      | true => exact jv_mono x h hk
      | false => exact jv_mono y h hk
    · cases hk
  | .block id c, s, Q, Q', h, hk => jv_mono c (fun e s hs => by
      cases e with
      | exit id' =>
        simp only [blockK] at hs ⊢
        split at hs
        · exact h _ _ hs
        · exact h _ _ hs
      | _ => exact h _ _ hs) hk
  | .loop c, s, Q, Q', h, hk => by
    obtain ⟨I, n, s1, h1, h2, h3⟩ := hk
    exact ⟨I, n, s1, h1, h2, fun m s2 hI => jv_mono c (fun e s hs => by
      cases e with
      | normal => exact hs
      | _ => exact h _ _ hs) (h3 m s2 hI)⟩
  | .lp ks c, s, Q, Q', h, hk => by
    obtain ⟨I, n, s1, h1, h2, h3⟩ := hk
    exact ⟨I, n, s1, h1, h2, fun m s2 hI => jv_mono c (fun e s hs => by
      cases e with
      | normal => exact hs
      | _ => exact h _ _ hs) (h3 m s2 hI)⟩
  | .reg l, s, Q, Q', h, hk => jOps_mono l (fun s hs => h _ _ hs) hk
  | .dr _ _ _ _, s, Q, Q', h, hk => ⟨hk.1, jT_mono (fun s hs => h _ _ hs) hk.2⟩
  | .rng id l it ty x tn tb b, s, Q, Q', h, hk => by
    obtain ⟨hty, hk⟩ := hk
    refine ⟨hty, jOps_mono l ?_ hk⟩
    rintro s1 ⟨str, hx, hit, hI⟩
    refine ⟨str, hx, hit, fun r => ?_⟩
    obtain ⟨I, s2, hw, h0, hr⟩ := hI r
    refine ⟨I, s2, hw, h0, fun pos s3 hp => ⟨(hr pos s3 hp).1, fun hlt => ?_, fun hlt => h _ _ ((hr pos s3 hp).2.2 hlt)⟩⟩
    obtain ⟨c, hd, hb⟩ := (hr pos s3 hp).2.1 hlt
    refine ⟨c, hd, jv_mono b (fun e s hs => ?_) hb⟩
    cases e with
    | normal => exact hs
    | exit id' =>
      simp only [thenK, blockK] at hs ⊢
      split at hs
      · exact h _ _ hs
      · exact h _ _ hs
    | _ => exact h _ _ hs
  | .bad, s, Q, Q', h, hk => by cases hk
/-- A cut: what is known in the middle is chosen. -/
theorem jv_ct {P : Program} {a b : SC J} {s : St} {Q : Exit → St → Prop} (R : St → Prop) (h1 : jv P a s (thenK Q fun s' => ∃ s'', Weak s' s'' ∧ R s'')) (h2 : ∀ s'', R s'' → jv P b s'' Q) : jv P (.ct a b) s Q :=
  jv_mono a (fun e s hs => by
    cases e with
    | normal =>
      obtain ⟨s'', hw, hs⟩ := hs
      exact ⟨s'', hw, h2 _ hs⟩
    | _ => exact hs) h1
/-- A loop: a family of states, one of a lesser number behind each round. -/
theorem jv_loop {P : Program} {c : SC J} {s : St} {Q : Exit → St → Prop} (I : Nat → St → Prop) (n : Nat) (h1 : ∃ s1, Weak s s1 ∧ I n s1)
    (h2 : ∀ m s2, I m s2 → jv P c s2 (thenK Q fun s3 => ∃ m' s4, m' < m ∧ Weak s3 s4 ∧ I m' s4)) : jv P (.loop c) s Q := by
  obtain ⟨s1, hw, hI⟩ := h1
  exact ⟨I, n, s1, hw, hI, h2⟩
/-- A loop whose head's states are told by names in order. -/
def LpK (ks : List Nat) (I : Nat → St → Prop) (m : Nat) (s : St) : Prop := ∃ m', m' < m ∧ I m' (headS ks s)
theorem LpK_eq {ks : List Nat} {I : Nat → St → Prop} {m n G : Nat} {tm : List (Nat × AV)} {σ : Sig} : LpK ks I m ⟨n, tm, σ, G⟩ = ∃ m', m' < m ∧ I m' (headS ks ⟨n, tm, σ, G⟩) := rfl
theorem headS_eq {ks : List Nat} {n G : Nat} {tm : List (Nat × AV)} {σ : Sig} : headS ks ⟨n, tm, σ, G⟩ = canL ⟨n, tm, σ, G⟩ (keepT ks tm) (canN ⟨n, tm, σ, G⟩ ks) := rfl
theorem jv_lp {P : Program} {ks : List Nat} {c : SC J} {s : St} {Q : Exit → St → Prop} (I : Nat → St → Prop) (n : Nat) (h1 : I n (headS ks s))
    (h2 : ∀ m s2, I m s2 → jv P c s2 (thenK Q (LpK ks I m))) : jv P (.lp ks c) s Q := ⟨I, n, _, .head ks s, h1, fun m s2 hI => jv_mono c (fun e s hs => by
      cases e with
      | normal =>
        obtain ⟨m', h4, h5⟩ := hs
        exact ⟨m', _, h4, .head ks s, h5⟩
      | _ => exact hs) (h2 m s2 hI)⟩
/-- .. where nil slices in the slots told become rows of one's own. -/
def LpN (ks : List Nat) (us : List (Nat × Nat)) (I : Nat → St → Prop) (m : Nat) (s : St) : Prop := ∃ m', m' < m ∧ I m' (headS ks (nilN us s))
theorem LpN_eq {ks : List Nat} {us : List (Nat × Nat)} {I : Nat → St → Prop} {m n G : Nat} {tm : List (Nat × AV)} {σ : Sig} : LpN ks us I m ⟨n, tm, σ, G⟩ = ∃ m', m' < m ∧ I m' (headS ks (nilN us ⟨n, tm, σ, G⟩)) := rfl
theorem jv_lpN {P : Program} {ks : List Nat} {c : SC J} {s : St} {Q : Exit → St → Prop} (us : List (Nat × Nat)) (I : Nat → St → Prop) (n : Nat) (h1 : I n (headS ks (nilN us s)))
    (h2 : ∀ m s2, I m s2 → jv P c s2 (thenK Q (LpN ks us I m))) : jv P (.lp ks c) s Q := ⟨I, n, _, (Weak.nilN us s).trans (.head ks _), h1, fun m s2 hI => jv_mono c (fun e s hs => by
      cases e with
      | normal =>
        obtain ⟨m', h4, h5⟩ := hs
        exact ⟨m', _, h4, (Weak.nilN us s).trans (.head ks _), h5⟩
      | _ => exact hs) (h2 m s2 hI)⟩
/-- A loop over a string's letters. -/
def RngJ (P : Program) (id it : Nat) (x : Operand) (tn tb : Nat) (b : SC J) (Q : Exit → St → Prop) (s1 : St) : Prop := ∃ str, evT s1.tm x = .sc (.string str) ∧ it < s1.n ∧ ∀ r, ∃ (I : Nat → St → Prop) (s2 : St), Weak ⟨s1.n, (it, .it r) :: s1.tm, s1.σ, s1.G⟩ s2 ∧ I 0 s2 ∧ ∀ pos s3, I pos s3 →
      (lookA s3.tm it = some (.it r) ∧ tn < s3.n ∧ tb < s3.n) ∧
      (pos < str.size → ∃ c, Utf8.decode str pos = (c, 1) ∧ jv P b ⟨s3.n, (tb, .sc (.bool true)) :: (tn, .tup [.sc (.bool true), .sc (.int .i64 pos), .sc (.int .i32 c)]) :: s3.tm, s3.σ, s3.G⟩ (thenK (blockK id Q) fun s4 => ∃ s5, Weak s4 s5 ∧ I (pos + 1) s5)) ∧
      (¬ pos < str.size → Q .normal ⟨s3.n, (tb, .sc (.bool false)) :: (tn, .tup [.sc (.bool false)]) :: s3.tm, s3.σ, s3.G⟩)
theorem jv_rng {P : Program} {id it ty tn tb : Nat} {x : Operand} {l : List J} {b : SC J} {s : St} {Q : Exit → St → Prop} : jv P (.rng id l it ty x tn tb b) s Q = (tk P ty = some .string ∧ jOps P l s (RngJ P id it x tn tb b Q)) := rfl
def RngN (ks : List Nat) (us : List (Nat × Nat)) (I : Nat → St → Prop) (pos : Nat) (s : St) : Prop := I pos (headS ks (nilN us s))
theorem RngN_eq {ks : List Nat} {us : List (Nat × Nat)} {I : Nat → St → Prop} {pos n G : Nat} {tm : List (Nat × AV)} {σ : Sig} : RngN ks us I pos ⟨n, tm, σ, G⟩ = I pos (headS ks (nilN us ⟨n, tm, σ, G⟩)) := rfl
theorem rng_intro {P : Program} {id it tn tb n G : Nat} {tm : List (Nat × AV)} {σ : Sig} {x : Operand} {b : SC J} {Q : Exit → St → Prop} (str : ByteArray) (ks : List Nat) (us : List (Nat × Nat)) (I : Nat → Nat → St → Prop)
    (hx : evT tm x = .sc (.string str)) (hn : it < n ∧ tn < n ∧ tb < n) (h0 : ∀ r, I r 0 (headS ks (nilN us ⟨n, (it, .it r) :: tm, σ, G⟩)))
    (hr : ∀ r pos s, I r pos s → lookA s.tm it = some (.it r) ∧ s.n = n)
    (h1 : ∀ r pos s, I r pos s → pos < str.size → ∃ c, Utf8.decode str pos = (c, 1) ∧ jv P b ⟨s.n, (tb, .sc (.bool true)) :: (tn, .tup [.sc (.bool true), .sc (.int .i64 pos), .sc (.int .i32 c)]) :: s.tm, s.σ, s.G⟩ (thenK (blockK id Q) (RngN ks us (I r) (pos + 1))))
    (h2 : ∀ r pos s, I r pos s → ¬ pos < str.size → Q .normal ⟨s.n, (tb, .sc (.bool false)) :: (tn, .tup [.sc (.bool false)]) :: s.tm, s.σ, s.G⟩) : RngJ P id it x tn tb b Q ⟨n, tm, σ, G⟩ := by
  refine ⟨str, hx, hn.1, fun r => ⟨I r, _, (Weak.nilN us _).trans (.head ks _), h0 r, fun pos s3 hp => ⟨⟨(hr r pos s3 hp).1, by rw [(hr r pos s3 hp).2]; exact hn.2.1, by rw [(hr r pos s3 hp).2]; exact hn.2.2⟩, fun hlt => ?_, h2 r pos s3 hp⟩⟩⟩
  obtain ⟨c, hd, hb⟩ := h1 r pos s3 hp hlt
  refine ⟨c, hd, jv_mono b (fun e s hs => ?_) hb⟩
  cases e with
  | normal => exact ⟨_, (Weak.nilN us s).trans (.head ks _), hs⟩
  | _ => exact hs
theorem nilS1_eq {n G t : Nat} {tm : List (Nat × AV)} {σ : Sig} {u : AV} : nilS1 ⟨n, tm, σ, G⟩ t u = nilP ⟨n, tm, σ, G⟩ t (nilV u (lookT tm t) σ G) := rfl
theorem nilCell_eq {n G t j sz : Nat} {tm : List (Nat × AV)} {σ : Sig} : nilCell ⟨n, tm, σ, G⟩ t j sz = nilCB ⟨n, tm, σ, G⟩ (nilCC σ j sz G (lookT tm t)) := rfl
theorem nilP_eq {n G t G' : Nat} {tm : List (Nat × AV)} {σ σ' : Sig} {v : AV} : nilP ⟨n, tm, σ, G⟩ t (v, σ', G') = ⟨n, (t, v) :: tm, σ', G'⟩ := rfl
/-- Only some slots stay known, and no row. -/
theorem Weak.only (ks : List Nat) (s : St) : Weak s ⟨s.n, keepT ks s.tm, [], s.G⟩ := by
  intro rd O w0 a w ⟨rd', φ, hx, h⟩
  have hno : ∀ {r g p row}, rowAt ([] : Sig) r g p = some row → False := by
    intro r g p row hr
    simp [rowAt, lookA] at hr
  exact ⟨rd', φ, hx, ⟨fun r g p row hr => (hno hr).elim, fun r g p row r' g' p' row' pl pl' b q q' hr => (hno hr).elim, h.heap.rdok, fun r g p row pl b q hr => (hno hr).elim, fun r g p row pl b q hr => (hno hr).elim, h.heap.frame, h.heap.size, h.heap.os, h.heap.tape, h.heap.output⟩,
    fun t v hl => lookA_keepT ks s.tm t v hl ▸ h.look t, h.size, h.defers, h.gen⟩
theorem all_lookA {p : AV → Bool} : ∀ {tm : List (Nat × AV)}, (tm.all fun x => p x.2) = true → ∀ t v, lookA tm t = some v → p v = true
  | [], _, t, v, h => by cases h
  | (k, u) :: l, ha, t, v, h => by
    simp only [List.all_cons, Bool.and_eq_true] at ha
    simp only [lookA_cons] at h
    split at h
    · cases h; exact ha.1
    · exact all_lookA ha.2 t v h
theorem beq_refl' (n : Nat) : Nat.beq n n = true := Nat.beq_refl n
theorem lookF_one {row : Row} : lookF [([], row)] = one row := by
  funext p
  cases p <;> rfl
theorem beqL_iff : ∀ {a b : List Nat}, beqL a b = true ↔ a = b
  | [], [] => by simp [beqL]
  | [], _ :: _ => by simp [beqL]
  | _ :: _, [] => by simp [beqL]
  | a :: l, b :: m => by
    simp only [beqL, List.cons.injEq]
    cases h : a == b with
    | true => simp only [beqL_iff]; simp at h; simp [h]
    | false => simp at h; simp [h]
theorem lookF_cons {q p : List Nat} {row : Row} {l : List (List Nat × Row)} : lookF ((q, row) :: l) p = match beqL p q with
    | true => some row
    | false => lookF l p := by
  rw [lookF]
  cases h : beqL p q with
  | true => rw [if_pos (beqL_iff.1 h)]
  | false => rw [if_neg (fun e => by rw [beqL_iff.2 e] at h; cases h)]
theorem fset_at {f : Frag} {p q : List Nat} {row : Row} : fset f p row q = match beqL q p with
    | true => some row
    | false => f q := by
  unfold fset
  cases h : beqL q p with
  | true => rw [if_pos (beqL_iff.1 h)]
  | false => rw [if_neg (fun e => by rw [beqL_iff.2 e] at h; cases h)]
theorem ble_dec (a b : Nat) : Nat.ble a b = decide (a ≤ b) := by
  by_cases h : a ≤ b
  · rw [Nat.ble_eq_true_of_le h, decide_eq_true h]
  · rw [decide_eq_false h]
    cases hb : Nat.ble a b with
    | false => rfl
    | true => exact absurd (Nat.le_of_ble_eq_true hb) h
theorem lookF_nil {p : List Nat} : lookF [] p = none := rfl
attribute [go_sem] eqA headK lookF_nil nilCell_eq nilCB nilCC nilCD nilCE frzWT Option.getD_none Int.le_refl r_cu cuK_eq r_lz r_mf fnV fnOf_eq absUnit absFn jv_rng RngN_eq LpN_eq nilS1_eq nilP_eq nilV nilC nilL nilT RetA RetMB nilN wants ble_dec List.set_set List.length_set List.replicate_succ List.replicate_zero Nat.succ_eq_add_one List.take_length lookF_one lookF_cons fset_at beqL beq_refl' Bool.true_or Bool.false_or Bool.not_not Bool.not_true Bool.not_false Bool.false_and beq_self_eq_true Nat.min_def Int.toNat_natCast Int.natCast_nonneg ifP_pos ifLe_pos sub_all sub_map Nat.zero_add Nat.le_refl List.getElem?_map List.length_map flL_append put_some put_noneT jv_dr jT_nil jT_pu jT_ef jT_or jPw_p jPw_g jEw_p jEw_g JTRest_eq JERest_eq sameJ rdJ rdW gdW pureV absOp nthJ isPuW pureK retM_ret retM_normal RetM RetMA retL rootN stayL stayOK headS_eq LpK_eq canN canL canM addN mapTm zeroG disc tgt hasS hasT distN lkN lkB renS rowNms nmsC nmsL nmsA nmsAL nmsT nmsM nmsE nmsRow mapC mapA mapT mapRow mapF_one inOK prepG mvA mvB mvC mvD mvE bkN delA delL outS distK plainC plainL plainA plainAL plainT plainRf ldD ldC' putN optZ elB absSlice absSlice2 absIndex fieldT absField absFill absBuild allPos bsFill absBuildE absBuildRo absBuildOwn absB2S absConvS absMin absMax srcOf flL wideB allCB baseOf delB appR absAppend absCopy s2bR sbK evO evP packRes jv_skip jv_ret jv_exit jv_seq jv_sq jv_block jv_cond jv_reg jOps_nil jOps_p jOps_g then_normal then_ret then_exit block_normal block_ret block_exit ret_ret ret_normal putV_eq putK_eq putS_eq wantK_eq callK_eq callK_none evT_tmp evT_const evT_func iSkip_eq JThen_eq JRest_eq KThen_eq Norm_eq condJ_true condJ_false guardP_tt guardP_ff guardP_tf guardP_ft guardP_un r_mv r_as r_pk r_al r_bx r_ld r_fa r_ex r_nc r_bn r_un r_cv r_st r_ln r_ca r_cl r_cm r_ia r_ix r_fd r_sl r_bd r_bo r_bs r_ap r_cp r_sb r_mn r_mx r_ms absIndexAddr absMake evL lookT keepT I.so put_eq put_none ev_evT enumA absV absC scal onSome_some Br_true Br_false absBin absInt absShift absStr isShift absPick absUn absAlloc absBox absLoad absStore stRow isVar absFieldAddr absExtract absNilCheck absLen absConv ldC stC cellsA cellB flC plc sfc one fset_one rowAt lookA setA Option.map_some Option.map_none Option.bind_some Option.bind_none RetJ absRes frzRes frzW frzWL frzWC frzC frzL frz frzAll gather gatherA gatherC gatherL gatherT allApart apartFrom rowsOf resOK nm nmA nmC addF Nat.blt tk decide_true decide_false List.getElem?_toArray List.getElem?_cons_succ List.getElem?_cons_zero List.getElem?_nil List.all_cons List.all_nil List.any_cons List.any_nil Bool.and_true Bool.true_and Bool.or_false Bool.false_or Bool.and_self List.map_cons List.map_nil List.length_cons List.length_nil List.drop_succ_cons List.drop_zero List.take_succ_cons List.take_zero List.drop_nil List.take_nil List.append_nil List.nil_append List.cons_append List.set_cons_zero List.set_cons_succ Nat.ble_eq Nat.beq_eq Option.getD_some and_self true_and and_true ite_true ite_false if_true if_false
end Go.Proofs.Ytkhemolkhegppaa.E
