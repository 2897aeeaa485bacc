/-
  E, part L: arguments that read as data are read-only trees; and a law's row out of its contract.
-/
import Derived.Test.YtkhemolkhegppaaEK
import Derived.ChangeArms
import Derived.SizedLaws
import Derived.ProofKit
import Derived.OpenShut
namespace Go.Proofs.Ytkhemolkhegppaa.E
open Go Go.RowKit
set_option linter.unusedVariables false

/-- The read map of a whole memory. -/
def rdAll (w : World) : RD := fun b o => w.cell? (mkA b o)
abbrev noPhi : Phi := fun _ _ _ => none

/-- Whatever reads as data of the type stands for some value of the kind 'E' tells. -/
def OpensC (P : Program) (t : TypeId) (sz : Nat) {α : Type} (E : α → List AV) (Wf : α → Prop) : Prop :=
  P.cellsOf t = sz ∧ (∀ a, (E a).length = sz ∧ ∀ c ∈ E a, sfc c = true) ∧
    ∀ (H : Type) (enc : TypeId × Value → H) (w : World) (fuel : Nat) (cs : List Value) (x : DataW H × List MemPlace), DataW.trod enc P w 0 (fun _ => true) true fuel t cs = some x → ∃ a, Wf a ∧ PW (rdAll w) noPhi (E a) cs

theorem PW.one {rd : RD} {φ : Phi} {c : AV} {v : Value} (h : VRel rd φ c v) : PW rd φ [c] [v] := PW.cons h PW.nil

theorem opens_int {P : Program} {t : TypeId} {k : IntKind} (ht : P.underlying t = some (.int k)) (hs : P.cellsOf t = 1) : OpensC P t 1 (fun n : Int => [.sc (.int k n)]) (fun n => (Lit.int k n).wf = true) :=
  ⟨hs, fun a => ⟨rfl, by simp [sfc]⟩, fun H enc w fuel cs x h => by
    obtain ⟨n, rfl, rfl, hw⟩ := DataW.trod_int ht h
    exact ⟨n, hw, PW.one (.sc _ rfl)⟩⟩
theorem opens_bool {P : Program} {t : TypeId} (ht : P.underlying t = some .bool) (hs : P.cellsOf t = 1) : OpensC P t 1 (fun b : Bool => [.sc (.bool b)]) (fun _ => True) :=
  ⟨hs, fun a => ⟨rfl, by simp [sfc]⟩, fun H enc w fuel cs x h => by
    obtain ⟨n, rfl, rfl⟩ := DataW.trod_bool ht h
    exact ⟨n, trivial, PW.one (.sc _ rfl)⟩⟩
theorem opens_string {P : Program} {t : TypeId} (ht : P.underlying t = some .string) (hs : P.cellsOf t = 1) : OpensC P t 1 (fun b : ByteArray => [.sc (.string b)]) (fun b => b.size ≤ maxLen) :=
  ⟨hs, fun a => ⟨rfl, by simp [sfc]⟩, fun H enc w fuel cs x h => by
    obtain ⟨n, rfl, rfl, hw⟩ := DataW.trod_string ht h
    exact ⟨n, hw, PW.one (.sc _ rfl)⟩⟩

theorem list_of {α : Type} {p : Nat → α → Prop} : ∀ (n : Nat), (∀ i, i < n → ∃ a, p i a) → ∃ l : List α, l.length = n ∧ ∀ i a, l[i]? = some a → p i a
  | 0, _ => ⟨[], rfl, fun i a h => by simp at h⟩
  | n + 1, h => by
    obtain ⟨l, hl, hp⟩ := list_of n (fun i hi => h i (Nat.lt_succ_of_lt hi))
    obtain ⟨a, ha⟩ := h n (Nat.lt_succ_self n)
    refine ⟨l ++ [a], by simp [hl], fun i b hb => ?_⟩
    rcases Nat.lt_or_ge i n with hi | hi
    · rw [List.getElem?_append_left (by omega)] at hb
      exact hp i b hb
    · rw [List.getElem?_append_right (by omega)] at hb
      cases hz : i - l.length with
      | zero =>
        rw [hz] at hb
        cases hb
        have : i = n := by omega
        rw [this]; exact ha
      | succ k => rw [hz] at hb; simp at hb

theorem cells_get {w : World} {base : Nat} {a : Addr} {n : Nat} {cs : List Value} (h : w.cells? base a n = some cs) : cs.length = n ∧ ∀ j, j < n → w.cell? (a.add j) = cs[j]? := by
  unfold World.cells? at h
  split at h
  · refine ⟨by simpa using mapM_some_length h, fun j hj => ?_⟩
    have := mapM_some_get h j j (by simp [hj])
    exact this
  · cases h

theorem opens_slice {P : Program} {t e : TypeId} {sz : Nat} {α : Type} {E : α → List AV} {Wf : α → Prop} (ht : P.underlying t = some (.slice e)) (hs : P.cellsOf t = 1) (he : OpensC P e sz E Wf) (hpos : 0 < sz) :
    OpensC P t 1 (fun l : List α => [.ro sz (l.map E)]) (fun l => (∀ a ∈ l, Wf a) ∧ l.length ≤ maxLen) := by
  obtain ⟨he1, he2, he3⟩ := he
  refine ⟨hs, fun a => ⟨rfl, by simp [sfc]⟩, fun H enc w fuel cs x h => ?_⟩
  rcases DataW.trod_slice ht h with ⟨rfl, rfl⟩ | ⟨a, len, cap, elems, rest, n, rfl, rfl, rfl, hb, hl, hc, hlen, hel, -, -⟩
  · exact ⟨[], ⟨by simp, by simp⟩, PW.one (.ro0 _ _ _)⟩
  · obtain ⟨l, hll, hp⟩ := list_of (p := fun i a' => Wf a' ∧ ∃ cs, w.cells? 0 (a.add (i * P.cellsOf e)) (P.cellsOf e) = some cs ∧ PW (rdAll w) noPhi (E a') cs) len (fun i hi => by
      have hx := hel i hi
      rw [List.getElem?_eq_getElem (by omega)] at hx
      obtain ⟨cs, h1, h2⟩ := Option.bind_eq_some_iff.1 hx
      obtain ⟨a', h3, h4⟩ := he3 _ _ _ _ _ _ h2
      exact ⟨a', h3, cs, h1, h4⟩)
    refine ⟨l, ⟨fun a' ha => by obtain ⟨i, hi⟩ := List.getElem?_of_mem ha; exact (hp i a' hi).1, by omega⟩, PW.one ?_⟩
    by_cases hz : len = 0
    · subst hz
      have : l = [] := List.eq_nil_of_length_eq_zero hll
      subst this
      exact .ro0 _ _ _
    · obtain ⟨b, q, spot⟩ := a
      have hspot : spot = none := by
        obtain ⟨a0, ha0⟩ : ∃ a0, l[0]? = some a0 := ⟨l[0], by rw [List.getElem?_eq_getElem]⟩
        obtain ⟨-, cs, h1, h2⟩ := hp 0 a0 ha0
        obtain ⟨h3, h4⟩ := cells_get h1
        have h5 := h4 0 (by rw [he1]; exact hpos)
        rw [List.getElem?_eq_getElem (by rw [h3, he1]; exact hpos)] at h5
        cases hsp : spot with
        | none => rfl
        | some s =>
          subst hsp
          exfalso
          simp only [World.cell?, Addr.add] at h5
          split at h5 <;> simp_all
      subst hspot
      have hcell : ∀ (i j : Nat) (c : AV), ((l.map E)[i]?).bind (·[j]?) = some c → sfc c = true ∧ ∃ v, w.cell? (mkA b (q + i * sz + j)) = some v ∧ VRel (rdAll w) noPhi c v := by
        intro i j c hc
        rw [List.getElem?_map] at hc
        cases hi : l[i]? with
        | none => rw [hi] at hc; cases hc
        | some a' =>
          rw [hi] at hc
          simp only [Option.map_some, Option.bind_some] at hc
          obtain ⟨-, cs, h1, h2⟩ := hp i a' hi
          obtain ⟨h3, h4⟩ := cells_get h1
          obtain ⟨v, hv, hr⟩ := h2.2 j c hc
          refine ⟨(he2 a').2 c (List.mem_of_getElem? hc), v, ?_, hr⟩
          have hj : j < P.cellsOf e := by
            rw [← h3]
            rcases Nat.lt_or_ge j cs.length with hx | hx
            · exact hx
            · rw [List.getElem?_eq_none hx] at hv; cases hv
          have := h4 j hj
          rw [hv, he1] at this
          rw [← this]
          show w.cell? _ = w.cell? (((mkA b q).add (i * sz)).add j)
          rw [mkA_add, mkA_add]
      have := VRel.ro (rd := rdAll w) (φ := noPhi) sz (l.map E) b q cap (fun i j => (w.cell? (mkA b (q + i * sz + j))).getD undef) (by simp; omega)
        (fun i j c hc => (hcell i j c hc).1)
        (fun i j c hc => by obtain ⟨-, v, hv, -⟩ := hcell i j c hc; simp only [rdAll]; rw [hv]; rfl)
        (fun i j c hc => by obtain ⟨-, v, hv, hr⟩ := hcell i j c hc; rw [hv]; exact hr)
      rw [List.length_map, hll] at this
      exact this

/-- The fields of a struct, one behind the other. -/
def OpensF (P : Program) (fl : List (Nat × Nat)) (o sz : Nat) {α : Type} (E : α → List AV) (Wf : α → Prop) : Prop :=
  (∀ a, (E a).length = sz ∧ ∀ c ∈ E a, sfc c = true) ∧
    ∀ (H : Type) (enc : TypeId × Value → H) (w : World) (n : Nat) (cs : List Value) (xs : List (DataW H × List MemPlace)),
      (∀ (i : Nat) (f : Nat × Nat), fl[i]? = some f → DataW.trod enc P w 0 (fun _ => true) true n f.1 ((cs.drop f.2).take (P.cellsOf f.1)) = xs[i]?) → xs.length = fl.length → cs.length = o + sz → ∃ a, Wf a ∧ PW (rdAll w) noPhi (E a) (cs.drop o)
theorem opensF_nil {P : Program} {o : Nat} : OpensF P [] o 0 (fun _ : Unit => []) (fun _ => True) :=
  ⟨fun a => ⟨rfl, by simp⟩, fun H enc w n cs xs _ _ hl => ⟨(), trivial, by rw [List.drop_eq_nil_of_le (by omega)]; exact PW.nil⟩⟩
theorem opensF_cons {P : Program} {t : TypeId} {fl : List (Nat × Nat)} {o s1 s2 : Nat} {α β : Type} {E1 : α → List AV} {W1 : α → Prop} {E2 : β → List AV} {W2 : β → Prop} (h1 : OpensC P t s1 E1 W1) (h2 : OpensF P fl (o + s1) s2 E2 W2) :
    OpensF P ((t, o) :: fl) o (s1 + s2) (fun x : α × β => E1 x.1 ++ E2 x.2) (fun x => W1 x.1 ∧ W2 x.2) := by
  obtain ⟨a1, a2, a3⟩ := h1
  obtain ⟨b1, b2⟩ := h2
  refine ⟨fun x => ⟨by rw [List.length_append, (a2 x.1).1, (b1 x.2).1], fun c hc => ?_⟩, fun H enc w n cs xs hx hl hcs => ?_⟩
  · rcases List.mem_append.1 hc with hc | hc
    · exact (a2 _).2 c hc
    · exact (b1 _).2 c hc
  · cases xs with
    | nil => simp at hl
    | cons x xs =>
      obtain ⟨a, ha, hpa⟩ := a3 H enc w n _ _ (hx 0 (t, o) rfl)
      obtain ⟨b, hb, hpb⟩ := b2 H enc w n cs xs (fun i f hf => by simpa using hx (i + 1) f (by simpa using hf)) (by simpa using hl) (by omega)
      refine ⟨(a, b), ⟨ha, hb⟩, ?_⟩
      have := hpa.append hpb
      rw [a1, ← List.drop_drop, List.take_append_drop] at this
      exact this
theorem opens_struct {P : Program} {t : TypeId} {fs : Array Field} {fl : List (Nat × Nat)} {sz : Nat} {α : Type} {E : α → List AV} {Wf : α → Prop} (ht : P.underlying t = some (.struct fs)) (hs : P.cellsOf t = sz)
    (hf : fs.toList.map (fun f => (f.type, f.offset)) = fl) (h : OpensF P fl 0 sz E Wf) : OpensC P t sz E Wf := by
  obtain ⟨b1, b2⟩ := h
  refine ⟨hs, b1, fun H enc w fuel cs x hx => ?_⟩
  obtain ⟨xs, n, rfl, rfl, hl, hn, hi⟩ := DataW.trod_struct ht hx
  subst hf
  have := b2 H enc w n cs xs (fun i f hf => by
    rw [List.getElem?_map] at hf
    obtain ⟨f', hf', rfl⟩ := Option.map_eq_some_iff.1 hf
    exact hi i f' (by simpa using hf')) (by simp [hn]) (by omega)
  simpa using this
/-- Of one kind, as of another. -/
theorem OpensC.map {P : Program} {t : TypeId} {sz : Nat} {α β : Type} {E : α → List AV} {Wf : α → Prop} (h : OpensC P t sz E Wf) (g : α → β) (F : β → List AV) (Wg : β → Prop) (hF : ∀ b, (F b).length = sz ∧ ∀ c ∈ F b, sfc c = true)
    (hE : ∀ a, F (g a) = E a) (hW : ∀ a, Wf a → Wg (g a)) : OpensC P t sz F Wg :=
  ⟨h.1, hF, fun H enc w fuel cs x hx => by obtain ⟨a, ha, hp⟩ := h.2.2 H enc w fuel cs x hx; exact ⟨g a, hW a ha, by rw [hE]; exact hp⟩⟩

/-- An argument that is a struct. -/
theorem open_agg {P : Program} {t : TypeId} {sz : Nat} {α : Type} {E : α → List AV} {Wf : α → Prop} (h : OpensC P t sz E Wf) {H : Type} {enc : TypeId × Value → H} {W : World} {arr : Array Value} {d : DataW H} {ps : List MemPlace}
    (hd : DataW.Trod enc P W 0 (fun _ => true) true t (.agg arr) d ps) : ∃ a, Wf a ∧ VRel (rdAll W) noPhi (.agg (E a)) (.agg arr) := by
  obtain ⟨fuel, hf⟩ := hd
  obtain ⟨a, ha, hp⟩ := h.2.2 _ _ _ _ _ _ hf
  exact ⟨a, ha, PW.agg hp⟩
/-- .. and one of a single cell. -/
theorem open_cell {P : Program} {t : TypeId} {α : Type} {E : α → AV} {Wf : α → Prop} (h : OpensC P t 1 (fun a => [E a]) Wf) {H : Type} {enc : TypeId × Value → H} {W : World} {v : Value} (hv : v.cells = #[v]) {d : DataW H} {ps : List MemPlace}
    (hd : DataW.Trod enc P W 0 (fun _ => true) true t v d ps) : ∃ a, Wf a ∧ VRel (rdAll W) noPhi (E a) v := by
  obtain ⟨fuel, hf⟩ := hd
  rw [hv] at hf
  obtain ⟨a, ha, hp⟩ := h.2.2 _ _ _ _ _ _ hf
  obtain ⟨u, us, e1, e2, -⟩ := hp.uncons
  simp only [List.cons.injEq] at e1
  exact ⟨a, ha, e1.1 ▸ e2⟩

/-- THE CALL that a row asks for, out of the contract. -/
theorem calls_of {P : Program} {n : Nat} {args : List AV} {b : Bool} (h : CallR P n args (.sc (.bool b)) []) {W : World} {cargs : Array Value} (hp : PW (rdAll W) noPhi args cargs.toList) :
    Calls P n cargs W fun e W' => e = .returned (.bool b) ∧ Below W.heap.size W W' := by
  refine (h.2 W (rdAll W) cargs (fun _ _ _ h => h) hp).mono ?_
  rintro e W' ⟨v, rd', ψ, rfl, _, hh, hv⟩
  rw [sc_inv hv]
  exact ⟨rfl, hh.os, hh.tape, hh.output, hh.size, fun k hk => hh.frame k hk (fun h => h)⟩
attribute [go_sem_proc] Nat.reduceBEq Nat.reduceAdd Nat.reduceSub Nat.reduceMul Nat.reduceMod Nat.reduceDiv Nat.reduceLT Nat.reduceLeDiff Int.reduceEq Int.reduceLT Int.reduceLE Int.reduceToNat Int.reduceBNe Int.reduceBEq reduceCtorEq
end Go.Proofs.Ytkhemolkhegppaa.E
