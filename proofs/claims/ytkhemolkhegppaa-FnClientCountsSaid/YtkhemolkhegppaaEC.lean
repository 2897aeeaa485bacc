/-
  E, part C: the operations on memory, abstractly, and that the model's operations do what they say.
-/
import Derived.Test.YtkhemolkhegppaaEB
import Derived.ChangeKeysEq
namespace Go.Proofs.Ytkhemolkhegppaa.E
open Go Go.RowKit
set_option linter.unusedVariables false

inductive TK where
  | bool | int (k : IntKind) | string | slice | array | struct | pointer | map | other
  deriving DecidableEq

def kindOf : TypeDesc → TK
  | .bool => .bool
  | .int k => .int k
  | .string => .string
  | .slice _ => .slice
  | .array _ _ => .array
  | .struct _ => .struct
  | .pointer _ => .pointer
  | .map _ _ => .map
  | _ => .other
def isAgD : TypeDesc → Bool
  | .struct _ | .array _ _ => true
  | _ => false
def elOf : TypeDesc → Nat
  | .slice e | .array _ e | .pointer e => e
  | _ => 0
def lenOfD : TypeDesc → Nat
  | .array n _ => n
  | _ => 0

def absC (v : Value) : AV :=
  match v with
  | .slice none 0 0 => .nilS
  | v => match scal v with
    | true => .sc v
    | false => .dead
def absV : Value → AV
  | .agg cs => .agg (cs.toList.map absC)
  | .tuple cs => .tup (cs.toList.map absC)
  | v => absC v

/-- What of a type the operations ask. -/
structure TI where
  sz : Nat
  bytes : Nat
  ag : Bool
  zero : Option (List AV)
  flds : List (Nat × Nat)
  el : Nat
  n : Nat
  k : TK

def ti (P : Program) (t : TypeId) : Option TI :=
  match P.info? t, P.underlying t with
  | some i, some d => some ⟨i.size, i.bytes, isAgD d, i.zero.map (fun z => z.cells.toList.map absC),
      (match d with | .struct fs => fs.toList.map fun f => (f.offset, P.cellsOf f.type) | _ => []), elOf d, lenOfD d, kindOf d⟩
  | _, _ => none

theorem ti_some {P : Program} {t : TypeId} {x : TI} (h : ti P t = some x) : ∃ i d, P.info? t = some i ∧ P.underlying t = some d ∧ x.sz = i.size ∧ x.bytes = i.bytes ∧ x.ag = isAgD d ∧
    x.zero = i.zero.map (fun z => z.cells.toList.map absC) ∧ x.flds = (match d with | .struct fs => fs.toList.map fun f => (f.offset, P.cellsOf f.type) | _ => []) ∧
    x.el = elOf d ∧ x.n = lenOfD d ∧ x.k = kindOf d := by
  unfold ti at h
  split at h
  · rename_i i d h1 h2
    have h := Option.some.inj h
    subst h
    exact ⟨i, d, h1, h2, rfl, rfl, rfl, rfl, rfl, rfl, rfl, rfl⟩
  · simp at h

section
variable {rd : RD} {φ : Phi}

theorem absC_rel (v : Value) : VRel rd φ (absC v) v := by
  unfold absC
  split
  · exact .nilS
  · split
    · exact .sc _ ‹_›
    · exact .dead _

/-- Lists of cells, one by one. -/
def PW (rd : RD) (φ : Phi) (cs : List AV) (vs : List Value) : Prop := cs.length = vs.length ∧ ∀ (j : Nat) (c : AV), cs[j]? = some c → ∃ v, vs[j]? = some v ∧ VRel rd φ c v

theorem PW.agg {cs : List AV} {arr : Array Value} (h : PW rd φ cs arr.toList) : VRel rd φ (.agg cs) (.agg arr) := by
  refine .agg cs arr (fun j => arr.getD j undef) (by rw [h.1]; simp) (fun j c hc => ?_) (fun j c hc => ?_)
  · obtain ⟨v, hv, _⟩ := h.2 j c hc
    have hv' : arr[j]? = some v := by simpa using hv
    simp [hv']
  · obtain ⟨v, hv, hr⟩ := h.2 j c hc
    have hv' : arr[j]? = some v := by simpa using hv
    simpa [hv'] using hr
theorem PW.tup {cs : List AV} {arr : Array Value} (h : PW rd φ cs arr.toList) : VRel rd φ (.tup cs) (.tuple arr) := by
  refine .tup cs arr (fun j => arr.getD j undef) (by rw [h.1]; simp) (fun j c hc => ?_) (fun j c hc => ?_)
  · obtain ⟨v, hv, _⟩ := h.2 j c hc
    have hv' : arr[j]? = some v := by simpa using hv
    simp [hv']
  · obtain ⟨v, hv, hr⟩ := h.2 j c hc
    have hv' : arr[j]? = some v := by simpa using hv
    simpa [hv'] using hr
theorem PW.of_agg {cs : List AV} {v : Value} (h : VRel rd φ (.agg cs) v) : ∃ arr, v = .agg arr ∧ PW rd φ cs arr.toList := by
  cases h with
  | agg _ arr f hs hg hv => exact ⟨arr, rfl, by simp [hs], fun j c hc => ⟨f j, by simpa using hg j c hc, hv j c hc⟩⟩
theorem PW.of_tup {cs : List AV} {v : Value} (h : VRel rd φ (.tup cs) v) : ∃ arr, v = .tuple arr ∧ PW rd φ cs arr.toList := by
  cases h with
  | tup _ arr f hs hg hv => exact ⟨arr, rfl, by simp [hs], fun j c hc => ⟨f j, by simpa using hg j c hc, hv j c hc⟩⟩
theorem PW.absC (vs : List Value) : PW rd φ (vs.map absC) vs :=
  ⟨by simp, fun j c hc => by
    rw [List.getElem?_map] at hc
    cases hv : vs[j]? with
    | none => rw [hv] at hc; cases hc
    | some v => rw [hv] at hc; cases hc; exact ⟨v, rfl, absC_rel v⟩⟩
theorem absV_rel (v : Value) : VRel rd φ (absV v) v := by
  unfold absV
  split
  · exact PW.agg (PW.absC _)
  · exact PW.tup (PW.absC _)
  · exact absC_rel _

def cellsA : AV → List AV
  | .agg cs => cs
  | v => [v]
theorem cellsA_rel {a : AV} {v : Value} (h : VRel rd φ a v) (hc : (cellsA a).all cellB = true) : PW rd φ (cellsA a) v.cells.toList ∧ ∀ x ∈ v.cells.toList, x.oneCell' = true := by
  have key : cellB a = true → PW rd φ [a] v.cells.toList ∧ ∀ x ∈ v.cells.toList, x.oneCell' = true := by
    intro hb
    have h1 := h.one hb
    have hcells : v.cells = #[v] := by cases v <;> first | rfl | (simp [Value.oneCell'] at h1; done)
    rw [hcells]
    refine ⟨⟨rfl, fun j c hj => ?_⟩, fun x hx => ?_⟩
    · cases j with
      | zero => simp at hj; subst hj; exact ⟨v, rfl, h⟩
      | succ j => simp at hj
    · simp at hx; subst hx; exact h1
  cases a with
  | agg cs =>
    obtain ⟨arr, rfl, hp⟩ := PW.of_agg h
    refine ⟨hp, fun x hx => ?_⟩
    replace hx : x ∈ arr.toList := hx
    obtain ⟨j, hj⟩ := List.getElem?_of_mem hx
    have hj' : j < cs.length := by
      rw [hp.1]
      rcases Nat.lt_or_ge j arr.toList.length with h' | h'
      · exact h'
      · rw [List.getElem?_eq_none h'] at hj; cases hj
    have hcj : cs[j]? = some cs[j] := List.getElem?_eq_getElem hj'
    obtain ⟨u, hu, hr⟩ := hp.2 j _ hcj
    rw [hj] at hu
    cases hu
    exact hr.one (List.all_eq_true.1 hc _ (List.mem_of_getElem? hcj))
  | dead => simp [cellsA, cellB] at hc
  | tup vs => simp [cellsA, cellB] at hc
  | it r => simp [cellsA, cellB] at hc
  | _ => exact key rfl

theorem PW.drop {cs : List AV} {vs : List Value} (h : PW rd φ cs vs) (n : Nat) : PW rd φ (cs.drop n) (vs.drop n) :=
  ⟨by simp [h.1], fun j c hc => by rw [List.getElem?_drop] at hc ⊢; exact h.2 _ _ hc⟩
theorem PW.take {cs : List AV} {vs : List Value} (h : PW rd φ cs vs) (n : Nat) : PW rd φ (cs.take n) (vs.take n) :=
  ⟨by simp [h.1], fun j c hc => by
    rw [List.getElem?_take] at hc ⊢
    split at hc
    · rw [if_pos ‹_›]; exact h.2 _ _ hc
    · cases hc⟩
theorem PW.append {cs ds : List AV} {vs us : List Value} (h : PW rd φ cs vs) (k : PW rd φ ds us) : PW rd φ (cs ++ ds) (vs ++ us) :=
  ⟨by simp [h.1, k.1], fun j c hc => by
    rw [List.getElem?_append] at hc ⊢
    rw [← h.1]
    split at hc
    · rw [if_pos ‹_›]; exact h.2 _ _ hc
    · rw [if_neg ‹_›]; exact k.2 _ _ hc⟩
theorem PW.nil : PW rd φ [] [] := ⟨rfl, fun j c h => by simp at h⟩

end

/-- Cells o, o + 1, .. of an element, as a value of the type. -/
def ldC (i : TI) (cs : List AV) (o : Nat) : Option AV :=
  match i.ag with
  | true => match Nat.ble (o + i.sz) cs.length with
    | true => some (.agg ((cs.drop o).take i.sz))
    | false => none
  | false => cs[o]?
/-- An element behind a store. -/
def stC (i : TI) (cs : List AV) (o : Nat) (v : AV) : Option (List AV) :=
  match (cellsA v).all cellB, Nat.beq (cellsA v).length i.sz, Nat.ble (o + i.sz) cs.length with
  | true, true, true => some (cs.take o ++ cellsA v ++ cs.drop (o + i.sz))
  | _, _, _ => none

def absAlloc (P : Program) (d G : Nat) (σ : Sig) (t : Nat) : Option (AV × Sig) :=
  (ti P t).bind fun i => i.zero.bind fun z => match Nat.beq z.length i.sz with
    | true => some (.ptr d G [] i.sz 0 0, setA σ d (G, one ⟨i.sz, [z], 0, false⟩))
    | false => none
def absBox (P : Program) (d G : Nat) (σ : Sig) (t : Nat) (v : AV) : Option (AV × Sig) :=
  (ti P t).bind fun i => match (cellsA v).all cellB, Nat.beq (cellsA v).length i.sz with
    | true, true => some (.ptr d G [] i.sz 0 0, setA σ d (G, one ⟨i.sz, [cellsA v], 0, false⟩))
    | _, _ => none
def absLoad (P : Program) (σ : Sig) (t : Nat) (a : AV) : Option AV :=
  (ti P t).bind fun i => match a with
    | .ptr r g p sz k o => (rowAt σ r g p).bind fun row => match Nat.beq sz row.sz with
      | true => (row.es[k]?).bind fun cs => ldC i cs o
      | false => none
    | .rp cs => ldC i cs 0
    | _ => none
/-- A part of a row. -/
def sub (off len : Nat) (es : List (List AV)) : List (List AV) := (es.drop off).take len
def ifLe {α : Type} (a b : Nat) (x : Option α) : Option α := match Nat.ble a b with
  | true => x
  | false => none
/-- A slice of one's own is frozen: it is a read-only one from now on. -/
def frzC (σ : Sig) : AV → Option (Sig × AV)
  | .blk r g p sz off len => (lookA σ r).bind fun gf => match Nat.beq gf.1 g with
    | true => (gf.2 p).bind fun row => match Nat.beq sz row.sz, Nat.ble 1 row.fl with
      | true, true => ifLe (off + len) row.es.length (match row.ao with
        | true => some (σ, .ro sz (sub off len row.es))
        | false => some (setA σ r (g, fset gf.2 p ⟨row.sz, row.es, row.fl, true⟩), .ro sz (sub off len row.es)))
      | _, _ => none
    | false => none
  | .ptr .. | .dead | .agg _ | .tup _ | .rp _ | .it _ => none
  | v => some (σ, v)
def frzL (σ : Sig) : List AV → Option (Sig × List AV)
  | [] => some (σ, [])
  | c :: cs => (frzC σ c).bind fun x => (frzL x.1 cs).map fun y => (y.1, x.2 :: y.2)
def frz (σ : Sig) : AV → Option (Sig × AV)
  | .agg cs => (frzL σ cs).map fun x => (x.1, .agg x.2)
  | v => frzC σ v
def frzAll (σ : Sig) : List AV → Option (Sig × List AV)
  | [] => some (σ, [])
  | c :: cs => (frz σ c).bind fun x => (frzAll x.1 cs).map fun y => (y.1, x.2 :: y.2)
def isVar (σ : Sig) (r g : Nat) (p : List Nat) : Bool := match rowAt σ r g p with
  | some row => Nat.beq row.fl 0
  | none => true
def stRow (i : TI) (σ : Sig) (r g : Nat) (p : List Nat) (sz k o : Nat) (v : AV) : Option Sig :=
  (lookA σ r).bind fun gf => match Nat.beq gf.1 g with
    | true => (gf.2 p).bind fun row => match Nat.beq sz row.sz, row.ao with
      | true, false => (row.es[k]?).bind fun cs => (stC i cs o v).bind fun cs' => some (setA σ r (g, fset gf.2 p ⟨row.sz, row.es.set k cs', min row.fl (flC (cellsA v)), false⟩))
      | _, _ => none
    | false => none
def absStore (P : Program) (σ : Sig) (t : Nat) (a v : AV) : Option Sig :=
  (ti P t).bind fun i => match a with
    | .ptr r g p sz k o => match isVar σ r g p with
      | true => stRow i σ r g p sz k o v
      | false => (frz σ v).bind fun x => stRow i x.1 r g p sz k o x.2
    | _ => none
def absFieldAddr (P : Program) (t : Nat) (a : AV) (f : Nat) : Option AV :=
  (ti P t).bind fun i => match i.k with
    | .struct => (i.flds[f]?).bind fun of => match Nat.beq of.2 0 with
      | true => none
      | false => match a with
        | .ptr r g p sz k o => some (.ptr r g p sz k (o + of.1))
        | .rp cs => some (.rp (cs.drop of.1))
        | _ => none
    | _ => none

section
variable {P : Program} {rd : RD} {φ : Phi} {O : Nat → Prop} {w0 w : World} {σ : Sig} {d G : Nat}

/-- What is known behind an operation. -/
def After (rd : RD) (φ : Phi) (O : Nat → Prop) (w0 : World) (d G : Nat) (σ' : Sig) (v : AV) (r : Result Value) : Prop :=
  ∃ cv w' φ', r = .ok cv w' ∧ HRel rd φ' O w0 σ' w' ∧ VRel rd φ' v cv ∧ (∀ r g p pl, φ r g p = some pl → φ' r g p = some pl) ∧ (∀ r g p, φ' r g p ≠ none → φ r g p ≠ none ∨ (r = d ∧ g = G))

/-- .. behind one that makes nothing. -/
def After0 (rd : RD) (φ : Phi) (O : Nat → Prop) (w0 : World) (σ' : Sig) (v : AV) (r : Result Value) : Prop := ∃ cv w', r = .ok cv w' ∧ HRel rd φ O w0 σ' w' ∧ VRel rd φ v cv
theorem After0.same {σ : Sig} (h : HRel rd φ O w0 σ w) {v : AV} {cv : Value} {r : Result Value} (hr : r = .ok cv w) (hv : VRel rd φ v cv) : After0 rd φ O w0 σ v r := ⟨cv, w, hr, h, hv⟩

theorem phiSet_new {φ : Phi} {d G : Nat} {ψ : List Nat → Option Pl} (r g : Nat) (p : List Nat) (h : phiSet φ d G ψ r g p ≠ none) : φ r g p ≠ none ∨ (r = d ∧ g = G) := by
  unfold phiSet at h
  split at h
  · exact .inr ‹_›
  · exact .inl h

/-- A new variable. -/
theorem after_newVar (h : HRel rd φ O w0 σ w) (hfr : ∀ p, φ d G p = none) {cs : List AV} {arr : Array Value} (hp : PW rd φ cs arr.toList) (T : TypeId) (sz : Nat) (hs : cs.length = sz) :
    After rd φ O w0 d G (setA σ d (G, one ⟨sz, [cs], 0, false⟩)) (.ptr d G [] sz 0 0) (.ok (.pointer (some ⟨w.heap.size, 0, none⟩)) (w.alloc (.cells arr T))) := by
  have hn := h.newRow hfr ⟨sz, [cs], 0, false⟩ rfl 1 arr T (0, 0) (.inr (Nat.le_refl _)) (by simp [hs]) (by simp) (by have := hp.1; simp at this; simp; omega)
    (fun e he => ⟨fun h => absurd h (by simp), fun h => absurd h (by simp)⟩)
    (fun i j c hc => by
      cases i with
      | zero =>
        simp only [List.getElem?_cons_zero, Option.bind_some] at hc
        obtain ⟨v, hv, hr⟩ := hp.2 j c hc
        exact ⟨v, by simpa using hv, hr⟩
      | succ i => simp at hc)
  refine ⟨_, _, _, rfl, hn.1, ?_, hn.2, fun r g p hh => phiSet_new r g p hh⟩
  have := VRel.ptr (rd := rd) (φ := phiSet φ d G fun p => match p with | [] => some ⟨some (w.heap.size, 0), 1⟩ | _ => none) d G [] sz 0 0 ⟨some (w.heap.size, 0), 1⟩ w.heap.size 0 (by simp [phiSet]) rfl
  simp only [Nat.zero_mul, Nat.add_zero] at this
  exact this

theorem alloc_sound (h : HRel rd φ O w0 σ w) (hfr : ∀ p, φ d G p = none) {t : Nat} {v : AV} {σ' : Sig} (ha : absAlloc P d G σ t = some (v, σ')) (old : Value) :
    After rd φ O w0 d G σ' v ((Instr.alloc t true old).run P w) := by
  unfold absAlloc at ha
  obtain ⟨i, hi, ha⟩ := Option.bind_eq_some_iff.1 ha
  obtain ⟨z, hz, ha⟩ := Option.bind_eq_some_iff.1 ha
  split at ha
  · cases ha
    obtain ⟨inf, dsc, h1, h2, h3, h4, h5, h6, -⟩ := ti_some hi
    rw [h6] at hz
    obtain ⟨zv, hzv, rfl⟩ := Option.map_eq_some_iff.1 hz
    have hl := Nat.eq_of_beq_eq_true ‹Nat.beq _ _ = true›
    have hrun : (Instr.alloc t true old).run P w = .ok (.pointer (some ⟨w.heap.size, 0, none⟩)) (w.alloc (.cells zv.cells t)) := by
      simp [Instr.alloc, zeroValue, typeInfo, h1, hzv, newVar, newRow]
    rw [hrun]
    exact after_newVar h hfr (PW.absC _) t _ hl
  · cases ha

theorem box_sound (h : HRel rd φ O w0 σ w) (hfr : ∀ p, φ d G p = none) {t : Nat} {x v : AV} {cx : Value} (hx : VRel rd φ x cx) {σ' : Sig} (ha : absBox P d G σ t x = some (v, σ')) :
    After rd φ O w0 d G σ' v ((Instr.box t cx).run P w) := by
  unfold absBox at ha
  obtain ⟨i, hi, ha⟩ := Option.bind_eq_some_iff.1 ha
  split at ha
  · cases ha
    have hl := Nat.eq_of_beq_eq_true ‹Nat.beq _ _ = true›
    have hrun : (Instr.box t cx).run P w = .ok (.pointer (some ⟨w.heap.size, 0, none⟩)) (w.alloc (.cells cx.cells t)) := by
      simp [Instr.box, newVar, newRow]
    rw [hrun]
    exact after_newVar h hfr (cellsA_rel hx ‹_›).1 t _ hl
  · cases ha

/-- The cells of one element of a row, where they lie. -/
theorem row_cells (h : HRel rd φ O w0 σ w) {r g : Nat} {p : List Nat} {row : Row} (hr : rowAt σ r g p = some row) {k : Nat} {cs : List AV} (hk : row.es[k]? = some cs) :
    ∃ pl, φ r g p = some pl ∧ RowOK rd φ w pl row ∧ cs.length = row.sz ∧ k < pl.cap ∧ ∀ b q, pl.ad = some (b, q) → ∀ j c, cs[j]? = some c → ∃ v, w.cell? (mkA b (q + k * row.sz + j)) = some v ∧ VRel rd φ c v := by
  obtain ⟨pl, hp, hok⟩ := h.rows _ _ _ _ hr
  have hlt : k < row.es.length := by
    rcases Nat.lt_or_ge k row.es.length with hx | hx
    · exact hx
    · rw [List.getElem?_eq_none hx] at hk; cases hk
  exact ⟨pl, hp, hok, hok.wide cs (List.mem_of_getElem? hk), Nat.lt_of_lt_of_le hlt hok.len, fun b q had j c hc => hok.cells b q had k j c (by rw [hk]; exact hc)⟩

theorem isAgD_isRow (dsc : TypeDesc) : dsc.isRow = isAgD dsc := by cases dsc <;> rfl

theorem ldC_sound {t : Nat} {i : TI} (hi : ti P t = some i) {cs : List AV} {b q : Nat} (hc : ∀ j c, cs[j]? = some c → ∃ v, w.cell? (mkA b (q + j)) = some v ∧ VRel rd φ c v) {o : Nat} {v : AV} (hl : ldC i cs o = some v) :
    ∃ cv, (Instr.loadAt t (.pointer (some (mkA b (q + o))))).run P w = .ok cv w ∧ VRel rd φ v cv := by
  obtain ⟨inf, dsc, h1, h2, h3, h4, h5, -⟩ := ti_some hi
  unfold ldC at hl
  split at hl
  · rename_i hag
    split at hl
    · rename_i hle
      cases hl
      have hle := Nat.le_of_ble_eq_true hle
      have hall : ∀ j, j < i.sz → ∃ c v, cs[o + j]? = some c ∧ w.cell? (mkA b (q + o + j)) = some v ∧ VRel rd φ c v := by
        intro j hj
        have hlt : o + j < cs.length := by omega
        obtain ⟨v, hv, hr⟩ := hc (o + j) _ (List.getElem?_eq_getElem hlt)
        exact ⟨_, v, List.getElem?_eq_getElem hlt, by rw [Nat.add_assoc]; exact hv, hr⟩
      let vs : List Value := (List.range i.sz).map fun j => (w.cell? (mkA b (q + o + j))).getD undef
      have hvs : ∀ j v, vs[j]? = some v → w.cell? ⟨b, q + o + j, none⟩ = some v := by
        intro j v hj
        simp only [vs, List.getElem?_map] at hj
        obtain ⟨j', hj', hj2⟩ := Option.map_eq_some_iff.1 hj
        have hjj : j < i.sz ∧ j' = j := by
          rcases Nat.lt_or_ge j i.sz with hx | hx
          · rw [List.getElem?_range hx] at hj'; cases hj'; exact ⟨hx, rfl⟩
          · rw [List.getElem?_eq_none (by simpa using hx)] at hj'; cases hj'
        obtain ⟨hjlt, rfl⟩ := hjj
        obtain ⟨c, u, _, hu, _⟩ := hall j' hjlt
        rw [hu] at hj2
        simp at hj2
        rw [← hj2]
        exact hu
      refine ⟨.agg vs.toArray, run_loadAt_mid w b (q + o) t vs dsc hvs h2 (by rw [isAgD_isRow, ← h5, hag]) (by rw [h1]; simp [vs, h3]), PW.agg ⟨?_, ?_⟩⟩
      · simp [vs]; omega
      · intro j c hj
        rw [List.getElem?_take] at hj
        split at hj
        · rename_i hjlt
          rw [List.getElem?_drop] at hj
          obtain ⟨c', u, hc', hu, hr⟩ := hall j hjlt
          rw [hj] at hc'
          cases hc'
          refine ⟨u, ?_, hr⟩
          simp only [vs, List.getElem?_map]
          rw [List.getElem?_range hjlt]
          simp [hu]
        · cases hj
    · cases hl
  · rename_i hag
    obtain ⟨u, hu, hr⟩ := hc o v hl
    refine ⟨u, ?_, hr⟩
    have hagg : (isAgg t).run P w = .ok false w := by
      unfold isAgg
      rw [Sem.run_bind, run_underlying h2 w]
      have : isAgD dsc = false := by rw [← h5, hag]
      cases dsc <;> simp_all [isAgD]
    simp [Instr.loadAt, Instr.sureAddr, loadVar, hagg, hu]

theorem load_val (h : HRel rd φ O w0 σ w) {t : Nat} {x v : AV} {cx : Value} (hx : VRel rd φ x cx) (ha : absLoad P σ t x = some v) :
    ∃ cv, (Instr.loadAt t cx).run P w = .ok cv w ∧ VRel rd φ v cv := by
  unfold absLoad at ha
  obtain ⟨i, hi, ha1⟩ := Option.bind_eq_some_iff.1 ha
  clear ha
  cases hx with
  | ptr r g p sz k o pl b q hφ had =>
    simp only at ha1
    obtain ⟨row, hrow, ha2⟩ := Option.bind_eq_some_iff.1 ha1
    clear ha1
    split at ha2
    · rename_i hsz
      obtain ⟨cs, hcs, ha3⟩ := Option.bind_eq_some_iff.1 ha2
      have hsz := Nat.eq_of_beq_eq_true hsz
      subst hsz
      obtain ⟨pl', hp', hok, hlen, hk, hcell⟩ := row_cells h hrow hcs
      rw [hφ] at hp'
      cases hp'
      obtain ⟨cv, h1, h2⟩ := ldC_sound (P := P) (w := w) (rd := rd) (φ := φ) hi (b := b) (q := q + k * row.sz) (hcell b q had) ha3
      exact ⟨cv, h1, h2⟩
    · cases ha2
  | rp cs b q f hs hr hv =>
    simp only at ha1
    obtain ⟨cv, h1, h2⟩ := ldC_sound (P := P) (w := w) (rd := rd) (φ := φ) hi (b := b) (q := q) (fun j c hj => ⟨f j, h.rdok _ _ _ (hr j c hj), hv j c hj⟩) ha1
    exact ⟨cv, by simpa using h1, h2⟩
  | _ => simp at ha1

theorem load_sound (h : HRel rd φ O w0 σ w) {t : Nat} {x v : AV} {cx : Value} (hx : VRel rd φ x cx) (ha : absLoad P σ t x = some v) :
    After0 rd φ O w0 σ v ((Instr.loadAt t cx).run P w) := by
  obtain ⟨cv, h1, h2⟩ := load_val h hx ha
  exact .same h h1 h2

theorem stRow_sound (h : HRel rd φ O w0 σ w) {t : Nat} {i : TI} (hi : ti P t = some i) {r g : Nat} {p : List Nat} {sz k o : Nat} {y : AV} {cx cy : Value} (hx : VRel rd φ (.ptr r g p sz k o) cx) (hy : VRel rd φ y cy)
    {σ' : Sig} (ha1 : stRow i σ r g p sz k o y = some σ') :
    ∃ w', (Instr.storeAt t cx cy).run P w = .ok () w' ∧ HRel rd φ O w0 σ' w' := by
  unfold stRow at ha1
  cases hx with
  | ptr _ _ _ _ _ _ pl b q hφ had =>
    obtain ⟨⟨g', f⟩, hl, ha2⟩ := Option.bind_eq_some_iff.1 ha1
    clear ha1
    split at ha2
    · rename_i hg
      have hg := Nat.eq_of_beq_eq_true hg
      simp only at hg
      subst hg
      obtain ⟨row, hrow, ha3⟩ := Option.bind_eq_some_iff.1 ha2
      clear ha2
      split at ha3
      · rename_i hsz hmu
        have hsz := Nat.eq_of_beq_eq_true hsz
        subst hsz
        obtain ⟨cs, hcs, ha4⟩ := Option.bind_eq_some_iff.1 ha3
        obtain ⟨cs', hst, ha5⟩ := Option.bind_eq_some_iff.1 ha4
        have ha5 := Option.some.inj ha5
        subst ha5
        clear ha3 ha4
        unfold stC at hst
        split at hst
        · rename_i hb1 hb2 hb3
          cases hst
          have hb2 := Nat.eq_of_beq_eq_true hb2
          have hb3 := Nat.le_of_ble_eq_true hb3
          obtain ⟨hpw, hone⟩ := cellsA_rel hy hb1
          have hrow' : f p = some row := hrow
          have hat : rowAt σ r g' p = some row := by unfold rowAt; rw [hl]; simp [hrow']
          obtain ⟨pl', hp', hok, hlen, hk, hcell⟩ := row_cells h hat hcs
          rw [hφ] at hp'
          cases hp'
          obtain ⟨inf, dsc, h1, h2, h3, h4, h5, -⟩ := ti_some hi
          have hcells : cy.cells.toList.length = i.sz := by rw [← hpw.1]; exact hb2
          have hin : ∀ j, j < i.sz → k * row.sz + o + j < pl.cap * row.sz := by
            intro j hj
            have e1 : (k + 1) * row.sz ≤ pl.cap * row.sz := Nat.mul_le_mul_right _ hk
            have e2 : (k + 1) * row.sz = k * row.sz + row.sz := Nat.succ_mul _ _
            omega
          have hthere : w.there b (q + k * row.sz + o) cy.cells.size := by
            intro j hj
            have hj' : j < i.sz := by rw [← hcells]; simpa using hj
            have := hok.room b q had _ (hin j hj')
            rwa [show q + (k * row.sz + o + j) = q + k * row.sz + o + j by omega] at this
          have hrun : (Instr.storeAt t (.pointer (some (mkA b (q + k * row.sz + o)))) cy).run P w = .ok () (w.setCells b (q + k * row.sz + o) cy.cells.toList) := by
            have e := run_storeCells_cells (P := P) b (q + k * row.sz + o) cy.cells.toList 0 w (fun j hj => by simpa using (hthere j (by simpa using hj)).1) (fun j hj => by simpa using (hthere j (by simpa using hj)).2) hone
            have hs : cy.cells.size = inf.size := by rw [← h3, ← hcells]; simp
            simp only [Nat.add_zero] at e
            simp [Instr.storeAt, Instr.sureAddr, storeVar, sizeOf, typeInfo, h1, hs, e]
          refine ⟨_, hrun, ?_⟩
          have hklt : k < row.es.length := by
            rcases Nat.lt_or_ge k row.es.length with hx | hx
            · exact hx
            · rw [List.getElem?_eq_none hx] at hcs; cases hcs
          refine h.store hl hrow hφ had hmu ⟨row.sz, row.es.set k (cs.take o ++ cellsA y ++ cs.drop (o + i.sz)), min row.fl (flC (cellsA y)), false⟩ rfl rfl ?_ ?_ ?_ (q + k * row.sz + o) cy.cells.toList ?_
          · intro e he
            rcases List.mem_or_eq_of_mem_set he with he | rfl
            · exact hok.wide e he
            · simp [hb2, ← hlen]; omega
          · simpa using hok.len
          · intro e he
            rcases List.mem_or_eq_of_mem_set he with he | rfl
            · exact (hok.kind e he).le (Nat.min_le_left _ _)
            · refine KOK.min (hok.kind cs (List.mem_of_getElem? hcs)) (KOK.ofC (cellsA y)) (fun c hm => ?_)
              rw [List.mem_append, List.mem_append] at hm
              rcases hm with (hm | hm) | hm
              · exact .inl (List.mem_of_mem_take hm)
              · exact .inr hm
              · exact .inl (List.mem_of_mem_drop hm)
          · intro i2 j2 c hc
            rw [hcells]
            by_cases hki : k = i2
            · subst hki
              rw [List.getElem?_set_self hklt, Option.bind_some] at hc
              have hj2 : j2 < row.sz := by
                have : j2 < (cs.take o ++ cellsA y ++ cs.drop (o + i.sz)).length := by
                  rcases Nat.lt_or_ge j2 (cs.take o ++ cellsA y ++ cs.drop (o + i.sz)).length with hx | hx
                  · exact hx
                  · rw [List.getElem?_eq_none hx] at hc; cases hc
                simp [hb2] at this
                omega
              by_cases hin2 : o ≤ j2 ∧ j2 < o + i.sz
              · rw [if_pos (by omega)]
                rw [List.append_assoc, List.getElem?_append_right (by simp; omega), List.getElem?_append_left (by simp [hb2]; omega)] at hc
                obtain ⟨v, hv, hr⟩ := hpw.2 _ c hc
                refine ⟨v, ?_, hr⟩
                rw [← hv]
                congr 1
                simp
                omega
              · rw [if_neg (by omega)]
                have hcj : cs[j2]? = some c := by
                  rcases Nat.lt_or_ge j2 o with hx | hx
                  · rw [List.append_assoc, List.getElem?_append_left (by simp; omega), List.getElem?_take, if_pos hx] at hc
                    exact hc
                  · rw [List.getElem?_append_right (by simp [hb2]; omega), List.getElem?_drop] at hc
                    rw [← hc]
                    congr 1
                    simp [hb2]
                    omega
                exact hcell b q had j2 c hcj
            · rw [List.getElem?_set_ne hki] at hc
              have hlt2 : j2 < row.sz := by
                cases he : row.es[i2]? with
                | none => simp [he] at hc
                | some e =>
                  simp only [he, Option.bind_some] at hc
                  rw [← hok.wide e (List.mem_of_getElem? he)]
                  rcases Nat.lt_or_ge j2 e.length with hx | hx
                  · exact hx
                  · rw [List.getElem?_eq_none hx] at hc; cases hc
              rw [if_neg]
              · exact hok.cells b q had i2 j2 c hc
              · rintro ⟨e1, e2⟩
                rcases Nat.lt_or_gt_of_ne hki with hx | hx
                · have : (k + 1) * row.sz ≤ i2 * row.sz := Nat.mul_le_mul_right _ hx
                  rw [Nat.succ_mul] at this
                  omega
                · have : (i2 + 1) * row.sz ≤ k * row.sz := Nat.mul_le_mul_right _ hx
                  rw [Nat.succ_mul] at this
                  omega
        · cases hst
      · cases ha3
    · cases ha2

/-- A part of a row that is frozen, as a slice to be read. -/
theorem ro_of_row {pl : Pl} {row : Row} (hok : RowOK rd φ w pl row) (hrd : ∀ b o v, rd b o = some v → w.cell? (mkA b o) = some v) (hao : row.ao = true) {off len : Nat} {A : Option Addr}
    (hA : pl.cap - off = 0 ∨ A = pl.ad.map fun x => mkA x.1 (x.2 + off * row.sz)) (hlen : len ≤ pl.cap - off) (h3 : off + len ≤ row.es.length) (φ' : Phi) :
    VRel rd φ' (.ro row.sz (sub off len row.es)) (.slice A len (pl.cap - off)) := by
  have hcells : ∀ (i j : Nat) (c : AV), (((row.es.drop off).take len)[i]?).bind (·[j]?) = some c → i < len ∧ (row.es[off + i]?).bind (·[j]?) = some c := by
    intro i j c hc
    rw [List.getElem?_take] at hc
    split at hc
    · rw [List.getElem?_drop] at hc
      exact ⟨‹_›, hc⟩
    · cases hc
  have hll : ((row.es.drop off).take len).length = len := by simp; omega
  obtain ⟨h2, hfz⟩ := hok.frz hao
  have hsf : ∀ (i j : Nat) (c : AV), (row.es[i]?).bind (·[j]?) = some c → sfc c = true ∧ i * row.sz + j < row.es.length * row.sz := by
    intro i j c hc
    cases he : row.es[i]? with
    | none => rw [he] at hc; cases hc
    | some e =>
      rw [he] at hc
      have hm := List.mem_of_getElem? he
      refine ⟨(hok.kind e hm).1 h2 c (List.mem_of_getElem? hc), ?_⟩
      have hi : i < row.es.length := by
        rcases Nat.lt_or_ge i row.es.length with hx | hx
        · exact hx
        · rw [List.getElem?_eq_none hx] at he; cases he
      have hj : j < row.sz := by
        rw [← hok.wide e hm]
        rw [Option.bind_some] at hc
        rcases Nat.lt_or_ge j e.length with hx | hx
        · exact hx
        · rw [List.getElem?_eq_none hx] at hc; cases hc
      have e1 : (i + 1) * row.sz ≤ row.es.length * row.sz := Nat.mul_le_mul_right _ hi
      have e2 : (i + 1) * row.sz = i * row.sz + row.sz := Nat.succ_mul _ _
      omega
  unfold sub
  by_cases hz : len = 0
  · subst hz
    simp only [List.take_zero]
    exact .ro0 _ _ _
  · have hcap : pl.cap - off ≠ 0 := by omega
    rcases hA with hA | hA
    · exact absurd hA hcap
    · cases had : pl.ad with
      | none => exact absurd (hok.nil had) (by omega)
      | some bq =>
        obtain ⟨b, q⟩ := bq
        rw [had] at hA
        simp only [Option.map_some] at hA
        subst hA
        have := VRel.ro (rd := rd) (φ := φ') row.sz ((row.es.drop off).take len) b (q + off * row.sz) (pl.cap - off)
          (fun i j => (w.cell? (mkA b (q + off * row.sz + i * row.sz + j))).getD undef) (by rw [hll]; exact hlen)
          (fun i j c hc => by
            obtain ⟨hi, hc⟩ := hcells i j c hc
            exact (hsf _ _ _ hc).1)
          (fun i j c hc => by
            obtain ⟨hi, hc⟩ := hcells i j c hc
            obtain ⟨v, hv, _⟩ := hok.cells b q had _ _ _ hc
            have hf := hfz b q had _ (hsf _ _ _ hc).2
            have e : q + (off + i) * row.sz + j = q + off * row.sz + i * row.sz + j := by rw [Nat.add_mul]; omega
            rw [← Nat.add_assoc, e] at hf
            rw [e] at hv
            rw [hf, hv]
            rfl)
          (fun i j c hc => by
            obtain ⟨hi, hc⟩ := hcells i j c hc
            obtain ⟨v, hv, hr⟩ := hok.cells b q had _ _ _ hc
            have e : q + (off + i) * row.sz + j = q + off * row.sz + i * row.sz + j := by rw [Nat.add_mul]; omega
            rw [e] at hv
            simp only [hv, Option.getD_some]
            have hs := (hsf _ _ _ hc).1
            exact hr.of_sf (by cases c <;> first | rfl | cases hs))
        rw [hll] at this
        exact this

/-- What is known behind a freezing. -/
def Frozen (rd : RD) (φ : Phi) (O : Nat → Prop) (w0 w : World) (σ' : Sig) (R : RD → Prop) : Prop := ∃ rd', Ext O w0 rd rd' ∧ HRel rd' φ O w0 σ' w ∧ R rd'

theorem frzC_sound (h : HRel rd φ O w0 σ w) {c c' : AV} {v : Value} {σ' : Sig} (hv : VRel rd φ c v) (hf : frzC σ c = some (σ', c')) :
    Frozen rd φ O w0 w σ' fun rd' => (∀ φ', VRel rd' φ' c' v) ∧ sfc c' = true := by
  cases hv with
  | blk r g p sz off len pl A hφ hA hlen =>
    simp only [frzC] at hf
    obtain ⟨⟨g', f⟩, hl, hf⟩ := Option.bind_eq_some_iff.1 hf
    simp only at hf
    split at hf
    · rename_i hg
      have hg := Nat.eq_of_beq_eq_true hg
      subst hg
      obtain ⟨row, hrow, hf⟩ := Option.bind_eq_some_iff.1 hf
      split at hf
      · rename_i h1 h2
        have h1 := Nat.eq_of_beq_eq_true h1
        have h2 := Nat.le_of_ble_eq_true h2
        subst h1
        unfold ifLe at hf
        split at hf
        · rename_i h3
          have h3 := Nat.le_of_ble_eq_true h3
          have hat : rowAt σ r g' p = some row := by unfold rowAt; rw [hl]; simp [hrow]
          split at hf
          · rename_i hao
            cases hf
            obtain ⟨pl', hp', hok⟩ := h.rows _ _ _ _ hat
            rw [hφ] at hp'
            cases hp'
            exact ⟨rd, .refl, h, fun φ' => ro_of_row hok h.rdok hao hA hlen h3 φ', rfl⟩
          · cases hf
            obtain ⟨rd', hx, hh⟩ := h.freeze hl hrow h2
            have hat' : rowAt (setA σ r (g', fset f p ⟨row.sz, row.es, row.fl, true⟩)) r g' p = some ⟨row.sz, row.es, row.fl, true⟩ := by rw [rowAt_setA]; simp [fset]
            obtain ⟨pl', hp', hok⟩ := hh.rows _ _ _ _ hat'
            rw [hφ] at hp'
            cases hp'
            exact ⟨rd', hx, hh, fun φ' => ro_of_row hok hh.rdok rfl hA hlen h3 φ', rfl⟩
        · cases hf
      · cases hf
    · cases hf
  | sc v h1 => cases hf; exact ⟨rd, .refl, h, fun φ' => .sc v h1, rfl⟩
  | nilS => cases hf; exact ⟨rd, .refl, h, fun φ' => .nilS, rfl⟩
  | ro0 sz A cap => cases hf; exact ⟨rd, .refl, h, fun φ' => .ro0 _ _ _, rfl⟩
  | ro sz es b q cap f hc hs hr hv =>
    cases hf
    exact ⟨rd, .refl, h, fun φ' => (VRel.ro (φ := φ) sz es b q cap f hc hs hr hv).of_sf rfl, rfl⟩
  | _ => cases hf

theorem PW.cons {c : AV} {v : Value} {cs : List AV} {vs : List Value} (a : VRel rd φ c v) (b : PW rd φ cs vs) : PW rd φ (c :: cs) (v :: vs) :=
  ⟨by simp [b.1], fun j c hc => by
    cases j with
    | zero => cases hc; exact ⟨v, rfl, a⟩
    | succ j => simpa using b.2 j c (by simpa using hc)⟩
theorem PW.uncons {c : AV} {cs : List AV} {vs : List Value} (h : PW rd φ (c :: cs) vs) : ∃ v us, vs = v :: us ∧ VRel rd φ c v ∧ PW rd φ cs us := by
  cases vs with
  | nil => exact absurd h.1 (by simp)
  | cons v us =>
    obtain ⟨v', hv', hr⟩ := h.2 0 c rfl
    cases hv'
    exact ⟨v, us, rfl, hr, by simpa using h.1, fun j c hc => by simpa using h.2 (j + 1) c (by simpa using hc)⟩
theorem PW.mono {rd' : RD} {φ' : Phi} (h1 : ∀ b o v, rd b o = some v → rd' b o = some v) (h2 : ∀ r g p pl, φ r g p = some pl → φ' r g p = some pl) {cs : List AV} {vs : List Value} (h : PW rd φ cs vs) : PW rd' φ' cs vs :=
  ⟨h.1, fun j c hc => by obtain ⟨v, hv, hr⟩ := h.2 j c hc; exact ⟨v, hv, hr.mono h1 h2⟩⟩

theorem frzL_sound : ∀ {cs cs' : List AV} {vs : List Value} {rd : RD} {σ σ' : Sig}, HRel rd φ O w0 σ w → PW rd φ cs vs → frzL σ cs = some (σ', cs') →
    Frozen rd φ O w0 w σ' fun rd' => (∀ φ', PW rd' φ' cs' vs) ∧ ∀ c ∈ cs', sfc c = true
  | [], cs', vs, rd, σ, σ', h, hp, hf => by
    cases hf
    have : vs = [] := List.eq_nil_of_length_eq_zero hp.1.symm
    subst this
    exact ⟨rd, .refl, h, fun _ => PW.nil, fun c hc => by simp at hc⟩
  | c :: cs, cs', vs, rd, σ, σ', h, hp, hf => by
    obtain ⟨v, us, rfl, hr, hp⟩ := hp.uncons
    simp only [frzL] at hf
    obtain ⟨⟨σ1, c1⟩, h1, hf⟩ := Option.bind_eq_some_iff.1 hf
    obtain ⟨⟨σ2, cs2⟩, h2, hf⟩ := Option.map_eq_some_iff.1 hf
    cases hf
    obtain ⟨rd1, x1, k1, v1, s1⟩ := frzC_sound h hr h1
    obtain ⟨rd2, x2, k2, v2, s2⟩ := frzL_sound k1 (hp.mono x1.1 (fun _ _ _ _ h => h)) h2
    refine ⟨rd2, x1.trans x2, k2, fun φ' => PW.cons ((v1 φ').mono x2.1 (fun _ _ _ _ h => h)) (v2 φ'), fun c hc => ?_⟩
    rcases List.mem_cons.1 hc with rfl | hc
    · exact s1
    · exact s2 c hc

theorem frz_sound (h : HRel rd φ O w0 σ w) {c c' : AV} {v : Value} {σ' : Sig} (hv : VRel rd φ c v) (hf : frz σ c = some (σ', c')) :
    Frozen rd φ O w0 w σ' fun rd' => ∀ φ', VRel rd' φ' c' v := by
  cases c with
  | agg cs =>
    obtain ⟨arr, rfl, hp⟩ := PW.of_agg hv
    obtain ⟨⟨σ1, cs1⟩, h1, hf⟩ := Option.map_eq_some_iff.1 hf
    cases hf
    obtain ⟨rd1, x1, k1, v1, _⟩ := frzL_sound h hp h1
    exact ⟨rd1, x1, k1, fun φ' => PW.agg (v1 φ')⟩
  | _ =>
    obtain ⟨rd1, x1, k1, v1, _⟩ := frzC_sound h hv hf
    exact ⟨rd1, x1, k1, v1⟩

theorem frzAll_sound : ∀ {cs cs' : List AV} {vs : List Value} {rd : RD} {σ σ' : Sig}, HRel rd φ O w0 σ w → PW rd φ cs vs → frzAll σ cs = some (σ', cs') →
    Frozen rd φ O w0 w σ' fun rd' => ∀ φ', PW rd' φ' cs' vs
  | [], cs', vs, rd, σ, σ', h, hp, hf => by
    cases hf
    have : vs = [] := List.eq_nil_of_length_eq_zero hp.1.symm
    subst this
    exact ⟨rd, .refl, h, fun _ => PW.nil⟩
  | c :: cs, cs', vs, rd, σ, σ', h, hp, hf => by
    obtain ⟨v, us, rfl, hr, hp⟩ := hp.uncons
    simp only [frzAll] at hf
    obtain ⟨⟨σ1, c1⟩, h1, hf⟩ := Option.bind_eq_some_iff.1 hf
    obtain ⟨⟨σ2, cs2⟩, h2, hf⟩ := Option.map_eq_some_iff.1 hf
    cases hf
    obtain ⟨rd1, x1, k1, v1⟩ := frz_sound h hr h1
    obtain ⟨rd2, x2, k2, v2⟩ := frzAll_sound k1 (hp.mono x1.1 (fun _ _ _ _ h => h)) h2
    exact ⟨rd2, x1.trans x2, k2, fun φ' => PW.cons ((v1 φ').mono x2.1 (fun _ _ _ _ h => h)) (v2 φ')⟩

theorem store_sound (h : HRel rd φ O w0 σ w) {t : Nat} {x y : AV} {cx cy : Value} (hx : VRel rd φ x cx) (hy : VRel rd φ y cy) {σ' : Sig} (ha : absStore P σ t x y = some σ') :
    ∃ w' rd', (Instr.storeAt t cx cy).run P w = .ok () w' ∧ Ext O w0 rd rd' ∧ HRel rd' φ O w0 σ' w' := by
  unfold absStore at ha
  obtain ⟨i, hi, ha1⟩ := Option.bind_eq_some_iff.1 ha
  cases x with
  | ptr r g p sz k o =>
    simp only at ha1
    split at ha1
    · obtain ⟨w', h1, h2⟩ := stRow_sound h hi hx hy ha1
      exact ⟨w', rd, h1, .refl, h2⟩
    · obtain ⟨⟨σ1, y1⟩, hf, ha2⟩ := Option.bind_eq_some_iff.1 ha1
      obtain ⟨rd1, x1, k1, v1⟩ := frz_sound h hy hf
      obtain ⟨w', h1, h2⟩ := stRow_sound k1 hi (hx.mono x1.1 (fun _ _ _ _ h => h)) (v1 φ) ha2
      exact ⟨w', rd1, h1, x1, h2⟩
  | _ => simp at ha1

theorem fieldAddr_sound (h : HRel rd φ O w0 σ w) {t : Nat} {x v : AV} {cx : Value} (hx : VRel rd φ x cx) {f : Nat} (ha : absFieldAddr P t x f = some v) :
    After0 rd φ O w0 σ v ((Instr.fieldAt t cx f).run P w) := by
  unfold absFieldAddr at ha
  obtain ⟨i, hi, ha⟩ := Option.bind_eq_some_iff.1 ha
  obtain ⟨inf, dsc, h1, h2, h3, h4, h5, h6, h7, h8, h9, h10⟩ := ti_some hi
  split at ha
  · rename_i hk
    obtain ⟨of, hof, ha⟩ := Option.bind_eq_some_iff.1 ha
    rw [h10] at hk
    cases dsc with
    | struct fs =>
      rw [h7] at hof
      simp only [List.getElem?_map] at hof
      obtain ⟨fl, hfl, rfl⟩ := Option.map_eq_some_iff.1 hof
      have hfl' : fs[f]? = some fl := by simpa using hfl
      have hplace : ∀ (a : Addr), P.cellsOf fl.type ≠ 0 → (fieldPlace a fl).run P w = .ok (a.add fl.offset) w := by
        intro a hne
        unfold Program.cellsOf at hne
        cases hq : P.info? fl.type with
        | none => simp [hq] at hne
        | some z =>
          have hz : z.size ≠ 0 := by simpa [hq] using hne
          simp [fieldPlace, sizeOf, typeInfo, hq, hz]
      split at ha
      · cases ha
      · rename_i hz
        have hne : P.cellsOf fl.type ≠ 0 := fun e => by simp [e] at hz
        have hrun : ∀ a : Addr, (Instr.fieldAt t (.pointer (some a)) f).run P w = .ok (.pointer (some (a.add fl.offset))) w := by
          intro a
          simp [Instr.fieldAt, run_underlying h2 w, hfl', Instr.sureAddr, hplace a hne]
        cases hx with
        | ptr r g p sz k o pl b q hφ had =>
          have ha := Option.some.inj ha
          subst ha
          refine .same h (hrun _) ?_
          rw [mkA_add]
          have := VRel.ptr (rd := rd) (φ := φ) r g p sz k (o + fl.offset) pl b q hφ had
          rwa [show q + k * sz + o + fl.offset = q + k * sz + (o + fl.offset) by omega]
        | rp cs b q f' hs hr hv =>
          have ha := Option.some.inj ha
          subst ha
          refine .same h (hrun _) ?_
          rw [mkA_add]
          exact .rp _ _ _ (fun j => f' (fl.offset + j)) (fun j c hc => by rw [List.getElem?_drop] at hc; exact hs _ _ hc) (fun j c hc => by rw [List.getElem?_drop] at hc; rw [Nat.add_assoc]; exact hr _ _ hc)
            (fun j c hc => by rw [List.getElem?_drop] at hc; exact hv _ _ hc)
        | _ => simp at ha
    | _ => simp [kindOf] at hk
  · cases ha
end

end Go.Proofs.Ytkhemolkhegppaa.E
