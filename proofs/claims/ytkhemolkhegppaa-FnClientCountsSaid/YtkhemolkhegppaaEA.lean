/-
  E, part A: abstract values, how they stand to the model's values, and rows of memory that a function owns.
-/
import Derived.WalkKit
import Derived.Orders
namespace Go.Proofs.Ytkhemolkhegppaa.E
open Go Go.RowKit
set_option linter.unusedVariables false

/-- An abstract value. -/
inductive AV where
  | dead
  | sc (v : Value)
  | nilS
  | blk (r g : Nat) (p : List Nat) (sz off len : Nat)
  | ptr (r g : Nat) (p : List Nat) (sz i o : Nat)
  | ro (sz : Nat) (es : List (List AV))
  | rp (cs : List AV)
  | agg (cs : List AV)
  | tup (vs : List AV)
  | it (r : Nat)
  deriving Inhabited

/-- Where a row lies: its block and first cell, and how many elements have room. -/
structure Pl where
  ad : Option (Nat × Nat)
  cap : Nat

abbrev Phi := Nat → Nat → List Nat → Option Pl
abbrev RD := Nat → Nat → Option Value

abbrev mkA (b o : Nat) : Addr := ⟨b, o, none⟩
theorem mkA_add (b o n : Nat) : (mkA b o).add n = mkA b (o + n) := by
  unfold Addr.add; split <;> simp_all

def isUnit : Value → Bool
  | .agg a => a.isEmpty
  | _ => false
def scal : Value → Bool
  | .bool _ | .int .. | .string _ | .nilIface | .nilFunc | .pointer none => true
  | .func (.func _) first captured => first.toList.all isUnit && captured.isEmpty
  | _ => false

theorem scal_one {v : Value} (h : scal v = true) : v.oneCell' = true := by
  cases v <;> simp_all [scal, Value.oneCell']

/-- A cell that names no row. -/
def sfc : AV → Bool
  | .sc _ | .nilS | .ro _ _ => true
  | _ => false

inductive VRel (rd : RD) (φ : Phi) : AV → Value → Prop
  | dead (v : Value) : VRel rd φ .dead v
  | sc (v : Value) (h : scal v = true) : VRel rd φ (.sc v) v
  | nilS : VRel rd φ .nilS (.slice none 0 0)
  | blk (r g : Nat) (p : List Nat) (sz off len : Nat) (pl : Pl) (A : Option Addr) (hφ : φ r g p = some pl)
      (hA : pl.cap - off = 0 ∨ A = pl.ad.map fun x => mkA x.1 (x.2 + off * sz)) (hl : len ≤ pl.cap - off) :
      VRel rd φ (.blk r g p sz off len) (.slice A len (pl.cap - off))
  | ptr (r g : Nat) (p : List Nat) (sz i o : Nat) (pl : Pl) (b q : Nat) (hφ : φ r g p = some pl) (had : pl.ad = some (b, q)) :
      VRel rd φ (.ptr r g p sz i o) (.pointer (some (mkA b (q + i * sz + o))))
  | ro0 (sz : Nat) (A : Option Addr) (cap : Nat) : VRel rd φ (.ro sz []) (.slice A 0 cap)
  | ro (sz : Nat) (es : List (List AV)) (b q cap : Nat) (f : Nat → Nat → Value) (hc : es.length ≤ cap)
      (hs : ∀ (i j : Nat) (c : AV), (es[i]?).bind (·[j]?) = some c → sfc c = true)
      (hr : ∀ (i j : Nat) (c : AV), (es[i]?).bind (·[j]?) = some c → rd b (q + i * sz + j) = some (f i j))
      (hv : ∀ (i j : Nat) (c : AV), (es[i]?).bind (·[j]?) = some c → VRel rd φ c (f i j)) :
      VRel rd φ (.ro sz es) (.slice (some (mkA b q)) es.length cap)
  | rp (cs : List AV) (b q : Nat) (f : Nat → Value) (hs : ∀ (j : Nat) (c : AV), cs[j]? = some c → sfc c = true)
      (hr : ∀ (j : Nat) (c : AV), cs[j]? = some c → rd b (q + j) = some (f j))
      (hv : ∀ (j : Nat) (c : AV), cs[j]? = some c → VRel rd φ c (f j)) :
      VRel rd φ (.rp cs) (.pointer (some (mkA b q)))
  | agg (cs : List AV) (arr : Array Value) (f : Nat → Value) (hs : arr.size = cs.length)
      (hg : ∀ (j : Nat) (c : AV), cs[j]? = some c → arr[j]? = some (f j))
      (hv : ∀ (j : Nat) (c : AV), cs[j]? = some c → VRel rd φ c (f j)) :
      VRel rd φ (.agg cs) (.agg arr)
  | tup (vs : List AV) (arr : Array Value) (f : Nat → Value) (hs : arr.size = vs.length)
      (hg : ∀ (j : Nat) (c : AV), vs[j]? = some c → arr[j]? = some (f j))
      (hv : ∀ (j : Nat) (c : AV), vs[j]? = some c → VRel rd φ c (f j)) :
      VRel rd φ (.tup vs) (.tuple arr)
  | it (r : Nat) : VRel rd φ (.it r) (.pointer (some ⟨r, 0, none⟩))

/-- More is known of memory and of rows: what was related stays related. -/
theorem VRel.mono {rd rd' : RD} {φ φ' : Phi} (h1 : ∀ b o v, rd b o = some v → rd' b o = some v) (h2 : ∀ r g p pl, φ r g p = some pl → φ' r g p = some pl)
    {a : AV} {v : Value} (h : VRel rd φ a v) : VRel rd' φ' a v := by
  induction h with
  | dead v => exact .dead v
  | sc v h => exact .sc v h
  | nilS => exact .nilS
  | blk r g p sz off len pl A hφ hA hl => exact .blk r g p sz off len pl A (h2 _ _ _ _ hφ) hA hl
  | ptr r g p sz i o pl b q hφ had => exact .ptr r g p sz i o pl b q (h2 _ _ _ _ hφ) had
  | ro0 sz A cap => exact .ro0 sz A cap
  | ro sz es b q cap f hc hs hr hv ih => exact .ro sz es b q cap f hc hs (fun i j c h => h1 _ _ _ (hr i j c h)) ih
  | rp cs b q f hs hr hv ih => exact .rp cs b q f hs (fun j c h => h1 _ _ _ (hr j c h)) ih
  | agg cs arr f hs hg hv ih => exact .agg cs arr f hs hg ih
  | tup cs arr f hs hg hv ih => exact .tup cs arr f hs hg ih
  | it r => exact .it r

/-- Store-free values stand as they stand, whatever rows there are. -/
def sf : AV → Bool
  | .sc _ | .nilS | .ro _ _ | .rp _ | .dead => true
  | .agg cs | .tup cs => cs.all fun c => sfc c
  | _ => false
theorem VRel.of_sf {rd : RD} {φ φ' : Phi} {a : AV} {v : Value} (h : VRel rd φ a v) : sf a = true → VRel rd φ' a v := by
  have hcell : ∀ {c : AV}, sfc c = true → sf c = true := by intro c hc; cases c <;> first | rfl | cases hc
  induction h with
  | dead v => intro _; exact .dead v
  | sc v h => intro _; exact .sc v h
  | nilS => intro _; exact .nilS
  | blk => intro h; cases h
  | ptr => intro h; cases h
  | ro0 sz A cap => intro _; exact .ro0 sz A cap
  | ro sz es b q cap f hc hs hr hv ih => intro _; exact .ro sz es b q cap f hc hs hr (fun i j c h => ih i j c h (hcell (hs i j c h)))
  | rp cs b q f hs hr hv ih => intro _; exact .rp cs b q f hs hr (fun j c h => ih j c h (hcell (hs j c h)))
  | agg cs arr f hz hg hv ih => intro h; exact .agg cs arr f hz hg (fun j c hc => ih j c hc (hcell (List.all_eq_true.1 h c (List.mem_of_getElem? hc))))
  | tup cs arr f hz hg hv ih => intro h; exact .tup cs arr f hz hg (fun j c hc => ih j c hc (hcell (List.all_eq_true.1 h c (List.mem_of_getElem? hc))))
  | it r => intro h; cases h

/-- A value of one cell. -/
def cellB : AV → Bool
  | .dead | .agg _ | .tup _ | .it _ => false
  | _ => true

theorem VRel.one {rd : RD} {φ : Phi} {a : AV} {v : Value} (h : VRel rd φ a v) (hc : cellB a = true) : v.oneCell' = true := by
  cases h <;> first | rfl | (simp [cellB] at hc; done) | (rename_i h; exact scal_one h)

/-- A plain cell: a scalar, or the nil slice. -/
def plc : AV → Bool
  | .sc _ | .nilS => true
  | _ => false
theorem sfc_of_plc {c : AV} (h : plc c = true) : sfc c = true := by cases c <;> first | rfl | cases h
/-- A row: how many cells an element has, the elements, what is known of the cells (1: none names a row; 2: all are plain), and whether its cells stay as they are, for ever. -/
structure Row where
  sz : Nat
  es : List (List AV)
  fl : Nat
  ao : Bool
def KOK (fl : Nat) (cs : List AV) : Prop := (1 ≤ fl → ∀ c ∈ cs, sfc c = true) ∧ (2 ≤ fl → ∀ c ∈ cs, plc c = true)
def flC (cs : List AV) : Nat :=
  match cs.all plc with
  | true => 2
  | false => match cs.all sfc with
    | true => 1
    | false => 0
theorem KOK.ofC (cs : List AV) : KOK (flC cs) cs := by
  unfold flC
  split
  · rename_i h
    exact ⟨fun _ c hc => sfc_of_plc (List.all_eq_true.1 h c hc), fun _ c hc => List.all_eq_true.1 h c hc⟩
  · split
    · rename_i h
      exact ⟨fun _ c hc => List.all_eq_true.1 h c hc, fun h => by omega⟩
    · exact ⟨fun h => by omega, fun h => by omega⟩
theorem KOK.min {a b : Nat} {cs ds : List AV} (h : KOK a cs) (k : KOK b ds) {es : List AV} (he : ∀ c ∈ es, c ∈ cs ∨ c ∈ ds) : KOK (min a b) es :=
  ⟨fun hm c hc => (he c hc).elim (h.1 (by omega) c) (k.1 (by omega) c), fun hm c hc => (he c hc).elim (h.2 (by omega) c) (k.2 (by omega) c)⟩
theorem KOK.le {a b : Nat} {cs : List AV} (h : KOK a cs) (hb : b ≤ a) : KOK b cs := ⟨fun hm => h.1 (by omega), fun hm => h.2 (by omega)⟩

abbrev Frag := List Nat → Option Row
def lookA {α : Type} : List (Nat × α) → Nat → Option α
  | [], _ => none
  | (k, v) :: l, n => match k == n with
    | true => some v
    | false => lookA l n
def setA {α : Type} : List (Nat × α) → Nat → α → List (Nat × α)
  | [], n, x => [(n, x)]
  | (k, v) :: l, n, x => match k == n with
    | true => (k, x) :: l
    | false => (k, v) :: setA l n x

theorem lookA_cons {α : Type} (k : Nat) (v : α) (l : List (Nat × α)) (n : Nat) : lookA ((k, v) :: l) n = if k = n then some v else lookA l n := by
  simp only [lookA]
  by_cases h : k = n
  · simp [h]
  · have : (k == n) = false := by simpa using h
    simp [this, h]
theorem setA_cons {α : Type} (k : Nat) (v : α) (l : List (Nat × α)) (n : Nat) (x : α) : setA ((k, v) :: l) n x = if k = n then (k, x) :: l else (k, v) :: setA l n x := by
  simp only [setA]
  by_cases h : k = n
  · simp [h]
  · have : (k == n) = false := by simpa using h
    simp [this, h]
theorem lookA_setA {α : Type} (l : List (Nat × α)) (n m : Nat) (x : α) : lookA (setA l n x) m = if m = n then some x else lookA l m := by
  induction l with
  | nil => simp only [setA, lookA_cons, lookA]; by_cases h : m = n
           · simp [h]
           · have h' : ¬ n = m := fun e => h e.symm
             simp [h, h']
  | cons y l ih =>
    obtain ⟨k, v⟩ := y
    rw [setA_cons]
    by_cases hk : k = n
    · subst hk
      simp only [if_true, lookA_cons]
      by_cases h : m = k
      · simp [h]
      · have h' : ¬ k = m := fun e => h e.symm
        simp [h, h']
    · simp only [hk, if_false, lookA_cons, ih]
      by_cases h : k = m
      · subst h; simp [hk]
      · simp [h]

abbrev Sig := List (Nat × (Nat × Frag))
/-- The row of a name, if it is one that lives. -/
def rowAt (σ : Sig) (r g : Nat) (p : List Nat) : Option Row :=
  match lookA σ r with
  | some (g', f) => if g' = g then f p else none
  | none => none

structure RowOK (rd : RD) (φ : Phi) (w : World) (pl : Pl) (row : Row) : Prop where
  wide : ∀ e ∈ row.es, e.length = row.sz
  len : row.es.length ≤ pl.cap
  kind : ∀ e ∈ row.es, KOK row.fl e
  nil : pl.ad = none → pl.cap = 0
  room : ∀ b q, pl.ad = some (b, q) → ∀ k, k < pl.cap * row.sz → (w.cell? (mkA b (q + k))).isSome = true ∧ w.frozen? (mkA b (q + k)) = false
  cells : ∀ b q, pl.ad = some (b, q) → ∀ i j c, (row.es[i]?).bind (·[j]?) = some c → ∃ v, w.cell? (mkA b (q + i * row.sz + j)) = some v ∧ VRel rd φ c v
  frz : row.ao = true → 1 ≤ row.fl ∧ ∀ b q, pl.ad = some (b, q) → ∀ k, k < row.es.length * row.sz → rd b (q + k) = w.cell? (mkA b (q + k))

/-- More may be read; in what was there and is not given, as much as before. -/
def Ext (O : Nat → Prop) (w0 : World) (rd rd' : RD) : Prop := (∀ b o v, rd b o = some v → rd' b o = some v) ∧ ∀ b o, b < w0.heap.size → ¬ O b → rd' b o = rd b o
theorem Ext.refl {O : Nat → Prop} {w0 : World} {rd : RD} : Ext O w0 rd rd := ⟨fun _ _ _ h => h, fun _ _ _ _ => rfl⟩
theorem Ext.trans {O : Nat → Prop} {w0 : World} {rd rd' rd'' : RD} (h : Ext O w0 rd rd') (k : Ext O w0 rd' rd'') : Ext O w0 rd rd'' :=
  ⟨fun b o v e => k.1 b o v (h.1 b o v e), fun b o hb hO => (k.2 b o hb hO).trans (h.2 b o hb hO)⟩

structure HRel (rd : RD) (φ : Phi) (O : Nat → Prop) (w0 : World) (σ : Sig) (w : World) : Prop where
  rows : ∀ r g p row, rowAt σ r g p = some row → ∃ pl, φ r g p = some pl ∧ RowOK rd φ w pl row
  sep : ∀ r g p row r' g' p' row' pl pl' b q q', rowAt σ r g p = some row → rowAt σ r' g' p' = some row' → φ r g p = some pl → φ r' g' p' = some pl' →
    pl.ad = some (b, q) → pl'.ad = some (b, q') → r = r' ∧ p = p'
  rdok : ∀ b o v, rd b o = some v → w.cell? (mkA b o) = some v
  rdsep : ∀ r g p row pl b q, rowAt σ r g p = some row → φ r g p = some pl → pl.ad = some (b, q) → ∀ k, row.ao = false ∨ q + row.es.length * row.sz ≤ k → rd b k = none
  own : ∀ r g p row pl b q, rowAt σ r g p = some row → φ r g p = some pl → pl.ad = some (b, q) → (O b ∨ w0.heap.size ≤ b) ∧ b < w.heap.size
  frame : ∀ b, b < w0.heap.size → ¬ O b → w.heap[b]? = w0.heap[b]?
  size : w0.heap.size ≤ w.heap.size
  os : w.os = w0.os
  tape : w.tape = w0.tape
  output : w.output = w0.output

end Go.Proofs.Ytkhemolkhegppaa.E
