/-
  Contracts: what comes of letters to clients, in the reference.
-/
import Derived.Test.YtjlhdfciklnndaaF3
namespace Go.Proofs.Ytjlhdfciklnndaa.E
open Go Go.RowKit
set_option maxHeartbeats 4000000
set_option maxRecDepth 10000
set_option linter.unusedSimpArgs false
set_option linter.unusedVariables false
set_option linter.unusedSectionVars false

structure MAl where
  kind : Int
  who : Int
  held : MPt
  told : MPt
  code : Int
def MAl.cs (a : MAl) : List AV := [vI a.kind, vI a.who, vI a.held.size, vU a.held.root.a, vU a.held.root.b, vU a.held.root.c, vU a.held.root.d, vI a.told.size, vU a.told.root.a, vU a.told.root.b, vU a.told.root.c, vU a.told.root.d, vI a.code]
structure MTold where
  cl : MCl
  letters : List MLet
  alarms : List MAl
  acc : List MPt
def MCl.av (c : MCl) (p : List Nat) : AV := .agg (c.cs (.blk 0 0 p 1 0 c.acks.length))
def MTold.cs (t : MTold) (a l x p : AV) : List AV := t.cl.cs a ++ [l, x, p]
def MTold.av (t : MTold) : AV := .agg (t.cs (.blk 0 0 [9] 1 0 t.cl.acks.length) (.blk 0 0 [15] 3 0 t.letters.length) (.blk 0 0 [16] 13 0 t.alarms.length) (.blk 0 0 [17] 5 0 t.acc.length))
def MCl.ar (c : MCl) : Row := ⟨1, c.acks.map intC, 2, false⟩
def MTold.lr (t : MTold) : Row := ⟨3, t.letters.map MLet.cs, 2, false⟩
def MTold.xr (t : MTold) : Row := ⟨13, t.alarms.map MAl.cs, 2, false⟩
def MTold.pr (t : MTold) : Row := ⟨5, t.acc.map MPt.cs, 2, false⟩
def MTold.rf (t : MTold) : List (List Nat × Row) := [([9], t.cl.ar), ([15], t.lr), ([16], t.xr), ([17], t.pr)]
def zCl : List AV := [vI 0, vI 0, vI 0, vI 0, vI 0, .sc (.int .u64 0), .sc (.int .u64 0), .sc (.int .u64 0), .sc (.int .u64 0), .nilS, vI 0, .sc (.int .u64 0), .sc (.int .u64 0), .sc (.int .u64 0), .sc (.int .u64 0)]
attribute [go_sem] zCl MAl.cs MCl.av MTold.cs MTold.av MCl.ar MTold.lr MTold.xr MTold.pr MTold.rf
def MTold.avQ (t : MTold) : AV := .agg (t.cs (.blk 0 0 [] 1 0 t.cl.acks.length) (.blk 1 0 [] 3 0 t.letters.length) (.blk 2 0 [] 13 0 t.alarms.length) (.blk 3 0 [] 5 0 t.acc.length))
def MTold.outQ (t : MTold) : Sig := [(0, 0, one t.cl.ar), (1, 0, one t.lr), (2, 0, one t.xr), (3, 0, one t.pr)]
attribute [go_sem] MTold.avQ MTold.outQ
theorem take_step {α : Type} {l : List α} {i : Nat} (h : i < l.length) : l.take (i + 1) = l.take i ++ [l[i]] := List.take_succ_eq_append_getElem h
/-- The witnesses with one more, from a place on. -/
def ackGo (w : Int) : List Int → Bool → List Int
  | [], put => if put then [] else [w]
  | a :: l, put => (if !put && decide (a ≥ w) then [w] else []) ++ ((if a != w then [a] else []) ++ ackGo w l (put || decide (a ≥ w)))
def mAcks (l : List Int) (w : Int) : List Int := ackGo w l false
theorem ackGo_len (w : Int) : ∀ (l : List Int) (put : Bool), (ackGo w l put).length ≤ 2 * l.length + 1
  | [], put => by cases put <;> simp [ackGo]
  | a :: l, put => by
    have := ackGo_len w l (put || decide (a ≥ w))
    simp only [ackGo, List.length_append, List.length_cons]
    split <;> split <;> simp only [List.length_cons, List.length_nil] <;> omega
theorem ackGo_drop {w : Int} {l : List Int} {i : Nat} (h : i < l.length) (put : Bool) : ackGo w (l.drop i) put = (if !put && decide (l[i] ≥ w) then [w] else []) ++ ((if l[i] != w then [l[i]] else []) ++ ackGo w (l.drop (i + 1)) (put || decide (l[i] ≥ w))) := by
  rw [List.drop_eq_getElem_cons h]; rfl
def zTd : List AV := [vI 0, vI 0, vI 0, vI 0, vI 0, .sc (.int .u64 0), .sc (.int .u64 0), .sc (.int .u64 0), .sc (.int .u64 0), .nilS, vI 0, .sc (.int .u64 0), .sc (.int .u64 0), .sc (.int .u64 0), .sc (.int .u64 0), .nilS, .nilS, .nilS]
attribute [go_sem] zTd
def MTold.base (c : MCl) : MTold := ⟨c, [], [], []⟩
def mAck (c : MCl) (w : Int) : MTold :=
  if ((mAcks c.acks w).length : Int) < c.need then ⟨{ c with acks := mAcks c.acks w }, [], [], []⟩
  else ⟨{ c with phase := 0, goal := .zero, acks := [], pin := c.goal }, [], [], [c.goal]⟩
def eqP (a b : MPt) : Bool := a.size == b.size && (((a.root.a : Int) == b.root.a) && (((a.root.b : Int) == b.root.b) && (((a.root.c : Int) == b.root.c) && ((a.root.d : Int) == b.root.d))))
def mVouch (c : MCl) (p : MPt) : MMsg := ⟨3, c.session, 0, p.size, p.root, 0, [], []⟩
def mHead (c : MCl) (me : Int) (p : MPt) : MTold :=
  if p.size = 0 ∨ p.size < c.pin.size ∨ eqP p c.pin = true then .base c
  else if p.size = c.pin.size then ⟨c, [], [⟨1, 0, c.pin, p, 0⟩], []⟩
  else ⟨{ c with phase := 2, goal := p }, (List.range c.many.toNat).map (fun i : Nat => MLet.mk me ((i : Int) + 1) (mWireBytes (mVouch c p))), [], []⟩
end Go.Proofs.Ytjlhdfciklnndaa.E
