/-
  Contracts: what comes of a letter to a client, in the program.
-/
import Derived.Test.YtjlhdfciklnndaaF5
import Derived.Test.YtjlhdfciklnndaaF2
namespace Go.Proofs.Ytjlhdfciklnndaa.E
open Go Go.RowKit
set_option maxHeartbeats 4000000
set_option maxRecDepth 10000
set_option linter.unusedSimpArgs false
set_option linter.unusedVariables false
set_option linter.unusedSectionVars false

theorem MLet.wide (l : List MLet) : wideB 3 (l.map MLet.cs) = true := by
  induction l with
  | nil => rfl
  | cons a l ih => simp only [List.map_cons, wideB, ih, MLet.cs]; rfl
theorem MLet.flat (l : List MLet) : flL (l.map MLet.cs) = 2 := by
  induction l with
  | nil => rfl
  | cons a l ih => simp only [List.map_cons, flL, ih, MLet.cs]; rfl
theorem int_wide (l : List Int) : wideB 1 (l.map intC) = true := by
  induction l with
  | nil => rfl
  | cons a l ih => simp only [List.map_cons, wideB, ih, intC]; rfl
theorem int_flat (l : List Int) : flL (l.map intC) = 2 := by
  induction l with
  | nil => rfl
  | cons a l ih => simp only [List.map_cons, flL, ih, intC]; rfl
attribute [go_sem] MLet.wide MLet.flat int_wide int_flat
/-- A client's rows of its own in the argument; what comes of it in new rows. -/
def MCl.tIn (c : MCl) : AV := .agg (MTold.cs ⟨c, [], [], []⟩ (.blk 1000000 0 [] 1 0 c.acks.length) .nilS .nilS .nilS)
def MTold.avP (t : MTold) : AV := .agg (t.cs (.blk 1000000 0 [] 1 0 t.cl.acks.length) (.blk 0 0 [] 3 0 t.letters.length) (.blk 1 0 [] 13 0 t.alarms.length) (.blk 2 0 [] 5 0 t.acc.length))
def MTold.outP (t : MTold) : Sig := [(1000000, 0, one t.cl.ar), (0, 0, one t.lr), (1, 0, one t.xr), (2, 0, one t.pr)]
attribute [go_sem] MCl.tIn MTold.avP MTold.outP
end Go.Proofs.Ytjlhdfciklnndaa.E
