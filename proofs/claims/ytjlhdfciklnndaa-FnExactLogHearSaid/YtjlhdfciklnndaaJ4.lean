/-
  Contracts: a monitor hears a range.
-/
import Derived.Test.YtjlhdfciklnndaaJ3
namespace Go.Proofs.Ytjlhdfciklnndaa.E
open Go Go.RowKit
set_option maxHeartbeats 4000000
set_option maxRecDepth 10000
set_option linter.unusedSimpArgs false
set_option linter.unusedVariables false
set_option linter.unusedSectionVars false

theorem rAll_min (m : MMon) (x : List ByteArray) (h : 0 ≤ m.cl.pin.size - m.leaves.length) : m.leaves ++ x.take (min (m.cl.pin.size - m.leaves.length) x.length).toNat = rAll m x := by
  unfold rAll
  rcases Int.le_total (m.cl.pin.size - m.leaves.length) x.length with h1 | h1
  · rw [Int.min_eq_left h1]
  · rw [Int.min_eq_right h1, List.take_of_length_le (by simp), List.take_of_length_le (by omega)]
end Go.Proofs.Ytjlhdfciklnndaa.E
