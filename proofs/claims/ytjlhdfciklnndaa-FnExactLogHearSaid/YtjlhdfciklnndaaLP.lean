/-
  Arguments of laws: monitors.
-/
import Derived.Test.YtjlhdfciklnndaaLO
import Derived.Test.YtjlhdfciklnndaaJ1
namespace Go.Proofs.Ytjlhdfciklnndaa.E
open Go Go.RowKit
set_option linter.unusedVariables false
theorem oStrs : OpensC Try.prog 22 1 (fun l : List ByteArray => [.ro 1 (l.map leafCs)]) (fun l => (∀ s ∈ l, s.size ≤ maxLen) ∧ l.length ≤ maxLen) :=
  opens_slice Try.underlying22 (by kernel_rfl) oStr (by decide)
end Go.Proofs.Ytjlhdfciklnndaa.E
