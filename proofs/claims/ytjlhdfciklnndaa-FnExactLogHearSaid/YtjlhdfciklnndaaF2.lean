/-
  Contracts: clients that are ok, in the program.
-/
import Derived.Test.YtjlhdfciklnndaaF1
namespace Go.Proofs.Ytjlhdfciklnndaa.E
open Go Go.RowKit
set_option maxHeartbeats 4000000
set_option maxRecDepth 10000
set_option linter.unusedSimpArgs false
set_option linter.unusedVariables false
set_option linter.unusedSectionVars false
end Go.Proofs.Ytjlhdfciklnndaa.E
