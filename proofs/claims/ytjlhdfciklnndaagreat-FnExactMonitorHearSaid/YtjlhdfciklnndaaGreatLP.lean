/-
  Arguments of laws: monitors.
-/
import Derived.Test.YtjlhdfciklnndaaGreatLO
import Derived.Test.YtjlhdfciklnndaaGreatJ1
namespace Go.Proofs.YtjlhdfciklnndaaGreat.E
open Go Go.RowKit
set_option linter.unusedVariables false
theorem oStrs : OpensC Tryz.prog 30 1 (fun l : List ByteArray => [.ro 1 (l.map leafCs)]) (fun l => (∀ s ∈ l, s.size ≤ maxLen) ∧ l.length ≤ maxLen) :=
  opens_slice Tryz.underlying30 (by kernel_rfl) oStr (by decide)
theorem oMon : OpensC Tryz.prog 32 21 (fun m : MMon => m.cs (.ro 1 (m.cl.acks.map intC)) (.ro 1 (m.leaves.map leafCs))) (fun m => m.cl.acks.length ≤ maxLen ∧ m.leaves.length ≤ maxLen ∧ ∀ b ∈ m.leaves, b.size ≤ maxLen) :=
  (opens_struct Tryz.underlying32 (by kernel_rfl) (by kernel_rfl) (opensF_cons oCl (opensF_cons oStrs (opensF_cons oPt opensF_nil)))).map
    (fun x => (⟨x.1, x.2.1, x.2.2.1⟩ : MMon)) _ _ (fun s => ⟨rfl, by simp [sfc, MMon.cs, MCl.cs, MPt.cs]⟩) (fun _ => rfl) (fun _ h => ⟨h.1, h.2.1.2, h.2.1.1⟩)
end Go.Proofs.YtjlhdfciklnndaaGreat.E
