/-
  Arguments of laws: digests, points, clients, letters.
-/
import Derived.Test.YtjlhdfciklnndaaF1
namespace Go.Proofs.Ytjlhdfciklnndaa.E
open Go Go.RowKit
set_option linter.unusedVariables false
theorem opens_u64 {P : Program} {t : TypeId} (ht : P.underlying t = some (.int .u64)) (hs : P.cellsOf t = 1) : OpensC P t 1 (fun n : Nat => [vU n]) (fun n => n < 18446744073709551616) :=
  ⟨hs, fun a => ⟨rfl, by simp [sfc]⟩, fun H enc w fuel cs x h => by
    obtain ⟨n, rfl, rfl, hw⟩ := DataW.trod_int ht h
    have hb : 0 ≤ n ∧ n < 18446744073709551616 := by
      simp [Lit.wf] at hw
      have e1 : IntKind.u64.min = 0 := by decide
      have e2 : IntKind.u64.max = 18446744073709551615 := by decide
      omega
    have e : ((n.toNat : Nat) : Int) = n := Int.toNat_of_nonneg hb.1
    exact ⟨n.toNat, by omega, PW.one (by show VRel _ _ (AV.sc (.int .u64 ((n.toNat : Nat) : Int))) _; rw [e]; exact .sc _ rfl)⟩⟩
theorem oInt : OpensC Try.prog 3 1 (fun n : Int => [vI n]) (fun n => (Lit.int .i64 n).wf = true) := opens_int Try.underlying3 (by kernel_rfl)
theorem oU64 : OpensC Try.prog 40 1 (fun n : Nat => [vU n]) (fun n => n < 18446744073709551616) := opens_u64 Try.underlying40 (by kernel_rfl)
theorem oStr : OpensC Try.prog 9 1 (fun n : ByteArray => [.sc (.string n)]) (fun n => n.size ≤ maxLen) := opens_string Try.underlying9 (by kernel_rfl)
theorem oLet : OpensC Try.prog 26 3 MLet.cs (fun l => l.text.size ≤ maxLen) :=
  (opens_struct Try.underlying26 (by kernel_rfl) (by kernel_rfl) (opensF_cons oInt (opensF_cons oInt (opensF_cons oStr opensF_nil)))).map
    (fun x => (⟨x.1, x.2.1, x.2.2.1⟩ : MLet)) _ _ (fun s => ⟨rfl, by simp [sfc, MLet.cs]⟩) (fun _ => rfl) (fun _ h => h.2.2.1)
end Go.Proofs.Ytjlhdfciklnndaa.E
