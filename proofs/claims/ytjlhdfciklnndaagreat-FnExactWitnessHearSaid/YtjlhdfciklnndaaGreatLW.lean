/-
  Arguments of laws: witnesses.
-/
import Derived.Test.YtjlhdfciklnndaaGreatW4
namespace Go.Proofs.YtjlhdfciklnndaaGreat.E
open Go Go.RowKit
set_option linter.unusedVariables false
theorem opens_u64 {P : Program} {t : TypeId} (ht : P.underlying t = some (.int .u64)) (hs : P.cellsOf t = 1) : OpensC P t 1 (fun n : Nat => [vU n]) (fun n => n < 18446744073709551616) :=
  ⟨hs, fun a => ⟨rfl, by simp [sfc]⟩, fun H enc w fuel cs x h => by
    obtain ⟨n, rfl, rfl, hw⟩ := DataW.trod_int ht h
    have hb : 0 ≤ n ∧ n < 18446744073709551616 := by
      simp [Lit.wf] at hw
      have e1 : IntKind.u64.min = 0 := by decide
      have e2 : IntKind.u64.max = 18446744073709551615 := by decide
      omega
    have e : ((n.toNat : Nat) : Int) = n := Int.toNat_of_nonneg hb.1
    exact ⟨n.toNat, by omega, PW.one (by show VRel _ _ (AV.sc (.int .u64 ((n.toNat : Nat) : Int))) _; rw [e]; exact .sc _ rfl)⟩⟩
theorem oInt : OpensC Tryz.prog 3 1 (fun n : Int => [vI n]) (fun n => (Lit.int .i64 n).wf = true) := opens_int Tryz.underlying3 (by kernel_rfl)
theorem oU64 : OpensC Tryz.prog 22 1 (fun n : Nat => [vU n]) (fun n => n < 18446744073709551616) := opens_u64 Tryz.underlying22 (by kernel_rfl)
theorem oStr : OpensC Tryz.prog 9 1 (fun n : ByteArray => [.sc (.string n)]) (fun n => n.size ≤ maxLen) := opens_string Tryz.underlying9 (by kernel_rfl)
theorem oDig : OpensC Tryz.prog 24 4 MDig.cs MDig.ok :=
  (opens_struct Tryz.underlying24 (by kernel_rfl) (by kernel_rfl) (opensF_cons oU64 (opensF_cons oU64 (opensF_cons oU64 (opensF_cons oU64 opensF_nil))))).map
    (fun x => (⟨x.1, x.2.1, x.2.2.1, x.2.2.2.1⟩ : MDig)) _ _ (fun s => ⟨rfl, by simp [sfc, MDig.cs]⟩) (fun _ => rfl) (fun _ h => ⟨h.1, h.2.1, h.2.2.1, h.2.2.2.1⟩)
theorem oPt : OpensC Tryz.prog 26 5 MPt.cs (fun p => p.root.ok) :=
  (opens_struct Tryz.underlying26 (by kernel_rfl) (by kernel_rfl) (opensF_cons oInt (opensF_cons oDig opensF_nil))).map
    (fun x => (⟨x.1, x.2.1⟩ : MPt)) _ _ (fun s => ⟨rfl, by simp [sfc, MPt.cs]⟩) (fun _ => rfl) (fun _ h => h.2.1)
theorem oLet : OpensC Tryz.prog 34 3 MLet.cs (fun l => l.text.size ≤ maxLen) :=
  (opens_struct Tryz.underlying34 (by kernel_rfl) (by kernel_rfl) (opensF_cons oInt (opensF_cons oInt (opensF_cons oStr opensF_nil)))).map
    (fun x => (⟨x.1, x.2.1, x.2.2.1⟩ : MLet)) _ _ (fun s => ⟨rfl, by simp [sfc, MLet.cs]⟩) (fun _ => rfl) (fun _ h => h.2.2.1)
theorem oSlot : OpensC Tryz.prog 129 7 MSlot.cs MSlot.ok :=
  (opens_struct Tryz.underlying129 (by kernel_rfl) (by kernel_rfl) (opensF_cons oU64 (opensF_cons oU64 (opensF_cons oU64 (opensF_cons oDig opensF_nil))))).map
    (fun x => (⟨x.1, x.2.1, x.2.2.1, x.2.2.2.1⟩ : MSlot)) _ _ (fun s => ⟨rfl, by simp [sfc, MSlot.cs]⟩) (fun _ => rfl) (fun _ h => ⟨h.1, h.2.1, h.2.2.1, h.2.2.2.1⟩)
theorem oDisk : OpensC Tryz.prog 131 14 MDisk.cs MDisk.ok :=
  (opens_struct Tryz.underlying131 (by kernel_rfl) (by kernel_rfl) (opensF_cons oSlot (opensF_cons oSlot opensF_nil))).map
    (fun x => (⟨x.1, x.2.1⟩ : MDisk)) _ _ (fun s => ⟨rfl, by simp [sfc, MDisk.cs]⟩) (fun _ => rfl) (fun _ h => ⟨h.1, h.2.1⟩)
theorem oWish : OpensC Tryz.prog 318 7 MWish.cs (fun x => x.pt.root.ok) :=
  (opens_struct Tryz.underlying318 (by kernel_rfl) (by kernel_rfl) (opensF_cons oInt (opensF_cons oInt (opensF_cons oPt opensF_nil)))).map
    (fun x => (⟨x.1, x.2.1, x.2.2.1⟩ : MWish)) _ _ (fun s => ⟨rfl, by simp [sfc, MWish.cs]⟩) (fun _ => rfl) (fun _ h => h.2.2.1)
theorem oWishs : OpensC Tryz.prog 132 1 (fun l : List MWish => [.ro 7 (l.map MWish.cs)]) (fun l => (∀ x ∈ l, x.pt.root.ok) ∧ l.length ≤ maxLen) :=
  opens_slice Tryz.underlying132 (by kernel_rfl) oWish (by decide)
theorem oWit : OpensC Tryz.prog 134 15 (fun w : MWit => w.cs (.ro 7 (w.wishes.map MWish.cs))) (fun w => w.disk.ok ∧ w.wishes.length ≤ maxLen ∧ ∀ x ∈ w.wishes, x.pt.root.ok) :=
  (opens_struct Tryz.underlying134 (by kernel_rfl) (by kernel_rfl) (opensF_cons oDisk (opensF_cons oWishs opensF_nil))).map
    (fun x => (⟨x.1, x.2.1⟩ : MWit)) _ _ (fun s => ⟨rfl, by simp [sfc, MWit.cs, MDisk.cs]⟩) (fun _ => rfl) (fun _ h => ⟨h.1, h.2.1.2, h.2.1.1⟩)
end Go.Proofs.YtjlhdfciklnndaaGreat.E
