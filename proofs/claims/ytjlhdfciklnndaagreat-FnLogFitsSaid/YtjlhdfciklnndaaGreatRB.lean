/-
  Arguments of bytes, as rows of laws read them.
-/
import Derived.Test.YtjlhdfciklnndaaGreatD1
namespace Go.Proofs.YtjlhdfciklnndaaGreat.E
open Go Go.RowKit
theorem OpensC.mapW {P : Program} {t : TypeId} {sz : Nat} {α β : Type} {E : α → List AV} {Wf : α → Prop} (h : OpensC P t sz E Wf) (g : α → β) (F : β → List AV) (Wg : β → Prop) (hF : ∀ b, (F b).length = sz ∧ ∀ c ∈ F b, sfc c = true)
    (hE : ∀ a, Wf a → F (g a) = E a) (hW : ∀ a, Wf a → Wg (g a)) : OpensC P t sz F Wg :=
  ⟨h.1, hF, fun H enc w fuel cs x hx => by obtain ⟨a, ha, hp⟩ := h.2.2 H enc w fuel cs x hx; exact ⟨g a, hW a ha, by rw [hE a ha]; exact hp⟩⟩
theorem oByte : OpensC Tryz.prog 5 1 byteC (fun _ => True) :=
  (opens_int (k := .u8) Tryz.underlying5 (by kernel_rfl)).mapW (fun n => UInt8.ofNat n.toNat) byteC (fun _ => True) (fun b => ⟨rfl, by simp [byteC, sfc]⟩)
    (fun n hn => by
      have h : 0 ≤ n ∧ n < 256 := by
        have h1 : (Lit.int .u8 n).wf = true := hn
        simp only [Lit.wf, Bool.and_eq_true, decide_eq_true_eq] at h1
        have e1 : IntKind.u8.min = 0 := rfl
        have e2 : IntKind.u8.max = 255 := rfl
        omega
      have : (UInt8.ofNat n.toNat).toNat = n.toNat := by simp; omega
      simp only [byteC, this]
      rw [Int.toNat_of_nonneg h.1]) (fun _ _ => trivial)
theorem oBytes : OpensC Tryz.prog 58 1 (fun l : List UInt8 => [.ro 1 (l.map byteC)]) (fun l => (∀ a ∈ l, True) ∧ l.length ≤ maxLen) := opens_slice Tryz.underlying58 (by kernel_rfl) oByte (by omega)
end Go.Proofs.YtjlhdfciklnndaaGreat.E
