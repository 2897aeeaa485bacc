/-
  FnWireBack: for every input the law returns true, and the input reads as it did. No condition.
-/
import Derived.Test.YtfcfggefdifgkaaD20
import Derived.Test.YtfcfggefdifgkaaRows
namespace Go.Proofs.Ytfcfggefdifgkaa.E
open Go Go.RowKit
theorem OpensC.mapW {P : Program} {t : TypeId} {sz : Nat} {α β : Type} {E : α → List AV} {Wf : α → Prop} (h : OpensC P t sz E Wf) (g : α → β) (F : β → List AV) (Wg : β → Prop) (hF : ∀ b, (F b).length = sz ∧ ∀ c ∈ F b, sfc c = true)
    (hE : ∀ a, Wf a → F (g a) = E a) (hW : ∀ a, Wf a → Wg (g a)) : OpensC P t sz F Wg :=
  ⟨h.1, hF, fun H enc w fuel cs x hx => by obtain ⟨a, ha, hp⟩ := h.2.2 H enc w fuel cs x hx; exact ⟨g a, hW a ha, by rw [hE a ha]; exact hp⟩⟩
theorem oByte : OpensC Try.prog 5 1 byteC (fun _ => True) :=
  (opens_int (k := .u8) Try.underlying5 (by kernel_rfl)).mapW (fun n => UInt8.ofNat n.toNat) byteC (fun _ => True) (fun b => ⟨rfl, by simp [byteC, sfc]⟩)
    (fun n hn => by
      have h : 0 ≤ n ∧ n < 256 := by
        have h1 : (Lit.int .u8 n).wf = true := hn
        simp only [Lit.wf, Bool.and_eq_true, decide_eq_true_eq] at h1
        have e1 : IntKind.u8.min = 0 := rfl
        have e2 : IntKind.u8.max = 255 := rfl
        omega
      have : (UInt8.ofNat n.toNat).toNat = n.toNat := by simp; omega
      simp only [byteC, this]
      rw [Int.toNat_of_nonneg h.1]) (fun _ _ => trivial)
theorem oBytes : OpensC Try.prog 37 1 (fun l : List UInt8 => [.ro 1 (l.map byteC)]) (fun l => (∀ a ∈ l, True) ∧ l.length ≤ maxLen) := opens_slice Try.underlying37 (by kernel_rfl) oByte (by omega)
end Go.Proofs.Ytfcfggefdifgkaa.E
namespace Go.Proofs.Ytfcfggefdifgkaa.fnWireBack
open Go.ChangeShapes Go.WideShapes Go.ChangeAt Go.RowKit E
set_option linter.unusedVariables false
theorem own : ownKnob Try.prog.godebug = none := by kernel_rfl
theorem laidOut : laidOutB Try.prog = true := by kernel_rfl
set_option maxRecDepth 100000 in
theorem lifted (os : Os) (started : os.Started) (H : Type) (enc : TypeId × Value → H) :
    ReturnsInHanded {} Try.checked os 4 .any (Rows.fnWireBackSpec.pre6 enc Try.prog Try.f4 Rows.fnWireBackRow.domain false) (Rows.fnWireBackSpec.post enc Try.prog Try.f4 false true false false) := by
  refine returnsInHanded_of_change_sized (C := Try.checked) own started (by kernel_rfl) Try.func4
    (ChangeSpec.witness6 (enc := enc) (C := Try.checked) false ⟨#[], #[.slice none 0 0], []⟩ 8 (by kernel_rfl) (by kernel_rfl) (by kernel_rfl) (by kernel_rfl)) ?_
  intro W base args ds gs before hval0 hW hcnd hsz0 _
  have hval : ∀ (j : Nat) t v, Try.f4.params[j]? = some t → args[j]? = some v → Value.okWide Try.prog W .any base t v := hval0
  have hW' := hW
  obtain ⟨p, q, hA0, hV, rfl, hfz, hnd⟩ := hW
  have hA : DataW.TrodAll enc Try.prog W 0 (fun _ => true) true Try.f4.params.toList args.toList ds p := hA0
  rw [Try.params4] at hA hval
  obtain ⟨v0, vs0, d0, ds0, p0, q0, hargs, rfl, rfl, h0, r0⟩ := trodAll_cons hA
  obtain ⟨rfl, rfl, rfl⟩ := trodAll_nil r0
  obtain rfl : args = #[v0] := by cases args; simp_all
  obtain ⟨rfl, rfl⟩ := trodVars_none hV
  have lt0 : ∀ x ∈ p0, x.block < W.heap.size := by obtain ⟨m, hm⟩ := h0; exact DataW.trod_lt m _ _ _ hm
  obtain ⟨ad0, len0, cap0, rfl⟩ := okWide_slice Try.underlying37 (hval 0 37 v0 rfl rfl)
  obtain ⟨a0, w0, x0⟩ := open_cell oBytes rfl h0
  refine (calls_of ((c4_c a0 w0.2)) (PW.cons x0 PW.nil)).mono fun e W' ⟨he, bel⟩ => ?_
  subst he
  exact ⟨_, rfl, _, _, _, [], _, [], hW', trodAll_mk1 (shut_bool Try.underlying4 _), (trodAll_cons_mk (Below.trod laidOut (by kernel_rfl) (of_decide_eq_true (by kernel_rfl)) h0 bel lt0) trodAll_mk0), rfl, bel.frame _, fun h => by cases h⟩
theorem over : Rows.fnWireBackRow.holds Try.pinned (OpenSpec.ofChange Rows.fnWireBackSpec) :=
  OpenClaim.holds_of_wide 4 Try.f4 rfl rfl rfl rfl rfl rfl rfl ⟨rfl, rfl, rfl, rfl, rfl⟩ rfl rfl rfl rfl rfl (by kernel_rfl) Try.func4 (by kernel_rfl)
    (of_decide_eq_true (by kernel_rfl)) (by unfold Func.isWrapper; first | (rw [if_pos (by decide +kernel)]; kernel_rfl) | (rw [if_neg (by decide +kernel)]; exact ⟨rfl, rfl⟩))
    (fun os started H enc _ => lifted os started H enc)
end Go.Proofs.Ytfcfggefdifgkaa.fnWireBack
namespace Go.Proofs.Ytfcfggefdifgkaa
/-- The row, under a short name, for the claim. -/
theorem fnWireBack_holds : Rows.FnWireBackSaid := fnWireBack.over
#print axioms fnWireBack_holds
end Go.Proofs.Ytfcfggefdifgkaa

