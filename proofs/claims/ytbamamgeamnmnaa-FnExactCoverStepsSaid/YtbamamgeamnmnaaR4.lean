/-
  FnExactCoverSteps: for every input the law returns true, and the input reads as it did. No condition.
-/
import Derived.Test.YtbamamgeamnmnaaC7
import Derived.Test.YtbamamgeamnmnaaRows
namespace Go.Proofs.Ytbamamgeamnmnaa.E
open Go Go.RowKit
theorem oInt : OpensC Try.prog 3 1 (fun n : Int => [vI n]) (fun n => (Lit.int .i64 n).wf = true) := opens_int Try.underlying3 (by kernel_rfl)
theorem oSetupL : OpensC Try.prog 23 5 (fun s : MSetup => [vI s.many, vI s.need, vI s.clients, vI s.room, vI s.inbox]) (fun _ => True) :=
  (opens_struct Try.underlying23 (by kernel_rfl) (by kernel_rfl) (opensF_cons oInt (opensF_cons oInt (opensF_cons oInt (opensF_cons oInt (opensF_cons oInt opensF_nil)))))).map
    (fun x => (⟨x.1, x.2.1, x.2.2.1, x.2.2.2.1, x.2.2.2.2.1⟩ : MSetup)) _ _ (fun s => ⟨rfl, by simp [sfc]⟩) (fun _ => rfl) (fun _ _ => trivial)
end Go.Proofs.Ytbamamgeamnmnaa.E
namespace Go.Proofs.Ytbamamgeamnmnaa.fnExactCoverSteps
open Go.ChangeShapes Go.WideShapes Go.ChangeAt Go.RowKit E
set_option linter.unusedVariables false
theorem own : ownKnob Try.prog.godebug = none := by kernel_rfl
theorem laidOut : laidOutB Try.prog = true := by kernel_rfl
set_option maxRecDepth 100000 in
theorem lifted (os : Os) (started : os.Started) (H : Type) (enc : TypeId × Value → H) :
    ReturnsInHanded {} Try.checked os 6 .any (Rows.fnExactCoverStepsSpec.pre6 enc Try.prog Try.f6 Rows.fnExactCoverStepsRow.domain false) (Rows.fnExactCoverStepsSpec.post enc Try.prog Try.f6 false true false false) := by
  refine returnsInHanded_of_change_sized (C := Try.checked) own started (by kernel_rfl) Try.func6
    (ChangeSpec.witness6 (enc := enc) (C := Try.checked) false ⟨#[], #[.agg #[.int .i64 0, .int .i64 0, .int .i64 0, .int .i64 0, .int .i64 0], .int .i64 0], []⟩ 8 (by kernel_rfl) (by kernel_rfl) (by kernel_rfl) (by kernel_rfl)) ?_
  intro W base args ds gs before hval0 hW hcnd hsz0 _
  have hval : ∀ (j : Nat) t v, Try.f6.params[j]? = some t → args[j]? = some v → Value.okWide Try.prog W .any base t v := hval0
  have hW' := hW
  obtain ⟨p, q, hA0, hV, rfl, hfz, hnd⟩ := hW
  have hA : DataW.TrodAll enc Try.prog W 0 (fun _ => true) true Try.f6.params.toList args.toList ds p := hA0
  rw [Try.params6] at hA hval
  obtain ⟨v0, vs0, d0, ds0, p0, q0, hargs, rfl, rfl, h0, r0⟩ := trodAll_cons hA
  obtain ⟨v1, vs1, d1, ds1, p1, q1, rfl, rfl, rfl, h1, r1⟩ := trodAll_cons r0
  obtain ⟨rfl, rfl, rfl⟩ := trodAll_nil r1
  obtain rfl : args = #[v0, v1] := by cases args; simp_all
  obtain ⟨rfl, rfl⟩ := trodVars_none hV
  have lt0 : ∀ x ∈ p0, x.block < W.heap.size := by obtain ⟨m, hm⟩ := h0; exact DataW.trod_lt m _ _ _ hm
  obtain ⟨arr0, rfl, -⟩ := okWide_struct Try.underlying23 (hval 0 23 v0 rfl rfl)
  obtain ⟨a0, w0, x0⟩ := open_agg oSetupL h0
  have lt1 : ∀ x ∈ p1, x.block < W.heap.size := by obtain ⟨m, hm⟩ := h1; exact DataW.trod_lt m _ _ _ hm
  obtain ⟨iv1, rfl⟩ := okWide_int Try.underlying3 (hval 1 3 v1 rfl rfl)
  obtain ⟨a1, w1, x1⟩ := open_cell oInt rfl h1
  refine (calls_of (c6_c a0 a1) (PW.cons x0 (PW.cons x1 PW.nil))).mono fun e W' ⟨he, bel⟩ => ?_
  subst he
  exact ⟨_, rfl, _, _, _, [], _, [], hW', trodAll_mk1 (shut_bool Try.underlying4 _), (trodAll_cons_mk (Below.trod laidOut (by kernel_rfl) (of_decide_eq_true (by kernel_rfl)) h0 bel lt0) (trodAll_cons_mk (Below.trod laidOut (by kernel_rfl) (of_decide_eq_true (by kernel_rfl)) h1 bel lt1) trodAll_mk0)), rfl, bel.frame _, fun h => by cases h⟩
theorem over : Rows.fnExactCoverStepsRow.holds Try.pinned (OpenSpec.ofChange Rows.fnExactCoverStepsSpec) :=
  OpenClaim.holds_of_wide 6 Try.f6 rfl rfl rfl rfl rfl rfl rfl ⟨rfl, rfl, rfl, rfl, rfl⟩ rfl rfl rfl rfl rfl (by kernel_rfl) Try.func6 (by kernel_rfl)
    (of_decide_eq_true (by kernel_rfl)) (by unfold Func.isWrapper; first | (rw [if_pos (by decide +kernel)]; kernel_rfl) | (rw [if_neg (by decide +kernel)]; exact ⟨rfl, rfl⟩))
    (fun os started H enc _ => lifted os started H enc)
end Go.Proofs.Ytbamamgeamnmnaa.fnExactCoverSteps
namespace Go.Proofs.Ytbamamgeamnmnaa
/-- The row, under a short name, for the claim. -/
theorem fnExactCoverSteps_holds : Rows.FnExactCoverStepsSaid := fnExactCoverSteps.over
#print axioms fnExactCoverSteps_holds
end Go.Proofs.Ytbamamgeamnmnaa

