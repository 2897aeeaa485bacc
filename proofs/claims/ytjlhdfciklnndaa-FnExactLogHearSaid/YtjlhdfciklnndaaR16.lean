/-
  FnExactLogHear: for every input the law returns true, and the input reads as it did. No condition.
-/
import Derived.Test.YtjlhdfciklnndaaLG
import Derived.Test.YtjlhdfciklnndaaLP
import Derived.Test.YtjlhdfciklnndaaRows
namespace Go.Proofs.Ytjlhdfciklnndaa.E
open Go Go.RowKit
set_option linter.unusedVariables false
theorem oLog : OpensC Try.prog 24 1 (fun l : List ByteArray => [.ro 1 (l.map leafCs)]) (fun l => l.length ≤ maxLen ∧ ∀ b ∈ l, b.size ≤ maxLen) :=
  (opens_struct Try.underlying24 (by kernel_rfl) (by kernel_rfl) (opensF_cons oStrs opensF_nil)).map (fun x => x.1) _ _ (fun s => ⟨rfl, by simp [sfc]⟩) (fun _ => rfl) (fun _ h => ⟨h.1.2, h.1.1⟩)
end Go.Proofs.Ytjlhdfciklnndaa.E
namespace Go.Proofs.Ytjlhdfciklnndaa.fnExactLogHear
open Go.ChangeShapes Go.WideShapes Go.ChangeAt Go.RowKit E
set_option linter.unusedVariables false
theorem own : ownKnob Try.prog.godebug = none := by kernel_rfl
theorem laidOut : laidOutB Try.prog = true := by kernel_rfl
set_option maxRecDepth 100000 in
theorem lifted (os : Os) (started : os.Started) (H : Type) (enc : TypeId × Value → H) :
    ReturnsInHanded {} Try.checked os 3 .any (Rows.fnExactLogHearSpec.pre6 enc Try.prog Try.f3 Rows.fnExactLogHearRow.domain false) (Rows.fnExactLogHearSpec.post enc Try.prog Try.f3 false true false false) := by
  refine returnsInHanded_of_change_sized (C := Try.checked) own started (by kernel_rfl) Try.func3
    (ChangeSpec.witness6 (enc := enc) (C := Try.checked) false ⟨#[], #[.agg #[.slice none 0 0], .agg #[.int .i64 0, .int .i64 0, .string ByteArray.empty]], []⟩ 8 (by kernel_rfl) (by kernel_rfl) (by kernel_rfl) (by kernel_rfl)) ?_
  intro W base args ds gs before hval0 hW hcnd hsz0 _
  have hval : ∀ (j : Nat) t v, Try.f3.params[j]? = some t → args[j]? = some v → Value.okWide Try.prog W .any base t v := hval0
  have hW' := hW
  obtain ⟨p, q, hA0, hV, rfl, hfz, hnd⟩ := hW
  have hA : DataW.TrodAll enc Try.prog W 0 (fun _ => true) true Try.f3.params.toList args.toList ds p := hA0
  rw [Try.params3] at hA hval
  obtain ⟨v0, vs0, d0, ds0, p0, q0, hargs, rfl, rfl, h0, r0⟩ := trodAll_cons hA
  obtain ⟨v1, vs1, d1, ds1, p1, q1, rfl, rfl, rfl, h1, r1⟩ := trodAll_cons r0
  obtain ⟨rfl, rfl, rfl⟩ := trodAll_nil r1
  obtain rfl : args = #[v0, v1] := by cases args; simp_all
  obtain ⟨rfl, rfl⟩ := trodVars_none hV
  have lt0 : ∀ x ∈ p0, x.block < W.heap.size := by obtain ⟨m, hm⟩ := h0; exact DataW.trod_lt m _ _ _ hm
  obtain ⟨arr0, rfl, -⟩ := okWide_struct Try.underlying24 (hval 0 24 v0 rfl rfl)
  obtain ⟨a0, w0, x0⟩ := open_agg oLog h0
  have lt1 : ∀ x ∈ p1, x.block < W.heap.size := by obtain ⟨m, hm⟩ := h1; exact DataW.trod_lt m _ _ _ hm
  obtain ⟨arr1, rfl, -⟩ := okWide_struct Try.underlying26 (hval 1 26 v1 rfl rfl)
  obtain ⟨a1, w1, x1⟩ := open_agg oLet h1
  refine (calls_of ((c3_c a0 a1 w0.1 w0.2 w1)) (PW.cons x0 (PW.cons x1 PW.nil))).mono fun e W' ⟨he, bel⟩ => ?_
  subst he
  exact ⟨_, rfl, _, _, _, [], _, [], hW', trodAll_mk1 (shut_bool Try.underlying4 _), (trodAll_cons_mk (Below.trod laidOut (by kernel_rfl) (of_decide_eq_true (by kernel_rfl)) h0 bel lt0) (trodAll_cons_mk (Below.trod laidOut (by kernel_rfl) (of_decide_eq_true (by kernel_rfl)) h1 bel lt1) trodAll_mk0)), rfl, bel.frame _, fun h => by cases h⟩
theorem jf0 : laidOutB Try.pinned.checked.prog = true := by kernel_rfl
theorem jf1 : mapsRowed Try.pinned.checked.prog = true := by kernel_rfl
theorem jf2 : (Rows.fnExactLogHearRow.inPlace == (Try.pinned.checked.prog).inPlace 3) = true := by kernel_rfl
theorem jf3 : (Rows.fnExactLogHearRow.unfollowed == (Try.pinned.checked.prog).unfollowed 3) = true := by kernel_rfl
theorem jf4 : (Rows.fnExactLogHearRow.recurses == (Try.pinned.checked.prog).recurses 3) = true := by kernel_rfl
theorem jf5 : (Rows.fnExactLogHearRow.named == (Try.pinned.checked.prog).varsNamed 3) = true := by kernel_rfl
theorem jf6 : (Try.pinned.checked.prog).stopsHeard = true := by kernel_rfl
theorem jf7 : (Try.pinned.checked.prog).mayEnter = true := by kernel_rfl
theorem jf8 : (Rows.fnExactLogHearRow.lifted == (Try.pinned.checked.prog).liftsFinal) = true := by kernel_rfl
theorem jf9 : (Rows.fnExactLogHearRow.plainKeys == (Try.pinned.checked.prog).plainKeys) = true := by kernel_rfl
theorem closed : joinedFacts Try.pinned.checked.prog 3 Try.f3 Rows.fnExactLogHearSpec Rows.fnExactLogHearRow = true := by
  unfold joinedFacts
  rw [jf0, jf1, jf2, jf3, jf4, jf5, jf6, jf7, jf8, jf9]
  kernel_rfl
theorem over : Rows.fnExactLogHearRow.holds Try.pinned (OpenSpec.ofChange Rows.fnExactLogHearSpec) :=
  OpenClaim.holds_of_wide 3 Try.f3 rfl rfl rfl rfl rfl rfl rfl ⟨rfl, rfl, rfl, rfl, rfl⟩ rfl rfl rfl rfl rfl (by kernel_rfl) Try.func3
    closed (of_decide_eq_true (by kernel_rfl)) (by unfold Func.isWrapper; first | (rw [if_pos (by decide +kernel)]; kernel_rfl) | (rw [if_neg (by decide +kernel)]; exact ⟨rfl, rfl⟩))
    (fun os started H enc _ => lifted os started H enc)
end Go.Proofs.Ytjlhdfciklnndaa.fnExactLogHear
namespace Go.Proofs.Ytjlhdfciklnndaa
/-- The row, under a short name, for the claim. -/
theorem fnExactLogHear_holds : Rows.FnExactLogHearSaid := fnExactLogHear.over
#print axioms fnExactLogHear_holds
end Go.Proofs.Ytjlhdfciklnndaa

