/-
  FnExactWitnessHear: for every input the law returns true, and the input reads as it did. No condition.
-/
import Derived.Test.YtjlhdfciklnndaaGreatVL
import Derived.Test.YtjlhdfciklnndaaGreatLW
import Derived.Test.YtjlhdfciklnndaaGreatRows
namespace Go.Proofs.YtjlhdfciklnndaaGreat.fnExactWitnessHear
open Go.ChangeShapes Go.WideShapes Go.ChangeAt Go.RowKit E
set_option linter.unusedVariables false
theorem own : ownKnob Tryz.prog.godebug = none := by kernel_rfl
theorem laidOut : laidOutB Tryz.prog = true := by kernel_rfl
set_option maxRecDepth 100000 in
theorem lifted (os : Os) (started : os.Started) (H : Type) (enc : TypeId × Value → H) :
    ReturnsInHanded {} Tryz.checked os 9 .any (Rows.fnExactWitnessHearSpec.pre6 enc Tryz.prog Tryz.f9 Rows.fnExactWitnessHearRow.domain false) (Rows.fnExactWitnessHearSpec.post enc Tryz.prog Tryz.f9 false true false false) := by
  refine returnsInHanded_of_change_sized (C := Tryz.checked) own started (by kernel_rfl) Tryz.func9
    (ChangeSpec.witness6 (enc := enc) (C := Tryz.checked) false ⟨#[], #[.agg #[.int .u64 0, .int .u64 0, .int .u64 0, .int .u64 0, .int .u64 0, .int .u64 0, .int .u64 0, .int .u64 0, .int .u64 0, .int .u64 0, .int .u64 0, .int .u64 0, .int .u64 0, .int .u64 0, .slice none 0 0], .int .i64 0, .agg #[.int .i64 0, .int .i64 0, .string ByteArray.empty]], []⟩ 8 (by kernel_rfl) (by kernel_rfl) (by kernel_rfl) (by kernel_rfl)) ?_
  intro W base args ds gs before hval0 hW hcnd hsz0 _
  have hval : ∀ (j : Nat) t v, Tryz.f9.params[j]? = some t → args[j]? = some v → Value.okWide Tryz.prog W .any base t v := hval0
  have hW' := hW
  obtain ⟨p, q, hA0, hV, rfl, hfz, hnd⟩ := hW
  have hA : DataW.TrodAll enc Tryz.prog W 0 (fun _ => true) true Tryz.f9.params.toList args.toList ds p := hA0
  rw [Tryz.params9] at hA hval
  obtain ⟨v0, vs0, d0, ds0, p0, q0, hargs, rfl, rfl, h0, r0⟩ := trodAll_cons hA
  obtain ⟨v1, vs1, d1, ds1, p1, q1, rfl, rfl, rfl, h1, r1⟩ := trodAll_cons r0
  obtain ⟨v2, vs2, d2, ds2, p2, q2, rfl, rfl, rfl, h2, r2⟩ := trodAll_cons r1
  obtain ⟨rfl, rfl, rfl⟩ := trodAll_nil r2
  obtain rfl : args = #[v0, v1, v2] := by cases args; simp_all
  obtain ⟨rfl, rfl⟩ := trodVars_none hV
  have lt0 : ∀ x ∈ p0, x.block < W.heap.size := by obtain ⟨m, hm⟩ := h0; exact DataW.trod_lt m _ _ _ hm
  obtain ⟨arr0, rfl, -⟩ := okWide_struct Tryz.underlying134 (hval 0 134 v0 rfl rfl)
  obtain ⟨a0, w0, x0⟩ := open_agg oWit h0
  have lt1 : ∀ x ∈ p1, x.block < W.heap.size := by obtain ⟨m, hm⟩ := h1; exact DataW.trod_lt m _ _ _ hm
  obtain ⟨iv1, rfl⟩ := okWide_int Tryz.underlying3 (hval 1 3 v1 rfl rfl)
  obtain ⟨a1, w1, x1⟩ := open_cell oInt rfl h1
  have lt2 : ∀ x ∈ p2, x.block < W.heap.size := by obtain ⟨m, hm⟩ := h2; exact DataW.trod_lt m _ _ _ hm
  obtain ⟨arr2, rfl, -⟩ := okWide_struct Tryz.underlying34 (hval 2 34 v2 rfl rfl)
  obtain ⟨a2, w2, x2⟩ := open_agg oLet h2
  refine (calls_of ((c9_c a0 a1 a2 w0.1 w0.2.1 w0.2.2 w2)) (PW.cons x0 (PW.cons x1 (PW.cons x2 PW.nil)))).mono fun e W' ⟨he, bel⟩ => ?_
  subst he
  exact ⟨_, rfl, _, _, _, [], _, [], hW', trodAll_mk1 (shut_bool Tryz.underlying4 _), (trodAll_cons_mk (Below.trod laidOut (by kernel_rfl) (of_decide_eq_true (by kernel_rfl)) h0 bel lt0) (trodAll_cons_mk (Below.trod laidOut (by kernel_rfl) (of_decide_eq_true (by kernel_rfl)) h1 bel lt1) (trodAll_cons_mk (Below.trod laidOut (by kernel_rfl) (of_decide_eq_true (by kernel_rfl)) h2 bel lt2) trodAll_mk0))), rfl, bel.frame _, fun h => by cases h⟩
theorem jf0 : laidOutB Tryz.pinned.checked.prog = true := by kernel_rfl
theorem jf1 : mapsRowed Tryz.pinned.checked.prog = true := by kernel_rfl
theorem jf2 : (Rows.fnExactWitnessHearRow.inPlace == (Tryz.pinned.checked.prog).inPlace 9) = true := by kernel_rfl
theorem jf3 : (Rows.fnExactWitnessHearRow.unfollowed == (Tryz.pinned.checked.prog).unfollowed 9) = true := by kernel_rfl
theorem jf4 : (Rows.fnExactWitnessHearRow.recurses == (Tryz.pinned.checked.prog).recurses 9) = true := by kernel_rfl
theorem jf5 : (Rows.fnExactWitnessHearRow.named == (Tryz.pinned.checked.prog).varsNamed 9) = true := by kernel_rfl
theorem jf6 : (Tryz.pinned.checked.prog).stopsHeard = true := by kernel_rfl
theorem jf7 : (Tryz.pinned.checked.prog).mayEnter = true := by kernel_rfl
theorem jf8 : (Rows.fnExactWitnessHearRow.lifted == (Tryz.pinned.checked.prog).liftsFinal) = true := by kernel_rfl
theorem jf9 : (Rows.fnExactWitnessHearRow.plainKeys == (Tryz.pinned.checked.prog).plainKeys) = true := by kernel_rfl
theorem closed : joinedFacts Tryz.pinned.checked.prog 9 Tryz.f9 Rows.fnExactWitnessHearSpec Rows.fnExactWitnessHearRow = true := by
  unfold joinedFacts
  rw [jf0, jf1, jf2, jf3, jf4, jf5, jf6, jf7, jf8, jf9]
  kernel_rfl
theorem over : Rows.fnExactWitnessHearRow.holds Tryz.pinned (OpenSpec.ofChange Rows.fnExactWitnessHearSpec) :=
  OpenClaim.holds_of_wide 9 Tryz.f9 rfl rfl rfl rfl rfl rfl rfl ⟨rfl, rfl, rfl, rfl, rfl⟩ rfl rfl rfl rfl rfl (by kernel_rfl) Tryz.func9
    closed (of_decide_eq_true (by kernel_rfl)) (by unfold Func.isWrapper; first | (rw [if_pos (by decide +kernel)]; kernel_rfl) | (rw [if_neg (by decide +kernel)]; exact ⟨rfl, rfl⟩))
    (fun os started H enc _ => lifted os started H enc)
end Go.Proofs.YtjlhdfciklnndaaGreat.fnExactWitnessHear
namespace Go.Proofs.YtjlhdfciklnndaaGreat
/-- The row, under a short name, for the claim. -/
theorem fnExactWitnessHear_holds : Rows.FnExactWitnessHearSaid := fnExactWitnessHear.over
#print axioms fnExactWitnessHear_holds
end Go.Proofs.YtjlhdfciklnndaaGreat

