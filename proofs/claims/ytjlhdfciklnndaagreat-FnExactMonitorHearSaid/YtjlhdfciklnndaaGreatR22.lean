/-
  FnExactMonitorHear: for every input the law returns true, and the input reads as it did. No condition.
-/
import Derived.Test.YtjlhdfciklnndaaGreatJ10
import Derived.Test.YtjlhdfciklnndaaGreatLP
import Derived.Test.YtjlhdfciklnndaaGreatRows
namespace Go.Proofs.YtjlhdfciklnndaaGreat.fnExactMonitorHear
open Go.ChangeShapes Go.WideShapes Go.ChangeAt Go.RowKit E
set_option linter.unusedVariables false
theorem own : ownKnob Tryz.prog.godebug = none := by kernel_rfl
theorem laidOut : laidOutB Tryz.prog = true := by kernel_rfl
set_option maxRecDepth 100000 in
theorem lifted (os : Os) (started : os.Started) (H : Type) (enc : TypeId × Value → H) :
    ReturnsInHanded {} Tryz.checked os 3 .any (Rows.fnExactMonitorHearSpec.pre6 enc Tryz.prog Tryz.f3 Rows.fnExactMonitorHearRow.domain false) (Rows.fnExactMonitorHearSpec.post enc Tryz.prog Tryz.f3 false true false false) := by
  refine returnsInHanded_of_change_sized (C := Tryz.checked) own started (by kernel_rfl) Tryz.func3
    (ChangeSpec.witness6 (enc := enc) (C := Tryz.checked) false ⟨#[], #[.agg #[.int .i64 0, .int .i64 0, .int .i64 0, .int .i64 0, .int .i64 0, .int .u64 0, .int .u64 0, .int .u64 0, .int .u64 0, .slice none 0 0, .int .i64 0, .int .u64 0, .int .u64 0, .int .u64 0, .int .u64 0, .slice none 0 0, .int .i64 0, .int .u64 0, .int .u64 0, .int .u64 0, .int .u64 0], .int .i64 0, .agg #[.int .i64 0, .int .i64 0, .string ByteArray.empty]], []⟩ 8 (by kernel_rfl) (by kernel_rfl) (by kernel_rfl) (by kernel_rfl)) ?_
  intro W base args ds gs before hval0 hW hcnd hsz0 _
  have hval : ∀ (j : Nat) t v, Tryz.f3.params[j]? = some t → args[j]? = some v → Value.okWide Tryz.prog W .any base t v := hval0
  have hW' := hW
  obtain ⟨p, q, hA0, hV, rfl, hfz, hnd⟩ := hW
  have hA : DataW.TrodAll enc Tryz.prog W 0 (fun _ => true) true Tryz.f3.params.toList args.toList ds p := hA0
  rw [Tryz.params3] at hA hval
  obtain ⟨v0, vs0, d0, ds0, p0, q0, hargs, rfl, rfl, h0, r0⟩ := trodAll_cons hA
  obtain ⟨v1, vs1, d1, ds1, p1, q1, rfl, rfl, rfl, h1, r1⟩ := trodAll_cons r0
  obtain ⟨v2, vs2, d2, ds2, p2, q2, rfl, rfl, rfl, h2, r2⟩ := trodAll_cons r1
  obtain ⟨rfl, rfl, rfl⟩ := trodAll_nil r2
  obtain rfl : args = #[v0, v1, v2] := by cases args; simp_all
  obtain ⟨rfl, rfl⟩ := trodVars_none hV
  have lt0 : ∀ x ∈ p0, x.block < W.heap.size := by obtain ⟨m, hm⟩ := h0; exact DataW.trod_lt m _ _ _ hm
  obtain ⟨arr0, rfl, -⟩ := okWide_struct Tryz.underlying32 (hval 0 32 v0 rfl rfl)
  obtain ⟨a0, w0, x0⟩ := open_agg oMon h0
  have lt1 : ∀ x ∈ p1, x.block < W.heap.size := by obtain ⟨m, hm⟩ := h1; exact DataW.trod_lt m _ _ _ hm
  obtain ⟨iv1, rfl⟩ := okWide_int Tryz.underlying3 (hval 1 3 v1 rfl rfl)
  obtain ⟨a1, w1, x1⟩ := open_cell oInt rfl h1
  have lt2 : ∀ x ∈ p2, x.block < W.heap.size := by obtain ⟨m, hm⟩ := h2; exact DataW.trod_lt m _ _ _ hm
  obtain ⟨arr2, rfl, -⟩ := okWide_struct Tryz.underlying34 (hval 2 34 v2 rfl rfl)
  obtain ⟨a2, w2, x2⟩ := open_agg oLet h2
  refine (calls_of ((c3_c a0 a1 a2 w0.1 w0.2.1 w0.2.2 w2)) (PW.cons x0 (PW.cons x1 (PW.cons x2 PW.nil)))).mono fun e W' ⟨he, bel⟩ => ?_
  subst he
  exact ⟨_, rfl, _, _, _, [], _, [], hW', trodAll_mk1 (shut_bool Tryz.underlying4 _), (trodAll_cons_mk (Below.trod laidOut (by kernel_rfl) (of_decide_eq_true (by kernel_rfl)) h0 bel lt0) (trodAll_cons_mk (Below.trod laidOut (by kernel_rfl) (of_decide_eq_true (by kernel_rfl)) h1 bel lt1) (trodAll_cons_mk (Below.trod laidOut (by kernel_rfl) (of_decide_eq_true (by kernel_rfl)) h2 bel lt2) trodAll_mk0))), rfl, bel.frame _, fun h => by cases h⟩
theorem jf0 : laidOutB Tryz.pinned.checked.prog = true := by kernel_rfl
theorem jf1 : mapsRowed Tryz.pinned.checked.prog = true := by kernel_rfl
theorem jf2 : (Rows.fnExactMonitorHearRow.inPlace == (Tryz.pinned.checked.prog).inPlace 3) = true := by kernel_rfl
theorem jf3 : (Rows.fnExactMonitorHearRow.unfollowed == (Tryz.pinned.checked.prog).unfollowed 3) = true := by kernel_rfl
theorem jf4 : (Rows.fnExactMonitorHearRow.recurses == (Tryz.pinned.checked.prog).recurses 3) = true := by kernel_rfl
theorem jf5 : (Rows.fnExactMonitorHearRow.named == (Tryz.pinned.checked.prog).varsNamed 3) = true := by kernel_rfl
theorem jf6 : (Tryz.pinned.checked.prog).stopsHeard = true := by kernel_rfl
theorem jf7 : (Tryz.pinned.checked.prog).mayEnter = true := by kernel_rfl
theorem jf8 : (Rows.fnExactMonitorHearRow.lifted == (Tryz.pinned.checked.prog).liftsFinal) = true := by kernel_rfl
theorem jf9 : (Rows.fnExactMonitorHearRow.plainKeys == (Tryz.pinned.checked.prog).plainKeys) = true := by kernel_rfl
theorem closed : joinedFacts Tryz.pinned.checked.prog 3 Tryz.f3 Rows.fnExactMonitorHearSpec Rows.fnExactMonitorHearRow = true := by
  unfold joinedFacts
  rw [jf0, jf1, jf2, jf3, jf4, jf5, jf6, jf7, jf8, jf9]
  kernel_rfl
theorem over : Rows.fnExactMonitorHearRow.holds Tryz.pinned (OpenSpec.ofChange Rows.fnExactMonitorHearSpec) :=
  OpenClaim.holds_of_wide 3 Tryz.f3 rfl rfl rfl rfl rfl rfl rfl ⟨rfl, rfl, rfl, rfl, rfl⟩ rfl rfl rfl rfl rfl (by kernel_rfl) Tryz.func3
    closed (of_decide_eq_true (by kernel_rfl)) (by unfold Func.isWrapper; first | (rw [if_pos (by decide +kernel)]; kernel_rfl) | (rw [if_neg (by decide +kernel)]; exact ⟨rfl, rfl⟩))
    (fun os started H enc _ => lifted os started H enc)
end Go.Proofs.YtjlhdfciklnndaaGreat.fnExactMonitorHear
namespace Go.Proofs.YtjlhdfciklnndaaGreat
/-- The row, under a short name, for the claim. -/
theorem fnExactMonitorHear_holds : Rows.FnExactMonitorHearSaid := fnExactMonitorHear.over
#print axioms fnExactMonitorHear_holds
end Go.Proofs.YtjlhdfciklnndaaGreat

