/-
  Contracts: clients that are ok, in the program.
-/
import Derived.Test.YtjlhdfciklnndaaGreatF1
namespace Go.Proofs.YtjlhdfciklnndaaGreat.E
open Go Go.RowKit
set_option maxHeartbeats 4000000
set_option maxRecDepth 10000
set_option linter.unusedSimpArgs false
set_option linter.unusedVariables false
set_option linter.unusedSectionVars false
def dcF2 : Dec := ⟨[], [9, 10, 11], [27, 30, 44, 45, 46, 58, 68, 78, 79, 86, 101, 112, 113, 132, 174, 196, 247, 249, 351, 356], false⟩
theorem c185_c (c : MCl) (hl : c.acks.length ≤ maxLen) : CallR Tryz.prog 185 [c.ro] (vB (mClOk c)) [] := by
  refine use_of dcF2 false Tryz.f185 ?_
  conv => enter [1]; reduce
  refine jvR Tryz.f185 120 [.tmp 2] (by kernel_rfl) (by decide +kernel) rfl ?_
  by_cases hb : (mIn c.many 1 7 = true ∧ mIn c.need 1 c.many = true)
  · obtain ⟨h1, h2⟩ := hb
    have k1 := mIn_iff.1 h1
    have k2 := mIn_iff.1 h2
    have w2 : IntKind.i64.wrap (2 * c.need) = 2 * c.need := wrS (by omega)
    have hAB : ((c.pin.size == 0) = false ∧ mIn c.pin.size 1 256 = true) ∨ (mIn c.pin.size 1 256 = false ∧ (c.pin.size == 0) = true ∧ ((c.pin.root.a : Int) == 0) = true ∧ ((c.pin.root.b : Int) == 0) = true ∧ ((c.pin.root.c : Int) == 0) = true ∧ ((c.pin.root.d : Int) == 0) = true) ∨ mPin c.pin = false := by
      cases hp : mPin c.pin with
      | false => exact .inr (.inr rfl)
      | true =>
        cases hi : mIn c.pin.size 1 256 with
        | true =>
          have := mIn_iff.1 hi
          exact .inl ⟨by rw [beq_eq_false_iff_ne]; omega, rfl⟩
        | false =>
          simp only [mPin, hi, Bool.false_or, eqPt, MPt.zero, Bool.and_eq_true] at hp
          exact .inr (.inl ⟨rfl, hp.1, hp.2.1, hp.2.2.1, hp.2.2.2.1, hp.2.2.2.2⟩)
    rcases hAB with ⟨f0, f1⟩ | ⟨f1, f0, f2, f3, f4, f5⟩ | hp
    · skip
      have hp : mPin c.pin = true := by simp [mPin, f1]
      have wp := (mPin_wr hp).1
      by_cases hse : mIn c.session 0 1000000 = true
      · have es : (c.session != 0) = decide (1 ≤ c.session) := by
          have := mIn_iff.1 hse
          rw [Bool.eq_iff_iff]
          simp only [bne_iff_ne, decide_eq_true_eq]
          omega
        have hs0 : 0 ≤ c.session := (mIn_iff.1 hse).1
        simp -implicitDefEqProofs only [go_sem]
        repeat' first | (refine Want.intro (by first | exact c108_c _ _ _) ?_; try simp -implicitDefEqProofs only [go_sem, h1, h2, hse, es, wp, w2, f0, f1, guardP_ff, condJ_false, condJ_true, Bool.false_and, Bool.true_and]) | (refine WantM.intro (by first | exact c108_c _ _ _) ?_; try simp -implicitDefEqProofs only [go_sem, h1, h2, hse, es, wp, w2, f0, f1, guardP_ff, condJ_false, condJ_true, Bool.false_and, Bool.true_and]) | (refine guardP_intro (fun h => ?_) (fun h => ?_) <;> try simp -implicitDefEqProofs only [go_sem, h1, h2, hse, es, wp, w2, f0, f1, guardP_ff, condJ_false, condJ_true, Bool.false_and, Bool.true_and, h]) | (refine condJ_intro (fun h => ?_) (fun h => ?_) <;> try simp -implicitDefEqProofs only [go_sem, h1, h2, hse, es, wp, w2, f0, f1, guardP_ff, condJ_false, condJ_true, Bool.false_and, Bool.true_and, h])
        all_goals try (show AV.sc _ = _; simp_all [mClOk, eqPt, MPt.zero]; done)
        all_goals try (show AV.sc _ = _; simp_all [mClOk, eqPt, MPt.zero]; omega)
        rename_i g1 g3 g4
        have g5 := h
        clear h
        simp only [decide_eq_false_iff_not, beq_iff_eq] at g1 g5
        have hE := ok_two h1 h2 (by omega) hse hp g5
        rw [hE]
        clear hE g1 g3 g4 g5 w2
        refine jv_lp (fun m s => ∃ i : Nat, i ≤ c.acks.length ∧ m = c.acks.length - i ∧ (∀ j, j < i → ackAt c.many c.acks j = true) ∧ s = ⟨120, [(1, .ptr 1 0 [] 15 0 0), (72, .ro 1 (c.acks.map intC)), (73, vI c.acks.length), (74, vI i)], [(1, 0, one ⟨15, [c.cs (.ro 1 (c.acks.map intC))], 0, false⟩)], 1⟩) c.acks.length ?_ ?_
        · simp -implicitDefEqProofs only [go_sem]
          exact ⟨0, Nat.zero_le _, rfl, fun j hj => absurd hj (Nat.not_lt_zero _), rfl⟩
        · rintro m s ⟨i, hi, rfl, hall, rfl⟩
          rcases Nat.lt_or_ge i c.acks.length with hlt | hge
          · have hlt' : (i : Int) < (c.acks.length : Int) := by omega
            have hg : c.acks[i]? = some c.acks[i] := List.getElem?_eq_getElem hlt
            have hw := wrap_succ hlt hl
            have nxt : ackAt c.many c.acks i = true → ∀ j, j < i + 1 → ackAt c.many c.acks j = true := fun h j hj => by
              rcases Nat.lt_or_ge j i with hj' | hj'
              · exact hall j hj'
              · rw [show j = i by omega]; exact h
            cases i with
            | zero =>
              have e0 := ackAt_zero (many := c.many) hlt
              have z0 : ¬ (((0 : Nat) : Int) > 0) := by omega
              simp -implicitDefEqProofs only [go_sem, hlt', hg]
              repeat' first | (refine Want.intro (by first | exact c108_c _ _ _) ?_; try simp -implicitDefEqProofs only [go_sem, hlt', hg, hw, z0, condJ_true, condJ_false, guardP_ff]) | (refine WantM.intro (by first | exact c108_c _ _ _) ?_; try simp -implicitDefEqProofs only [go_sem, hlt', hg, hw, z0, condJ_true, condJ_false, guardP_ff]) | (refine guardP_intro (fun h => ?_) (fun h => ?_) <;> try simp -implicitDefEqProofs only [go_sem, hlt', hg, hw, z0, condJ_true, condJ_false, guardP_ff, h]) | (refine condJ_intro (fun h => ?_) (fun h => ?_) <;> try simp -implicitDefEqProofs only [go_sem, hlt', hg, hw, z0, condJ_true, condJ_false, guardP_ff, h])
              all_goals first
                | (rw [acks_bad hlt (by rw [e0]; simp_all; try omega)]; simp; done)
                | exact ⟨_, by omega, _, hlt, rfl, nxt (by rw [e0]; simp_all; try omega), rfl⟩
                | trace_state
            | succ i =>
              have e0 := ackAt_succ (many := c.many) hlt
              have z0 : ((i + 1 : Nat) : Int) > 0 := by omega
              have hg2 : c.acks[i]? = some c.acks[i] := List.getElem?_eq_getElem (by omega)
              have w1 : IntKind.i64.wrap (((i + 1 : Nat) : Int) - 1) = (i : Int) := by unfold maxLen at hl; rw [wrS (by omega)]; omega
              have hlt2 : (i : Int) < (c.acks.length : Int) := by omega
              simp -implicitDefEqProofs only [go_sem, hlt', hg]
              repeat' first | (refine Want.intro (by first | exact c108_c _ _ _) ?_; try simp -implicitDefEqProofs only [go_sem, hlt', hg, hg2, hlt2, hw, w1, z0, condJ_true, condJ_false, guardP_ff]) | (refine WantM.intro (by first | exact c108_c _ _ _) ?_; try simp -implicitDefEqProofs only [go_sem, hlt', hg, hg2, hlt2, hw, w1, z0, condJ_true, condJ_false, guardP_ff]) | (refine guardP_intro (fun h => ?_) (fun h => ?_) <;> try simp -implicitDefEqProofs only [go_sem, hlt', hg, hg2, hlt2, hw, w1, z0, condJ_true, condJ_false, guardP_ff, h]) | (refine condJ_intro (fun h => ?_) (fun h => ?_) <;> try simp -implicitDefEqProofs only [go_sem, hlt', hg, hg2, hlt2, hw, w1, z0, condJ_true, condJ_false, guardP_ff, h])
              all_goals first
                | (rw [acks_bad hlt (by rw [e0]; simp_all; try omega)]; simp; done)
                | exact ⟨_, by omega, _, hlt, rfl, nxt (by rw [e0]; simp_all; try omega), rfl⟩
                | trace_state
          · have hi : i = c.acks.length := by omega
            subst hi
            have hlt' : ¬ ((c.acks.length : Int) < (c.acks.length : Int)) := by omega
            have hA := acks_all.2 hall
            simp -implicitDefEqProofs only [go_sem, hlt']
            repeat' first | (refine Want.intro (by first | exact c108_c _ _ _) ?_; try simp -implicitDefEqProofs only [go_sem, wp, condJ_true, condJ_false, guardP_ff]) | (refine WantM.intro (by first | exact c108_c _ _ _) ?_; try simp -implicitDefEqProofs only [go_sem, wp, condJ_true, condJ_false, guardP_ff]) | (refine guardP_intro (fun h => ?_) (fun h => ?_) <;> try simp -implicitDefEqProofs only [go_sem, wp, condJ_true, condJ_false, guardP_ff, h]) | (refine condJ_intro (fun h => ?_) (fun h => ?_) <;> try simp -implicitDefEqProofs only [go_sem, wp, condJ_true, condJ_false, guardP_ff, h])
            all_goals simp_all
      · have hz : mClOk c = false := by
          cases h : mClOk c with
          | false => rfl
          | true =>
            simp only [mClOk, Bool.and_eq_true] at h
            exact absurd h.2.2.2.1 hse
        rw [hz]
        simp -implicitDefEqProofs only [go_sem]
        repeat' first | (refine Want.intro (by first | exact c108_c _ _ _) ?_; try simp -implicitDefEqProofs only [go_sem, h1, h2, hse, w2, guardP_ff, condJ_false, condJ_true]) | (refine WantM.intro (by first | exact c108_c _ _ _) ?_; try simp -implicitDefEqProofs only [go_sem, h1, h2, hse, w2, guardP_ff, condJ_false, condJ_true]) | (refine guardP_intro (fun h => ?_) (fun h => ?_) <;> try simp -implicitDefEqProofs only [go_sem, h1, h2, hse, w2, guardP_ff, condJ_false, condJ_true, h]) | (refine condJ_intro (fun h => ?_) (fun h => ?_) <;> try simp -implicitDefEqProofs only [go_sem, h1, h2, hse, w2, guardP_ff, condJ_false, condJ_true, h])
        all_goals simp_all
    · skip
      have hp : mPin c.pin = true := by simp [mPin, eqPt, MPt.zero, f0, f2, f3, f4, f5]
      have wp := (mPin_wr hp).1
      by_cases hse : mIn c.session 0 1000000 = true
      · have es : (c.session != 0) = decide (1 ≤ c.session) := by
          have := mIn_iff.1 hse
          rw [Bool.eq_iff_iff]
          simp only [bne_iff_ne, decide_eq_true_eq]
          omega
        have hs0 : 0 ≤ c.session := (mIn_iff.1 hse).1
        simp -implicitDefEqProofs only [go_sem]
        repeat' first | (refine Want.intro (by first | exact c108_c _ _ _) ?_; try simp -implicitDefEqProofs only [go_sem, h1, h2, hse, es, wp, w2, f0, f1, f2, f3, f4, f5, guardP_ff, condJ_false, condJ_true, Bool.false_and, Bool.true_and]) | (refine WantM.intro (by first | exact c108_c _ _ _) ?_; try simp -implicitDefEqProofs only [go_sem, h1, h2, hse, es, wp, w2, f0, f1, f2, f3, f4, f5, guardP_ff, condJ_false, condJ_true, Bool.false_and, Bool.true_and]) | (refine guardP_intro (fun h => ?_) (fun h => ?_) <;> try simp -implicitDefEqProofs only [go_sem, h1, h2, hse, es, wp, w2, f0, f1, f2, f3, f4, f5, guardP_ff, condJ_false, condJ_true, Bool.false_and, Bool.true_and, h]) | (refine condJ_intro (fun h => ?_) (fun h => ?_) <;> try simp -implicitDefEqProofs only [go_sem, h1, h2, hse, es, wp, w2, f0, f1, f2, f3, f4, f5, guardP_ff, condJ_false, condJ_true, Bool.false_and, Bool.true_and, h])
        all_goals try (show AV.sc _ = _; simp_all [mClOk, eqPt, MPt.zero]; done)
        all_goals try (show AV.sc _ = _; simp_all [mClOk, eqPt, MPt.zero]; omega)
        rename_i g1 g3 g4
        have g5 := h
        clear h
        simp only [decide_eq_false_iff_not, beq_iff_eq] at g1 g5
        have hE := ok_two h1 h2 (by omega) hse hp g5
        rw [hE]
        clear hE g1 g3 g4 g5 w2
        refine jv_lp (fun m s => ∃ i : Nat, i ≤ c.acks.length ∧ m = c.acks.length - i ∧ (∀ j, j < i → ackAt c.many c.acks j = true) ∧ s = ⟨120, [(1, .ptr 1 0 [] 15 0 0), (72, .ro 1 (c.acks.map intC)), (73, vI c.acks.length), (74, vI i)], [(1, 0, one ⟨15, [c.cs (.ro 1 (c.acks.map intC))], 0, false⟩)], 1⟩) c.acks.length ?_ ?_
        · simp -implicitDefEqProofs only [go_sem]
          exact ⟨0, Nat.zero_le _, rfl, fun j hj => absurd hj (Nat.not_lt_zero _), rfl⟩
        · rintro m s ⟨i, hi, rfl, hall, rfl⟩
          rcases Nat.lt_or_ge i c.acks.length with hlt | hge
          · have hlt' : (i : Int) < (c.acks.length : Int) := by omega
            have hg : c.acks[i]? = some c.acks[i] := List.getElem?_eq_getElem hlt
            have hw := wrap_succ hlt hl
            have nxt : ackAt c.many c.acks i = true → ∀ j, j < i + 1 → ackAt c.many c.acks j = true := fun h j hj => by
              rcases Nat.lt_or_ge j i with hj' | hj'
              · exact hall j hj'
              · rw [show j = i by omega]; exact h
            cases i with
            | zero =>
              have e0 := ackAt_zero (many := c.many) hlt
              have z0 : ¬ (((0 : Nat) : Int) > 0) := by omega
              simp -implicitDefEqProofs only [go_sem, hlt', hg]
              repeat' first | (refine Want.intro (by first | exact c108_c _ _ _) ?_; try simp -implicitDefEqProofs only [go_sem, hlt', hg, hw, z0, condJ_true, condJ_false, guardP_ff]) | (refine WantM.intro (by first | exact c108_c _ _ _) ?_; try simp -implicitDefEqProofs only [go_sem, hlt', hg, hw, z0, condJ_true, condJ_false, guardP_ff]) | (refine guardP_intro (fun h => ?_) (fun h => ?_) <;> try simp -implicitDefEqProofs only [go_sem, hlt', hg, hw, z0, condJ_true, condJ_false, guardP_ff, h]) | (refine condJ_intro (fun h => ?_) (fun h => ?_) <;> try simp -implicitDefEqProofs only [go_sem, hlt', hg, hw, z0, condJ_true, condJ_false, guardP_ff, h])
              all_goals first
                | (rw [acks_bad hlt (by rw [e0]; simp_all; try omega)]; simp; done)
                | exact ⟨_, by omega, _, hlt, rfl, nxt (by rw [e0]; simp_all; try omega), rfl⟩
                | trace_state
            | succ i =>
              have e0 := ackAt_succ (many := c.many) hlt
              have z0 : ((i + 1 : Nat) : Int) > 0 := by omega
              have hg2 : c.acks[i]? = some c.acks[i] := List.getElem?_eq_getElem (by omega)
              have w1 : IntKind.i64.wrap (((i + 1 : Nat) : Int) - 1) = (i : Int) := by unfold maxLen at hl; rw [wrS (by omega)]; omega
              have hlt2 : (i : Int) < (c.acks.length : Int) := by omega
              simp -implicitDefEqProofs only [go_sem, hlt', hg]
              repeat' first | (refine Want.intro (by first | exact c108_c _ _ _) ?_; try simp -implicitDefEqProofs only [go_sem, hlt', hg, hg2, hlt2, hw, w1, z0, condJ_true, condJ_false, guardP_ff]) | (refine WantM.intro (by first | exact c108_c _ _ _) ?_; try simp -implicitDefEqProofs only [go_sem, hlt', hg, hg2, hlt2, hw, w1, z0, condJ_true, condJ_false, guardP_ff]) | (refine guardP_intro (fun h => ?_) (fun h => ?_) <;> try simp -implicitDefEqProofs only [go_sem, hlt', hg, hg2, hlt2, hw, w1, z0, condJ_true, condJ_false, guardP_ff, h]) | (refine condJ_intro (fun h => ?_) (fun h => ?_) <;> try simp -implicitDefEqProofs only [go_sem, hlt', hg, hg2, hlt2, hw, w1, z0, condJ_true, condJ_false, guardP_ff, h])
              all_goals first
                | (rw [acks_bad hlt (by rw [e0]; simp_all; try omega)]; simp; done)
                | exact ⟨_, by omega, _, hlt, rfl, nxt (by rw [e0]; simp_all; try omega), rfl⟩
                | trace_state
          · have hi : i = c.acks.length := by omega
            subst hi
            have hlt' : ¬ ((c.acks.length : Int) < (c.acks.length : Int)) := by omega
            have hA := acks_all.2 hall
            simp -implicitDefEqProofs only [go_sem, hlt']
            repeat' first | (refine Want.intro (by first | exact c108_c _ _ _) ?_; try simp -implicitDefEqProofs only [go_sem, wp, condJ_true, condJ_false, guardP_ff]) | (refine WantM.intro (by first | exact c108_c _ _ _) ?_; try simp -implicitDefEqProofs only [go_sem, wp, condJ_true, condJ_false, guardP_ff]) | (refine guardP_intro (fun h => ?_) (fun h => ?_) <;> try simp -implicitDefEqProofs only [go_sem, wp, condJ_true, condJ_false, guardP_ff, h]) | (refine condJ_intro (fun h => ?_) (fun h => ?_) <;> try simp -implicitDefEqProofs only [go_sem, wp, condJ_true, condJ_false, guardP_ff, h])
            all_goals simp_all
      · have hz : mClOk c = false := by
          cases h : mClOk c with
          | false => rfl
          | true =>
            simp only [mClOk, Bool.and_eq_true] at h
            exact absurd h.2.2.2.1 hse
        rw [hz]
        simp -implicitDefEqProofs only [go_sem]
        repeat' first | (refine Want.intro (by first | exact c108_c _ _ _) ?_; try simp -implicitDefEqProofs only [go_sem, h1, h2, hse, w2, guardP_ff, condJ_false, condJ_true]) | (refine WantM.intro (by first | exact c108_c _ _ _) ?_; try simp -implicitDefEqProofs only [go_sem, h1, h2, hse, w2, guardP_ff, condJ_false, condJ_true]) | (refine guardP_intro (fun h => ?_) (fun h => ?_) <;> try simp -implicitDefEqProofs only [go_sem, h1, h2, hse, w2, guardP_ff, condJ_false, condJ_true, h]) | (refine condJ_intro (fun h => ?_) (fun h => ?_) <;> try simp -implicitDefEqProofs only [go_sem, h1, h2, hse, w2, guardP_ff, condJ_false, condJ_true, h])
        all_goals simp_all
    · rw [ok_low (fun h => by rw [hp] at h; cases h.2)]
      obtain ⟨f1, f0⟩ := Bool.or_eq_false_iff.1 (show (mIn c.pin.size 1 256 || eqPt c.pin .zero) = false from hp)
      have f0 : (c.pin.size == 0 && (((c.pin.root.a : Int) == 0) && (((c.pin.root.b : Int) == 0) && (((c.pin.root.c : Int) == 0) && ((c.pin.root.d : Int) == 0))))) = false := f0
      simp -implicitDefEqProofs only [go_sem]
      repeat' first | (refine Want.intro (by first | exact c108_c _ _ _) ?_; try simp -implicitDefEqProofs only [go_sem, h1, h2, w2, f0, f1, guardP_ff, guardP_tt, condJ_false, condJ_true]) | (refine WantM.intro (by first | exact c108_c _ _ _) ?_; try simp -implicitDefEqProofs only [go_sem, h1, h2, w2, f0, f1, guardP_ff, guardP_tt, condJ_false, condJ_true]) | (refine guardP_intro (fun h => ?_) (fun h => ?_) <;> try simp -implicitDefEqProofs only [go_sem, h1, h2, w2, f0, f1, guardP_ff, guardP_tt, condJ_false, condJ_true, h]) | (refine condJ_intro (fun h => ?_) (fun h => ?_) <;> try simp -implicitDefEqProofs only [go_sem, h1, h2, w2, f0, f1, guardP_ff, guardP_tt, condJ_false, condJ_true, h])
      all_goals rfl
  · rw [ok_low (fun h => hb h.1)]
    simp -implicitDefEqProofs only [go_sem]
    repeat' first | (refine Want.intro (by first | exact c108_c _ _ _) ?_; try simp -implicitDefEqProofs only [go_sem, condJ_true, condJ_false]) | (refine WantM.intro (by first | exact c108_c _ _ _) ?_; try simp -implicitDefEqProofs only [go_sem, condJ_true, condJ_false]) | (refine guardP_intro (fun h => ?_) (fun h => ?_) <;> try simp -implicitDefEqProofs only [go_sem, condJ_true, condJ_false, h]) | (refine condJ_intro (fun h => ?_) (fun h => ?_) <;> try simp -implicitDefEqProofs only [go_sem, condJ_true, condJ_false, h])
    all_goals simp_all
end Go.Proofs.YtjlhdfciklnndaaGreat.E
