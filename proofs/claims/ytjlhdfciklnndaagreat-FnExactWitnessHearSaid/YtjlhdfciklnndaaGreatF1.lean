/-
  Contracts: letters and clients that are ok.
-/
import Derived.Test.YtjlhdfciklnndaaGreatD13
namespace Go.Proofs.YtjlhdfciklnndaaGreat.E
open Go Go.RowKit
set_option maxHeartbeats 4000000
set_option maxRecDepth 10000
set_option linter.unusedSimpArgs false
set_option linter.unusedVariables false
set_option linter.unusedSectionVars false
def dcF1 : Dec := ⟨[], [9, 10, 11], [27, 30, 44, 45, 46, 58, 68, 78, 79, 86, 101, 112, 113, 132, 174, 196, 247, 249, 351, 356], false⟩

structure MPt where
  size : Int
  root : MDig
def MPt.zero : MPt := ⟨0, ⟨0, 0, 0, 0⟩⟩
def MPt.cs (p : MPt) : List AV := [vI p.size, vU p.root.a, vU p.root.b, vU p.root.c, vU p.root.d]
structure MLet where
  from_ : Int
  to_ : Int
  text : ByteArray
def MLet.cs (l : MLet) : List AV := [vI l.from_, vI l.to_, vS l.text]
structure MCl where
  need : Int
  many : Int
  session : Int
  phase : Int
  goal : MPt
  acks : List Int
  pin : MPt
def intC (n : Int) : List AV := [vI n]
def MCl.cs (c : MCl) (a : AV) : List AV := [vI c.need, vI c.many, vI c.session, vI c.phase, vI c.goal.size, vU c.goal.root.a, vU c.goal.root.b, vU c.goal.root.c, vU c.goal.root.d, a, vI c.pin.size, vU c.pin.root.a, vU c.pin.root.b, vU c.pin.root.c, vU c.pin.root.d]
def MCl.ro (c : MCl) : AV := .agg (c.cs (.ro 1 (c.acks.map intC)))
attribute [go_sem] MPt.cs MLet.cs MCl.cs MCl.ro intC
def mLetOk (l : MLet) : Bool := mIn l.from_ 0 20 && (mIn l.to_ 0 20 && decide ((l.text.size : Int) ≤ 600))
def eqPt (a b : MPt) : Bool := a.size == b.size && (((a.root.a : Int) == b.root.a) && (((a.root.b : Int) == b.root.b) && (((a.root.c : Int) == b.root.c) && ((a.root.d : Int) == b.root.d))))
def mPin (p : MPt) : Bool := mIn p.size 1 256 || eqPt p .zero
theorem c52_c (l : MLet) : CallR Tryz.prog 52 [.agg l.cs] (vB (mLetOk l)) [] := by
  refine use_of dcF1 false Tryz.f52 ?_
  conv => enter [1]; reduce
  refine jvR Tryz.f52 17 [.tmp 2] (by kernel_rfl) (by decide +kernel) rfl ?_
  simp -implicitDefEqProofs only [go_sem]
  repeat' first | (refine Want.intro (by first | exact c143_c _ _ _) ?_; try simp -implicitDefEqProofs only [go_sem]) | (refine WantM.intro (by first | exact c143_c _ _ _) ?_; try simp -implicitDefEqProofs only [go_sem]) | (refine guardP_intro (fun h => ?_) (fun h => ?_) <;> try simp -implicitDefEqProofs only [go_sem, h]) | (refine condJ_intro (fun h => ?_) (fun h => ?_) <;> try simp -implicitDefEqProofs only [go_sem, h])
  all_goals simp_all [mLetOk]
theorem c29_c (l : MLet) : CallR Tryz.prog 29 [.agg l.cs] (vB (mLetOk l)) [] := by
  refine use_of dcF1 false Tryz.f29 ?_
  conv => enter [1]; reduce
  refine jvR Tryz.f29 17 [.tmp 2] (by kernel_rfl) (by decide +kernel) rfl ?_
  simp -implicitDefEqProofs only [go_sem]
  repeat' first | (refine Want.intro (by first | exact c108_c _ _ _) ?_; try simp -implicitDefEqProofs only [go_sem]) | (refine WantM.intro (by first | exact c108_c _ _ _) ?_; try simp -implicitDefEqProofs only [go_sem]) | (refine guardP_intro (fun h => ?_) (fun h => ?_) <;> try simp -implicitDefEqProofs only [go_sem, h]) | (refine condJ_intro (fun h => ?_) (fun h => ?_) <;> try simp -implicitDefEqProofs only [go_sem, h])
  all_goals simp_all [mLetOk]
theorem c261_c (p : MPt) : CallR Tryz.prog 261 [.agg p.cs] (vB (mPin p)) [] := by
  refine use_of dcF1 false Tryz.f261 ?_
  conv => enter [1]; reduce
  refine jvR Tryz.f261 11 [.tmp 2] (by kernel_rfl) (by decide +kernel) rfl ?_
  simp -implicitDefEqProofs only [go_sem]
  repeat' first | (refine Want.intro (by first | exact c143_c _ _ _) ?_; try simp -implicitDefEqProofs only [go_sem]) | (refine WantM.intro (by first | exact c143_c _ _ _) ?_; try simp -implicitDefEqProofs only [go_sem]) | (refine guardP_intro (fun h => ?_) (fun h => ?_) <;> try simp -implicitDefEqProofs only [go_sem, h]) | (refine condJ_intro (fun h => ?_) (fun h => ?_) <;> try simp -implicitDefEqProofs only [go_sem, h])
  all_goals simp_all [mPin, eqPt, MPt.zero]
  all_goals trace_state
def ackAt (many : Int) (l : List Int) (i : Nat) : Bool := mIn (l.getD i 0) 1 many && (i == 0 || decide (l.getD (i - 1) 0 < l.getD i 0))
def acksOk (many : Int) (l : List Int) : Bool := (List.range l.length).all (ackAt many l)
def mClOk (c : MCl) : Bool :=
  mIn c.many 1 7 && (mIn c.need 1 c.many && (decide (c.many < 2 * c.need) && (mIn c.session 0 1000000 && (mPin c.pin && (if c.phase = 0 ∨ c.phase = 1 then eqPt c.goal .zero && (c.acks.length == 0 && decide (c.phase ≤ c.session)) else decide (c.phase = 2) && (decide (1 ≤ c.session) && (mIn c.goal.size (c.pin.size + 1) 256 && (decide ((c.acks.length : Int) < c.need) && acksOk c.many c.acks))))))))
theorem mIn_iff {a b c : Int} : mIn a b c = true ↔ b ≤ a ∧ a ≤ c := by simp [mIn]
theorem mPin_wr {p : MPt} (h : mPin p = true) : IntKind.i64.wrap (p.size + 1) = p.size + 1 ∧ 0 ≤ p.size ∧ p.size ≤ 256 := by
  have : 0 ≤ p.size ∧ p.size ≤ 256 := by
    simp only [mPin, Bool.or_eq_true, mIn_iff] at h
    rcases h with h | h
    · omega
    · simp only [eqPt, MPt.zero, Bool.and_eq_true, beq_iff_eq] at h
      omega
  exact ⟨wrS (by omega), this⟩
theorem ok_low {c : MCl} (h : ¬ ((mIn c.many 1 7 = true ∧ mIn c.need 1 c.many = true) ∧ mPin c.pin = true)) : mClOk c = false := by
  cases h' : mClOk c with
  | false => rfl
  | true =>
    simp only [mClOk, Bool.and_eq_true] at h'
    exact absurd ⟨⟨h'.1, h'.2.1⟩, h'.2.2.2.2.1⟩ h
theorem acks_all {many : Int} {l : List Int} : acksOk many l = true ↔ ∀ i, i < l.length → ackAt many l i = true := by simp [acksOk, List.all_eq_true]
theorem ackAt_zero {many : Int} {l : List Int} (h : 0 < l.length) : ackAt many l 0 = mIn l[0] 1 many := by simp [ackAt, h]
theorem ackAt_succ {many : Int} {l : List Int} {i : Nat} (h : i + 1 < l.length) : ackAt many l (i + 1) = (mIn l[i + 1] 1 many && decide (l[i] < l[i + 1])) := by simp [ackAt, h, show i < l.length by omega]
theorem acks_bad {many : Int} {l : List Int} {i : Nat} (h : i < l.length) (hb : ackAt many l i = false) : acksOk many l = false := by
  cases h' : acksOk many l with
  | false => rfl
  | true => rw [acks_all.1 h' i h] at hb; cases hb
theorem ok_two {c : MCl} (h1 : mIn c.many 1 7 = true) (h2 : mIn c.need 1 c.many = true) (h3 : c.many < 2 * c.need) (h4 : mIn c.session 0 1000000 = true) (h5 : mPin c.pin = true) (h6 : c.phase = 2) : mClOk c = (decide (1 ≤ c.session) && (mIn c.goal.size (c.pin.size + 1) 256 && (decide ((c.acks.length : Int) < c.need) && acksOk c.many c.acks))) := by
  simp [mClOk, h1, h2, h3, h4, h5, h6]
theorem c178_c (c : MCl) (hl : c.acks.length ≤ maxLen) : CallR Tryz.prog 178 [c.ro] (vB (mClOk c)) [] := by
  refine use_of dcF1 false Tryz.f178 ?_
  conv => enter [1]; reduce
  refine jvR Tryz.f178 120 [.tmp 2] (by kernel_rfl) (by decide +kernel) rfl ?_
  by_cases hb : (mIn c.many 1 7 = true ∧ mIn c.need 1 c.many = true)
  · obtain ⟨h1, h2⟩ := hb
    have k1 := mIn_iff.1 h1
    have k2 := mIn_iff.1 h2
    have w2 : IntKind.i64.wrap (2 * c.need) = 2 * c.need := wrS (by omega)
    by_cases hp : mPin c.pin = true
    · have wp := (mPin_wr hp).1
      simp -implicitDefEqProofs only [go_sem]
      repeat' first | (refine Want.intro (by first | exact c143_c _ _ _ | exact c261_c c.pin) ?_; try simp -implicitDefEqProofs only [go_sem, h1, h2, hp, wp, w2, guardP_ff, condJ_false, condJ_true]) | (refine WantM.intro (by first | exact c143_c _ _ _ | exact c261_c c.pin) ?_; try simp -implicitDefEqProofs only [go_sem, h1, h2, hp, wp, w2, guardP_ff, condJ_false, condJ_true]) | (refine guardP_intro (fun h => ?_) (fun h => ?_) <;> try simp -implicitDefEqProofs only [go_sem, h1, h2, hp, wp, w2, guardP_ff, condJ_false, condJ_true, h]) | (refine condJ_intro (fun h => ?_) (fun h => ?_) <;> try simp -implicitDefEqProofs only [go_sem, h1, h2, hp, wp, w2, guardP_ff, condJ_false, condJ_true, h])
      all_goals try (show AV.sc _ = _; simp_all [mClOk, eqPt, MPt.zero]; done)
      all_goals try (show AV.sc _ = _; simp_all [mClOk, eqPt, MPt.zero]; omega)
      rename_i g1 g2 g3 g4 g5 g6 g7
      have g8 := h
      clear h
      simp only [Bool.not_eq_false', decide_eq_false_iff_not, bne_eq_false_iff_eq] at g1 g2 g5 g6 g7 g8
      have hE := ok_two h1 h2 (by omega) g2 hp g5
      rw [g7, decide_eq_true (show 1 ≤ c.session by omega), decide_eq_true (show (c.acks.length : Int) < c.need by omega), Bool.true_and, Bool.true_and, Bool.true_and] at hE
      rw [hE]
      clear hE g1 g2 g3 g4 g5 g6 g7 g8 w2 wp
      refine jv_lp (fun m s => ∃ i : Nat, i ≤ c.acks.length ∧ m = c.acks.length - i ∧ (∀ j, j < i → ackAt c.many c.acks j = true) ∧ s = ⟨120, [(1, .ptr 1 0 [] 15 0 0), (3, vI i)], [(1, 0, one ⟨15, [c.cs (.ro 1 (c.acks.map intC))], 0, false⟩)], 1⟩) c.acks.length ?_ ?_
      · simp -implicitDefEqProofs only [go_sem]
        exact ⟨0, Nat.zero_le _, rfl, fun j hj => absurd hj (Nat.not_lt_zero _), rfl⟩
      · rintro m s ⟨i, hi, rfl, hall, rfl⟩
        rcases Nat.lt_or_ge i c.acks.length with hlt | hge
        · have hlt' : (i : Int) < (c.acks.length : Int) := by omega
          have hg : c.acks[i]? = some c.acks[i] := List.getElem?_eq_getElem hlt
          have hw := wrap_succ hlt hl
          have nxt : ackAt c.many c.acks i = true → ∀ j, j < i + 1 → ackAt c.many c.acks j = true := fun h j hj => by
            rcases Nat.lt_or_ge j i with hj' | hj'
            · exact hall j hj'
            · rw [show j = i by omega]; exact h
          cases i with
          | zero =>
            have e0 := ackAt_zero (many := c.many) hlt
            have z0 : ¬ (((0 : Nat) : Int) > 0) := by omega
            simp -implicitDefEqProofs only [go_sem, hlt', hg]
            repeat' first | (refine Want.intro (by first | exact c143_c _ _ _) ?_; try simp -implicitDefEqProofs only [go_sem, hlt', hg, hw, z0, condJ_true, condJ_false, guardP_ff]) | (refine WantM.intro (by first | exact c143_c _ _ _) ?_; try simp -implicitDefEqProofs only [go_sem, hlt', hg, hw, z0, condJ_true, condJ_false, guardP_ff]) | (refine guardP_intro (fun h => ?_) (fun h => ?_) <;> try simp -implicitDefEqProofs only [go_sem, hlt', hg, hw, z0, condJ_true, condJ_false, guardP_ff, h]) | (refine condJ_intro (fun h => ?_) (fun h => ?_) <;> try simp -implicitDefEqProofs only [go_sem, hlt', hg, hw, z0, condJ_true, condJ_false, guardP_ff, h])
            all_goals first
              | (rw [acks_bad hlt (by rw [e0]; simp_all; try omega)]; done)
              | exact ⟨_, by omega, _, hlt, rfl, nxt (by rw [e0]; simp_all; try omega), rfl⟩
              | trace_state
          | succ i =>
            have e0 := ackAt_succ (many := c.many) hlt
            have z0 : ((i + 1 : Nat) : Int) > 0 := by omega
            have hg2 : c.acks[i]? = some c.acks[i] := List.getElem?_eq_getElem (by omega)
            have w1 : IntKind.i64.wrap (((i + 1 : Nat) : Int) - 1) = (i : Int) := by unfold maxLen at hl; rw [wrS (by omega)]; omega
            have hlt2 : (i : Int) < (c.acks.length : Int) := by omega
            simp -implicitDefEqProofs only [go_sem, hlt', hg]
            repeat' first | (refine Want.intro (by first | exact c143_c _ _ _) ?_; try simp -implicitDefEqProofs only [go_sem, hlt', hg, hg2, hlt2, hw, w1, z0, condJ_true, condJ_false, guardP_ff]) | (refine WantM.intro (by first | exact c143_c _ _ _) ?_; try simp -implicitDefEqProofs only [go_sem, hlt', hg, hg2, hlt2, hw, w1, z0, condJ_true, condJ_false, guardP_ff]) | (refine guardP_intro (fun h => ?_) (fun h => ?_) <;> try simp -implicitDefEqProofs only [go_sem, hlt', hg, hg2, hlt2, hw, w1, z0, condJ_true, condJ_false, guardP_ff, h]) | (refine condJ_intro (fun h => ?_) (fun h => ?_) <;> try simp -implicitDefEqProofs only [go_sem, hlt', hg, hg2, hlt2, hw, w1, z0, condJ_true, condJ_false, guardP_ff, h])
            all_goals first
              | (rw [acks_bad hlt (by rw [e0]; simp_all; try omega)]; done)
              | exact ⟨_, by omega, _, hlt, rfl, nxt (by rw [e0]; simp_all; try omega), rfl⟩
              | trace_state
        · have hi : i = c.acks.length := by omega
          subst hi
          have hlt' : ¬ ((c.acks.length : Int) < (c.acks.length : Int)) := by omega
          simp -implicitDefEqProofs only [go_sem, hlt']
          rw [acks_all.2 hall]
    · rw [ok_low (fun h => hp h.2)]
      simp -implicitDefEqProofs only [go_sem]
      repeat' first | (refine Want.intro (by first | exact c143_c _ _ _ | exact c261_c c.pin) ?_; try simp -implicitDefEqProofs only [go_sem, h1, h2, hp, w2, guardP_ff, condJ_false, condJ_true]) | (refine WantM.intro (by first | exact c143_c _ _ _ | exact c261_c c.pin) ?_; try simp -implicitDefEqProofs only [go_sem, h1, h2, hp, w2, guardP_ff, condJ_false, condJ_true]) | (refine guardP_intro (fun h => ?_) (fun h => ?_) <;> try simp -implicitDefEqProofs only [go_sem, h1, h2, hp, w2, guardP_ff, condJ_false, condJ_true, h]) | (refine condJ_intro (fun h => ?_) (fun h => ?_) <;> try simp -implicitDefEqProofs only [go_sem, h1, h2, hp, w2, guardP_ff, condJ_false, condJ_true, h])
      all_goals simp_all
  · rw [ok_low (fun h => hb h.1)]
    simp -implicitDefEqProofs only [go_sem]
    repeat' first | (refine Want.intro (by first | exact c143_c _ _ _) ?_; try simp -implicitDefEqProofs only [go_sem, condJ_true, condJ_false]) | (refine WantM.intro (by first | exact c143_c _ _ _) ?_; try simp -implicitDefEqProofs only [go_sem, condJ_true, condJ_false]) | (refine guardP_intro (fun h => ?_) (fun h => ?_) <;> try simp -implicitDefEqProofs only [go_sem, condJ_true, condJ_false, h]) | (refine condJ_intro (fun h => ?_) (fun h => ?_) <;> try simp -implicitDefEqProofs only [go_sem, condJ_true, condJ_false, h])
    all_goals simp_all
end Go.Proofs.YtjlhdfciklnndaaGreat.E
