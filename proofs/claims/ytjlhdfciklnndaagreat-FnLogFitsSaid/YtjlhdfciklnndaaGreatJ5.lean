/-
  Contracts: a monitor's tick, and what it hears, in the program.
-/
import Derived.Test.YtjlhdfciklnndaaGreatJ4
import Derived.Test.YtjlhdfciklnndaaGreatK1
namespace Go.Proofs.YtjlhdfciklnndaaGreat.E
open Go Go.RowKit
set_option maxHeartbeats 4000000
set_option maxRecDepth 10000
set_option linter.unusedSimpArgs false
set_option linter.unusedVariables false
set_option linter.unusedSectionVars false
def dcJ5 : Dec := ⟨[(27, .cm [false]), (75, .cn [false, false]), (76, .cn [false, true]), (77, .cn [false, false, false])], [9, 10, 11], [27, 30, 44, 45, 46, 58, 68, 78, 79, 86, 101, 112, 113, 132, 174, 196, 247, 249, 351, 356], false⟩

def mFetch (a n : Int) : MMsg := ⟨7, 0, a, 0, dig0, n, [], []⟩
def mMTick (m : MMon) (me : Int) : MWat :=
  if mMonOk m && mIn me 1 20 then (if (m.leaves.length : Int) < m.cl.pin.size then ⟨m, [⟨me, 0, mWireBytes (mFetch m.leaves.length (min (m.cl.pin.size - m.leaves.length) 8))⟩], [], [], []⟩ else wOf m (mTick m.cl me)) else .zero
theorem monOk_r {m : MMon} (h : mMonOk m = true) : MRok m ∧ (m.leaves.length : Int) ≤ m.cl.pin.size := by
  simp only [mMonOk, Bool.and_eq_true, decide_eq_true_eq] at h
  obtain ⟨h1, h2, h3, h4⟩ := h
  refine ⟨⟨(clOk_many h1).2, h2, (clOk_p h1).z, ?_⟩, h3⟩
  split at h4
  · rename_i e
    rw [eqPt_iff.1 e]
    exact ⟨Int.le_refl _, by show (0 : Int) ≤ _; omega⟩
  · simp only [Bool.and_eq_true, mIn_iff] at h4
    omega
theorem tick_a {c : MCl} {me : Int} (h : c.acks.length ≤ 100) : (mTick c me).cl.acks.length ≤ 100 := by
  unfold mTick
  split
  · split
    · exact h
    · exact Nat.zero_le _
  · exact Nat.zero_le _
def mMHear (m : MMon) (me : Int) (l : MLet) : MWat :=
  if mMonOk m && (mIn me 1 20 && mLetOk l) then
    (if ((mWireRead l.text).2.1 == 0) && (((mWireRead l.text).1.kind == 8) && (l.from_ == 0)) then mRange m (mWireRead l.text).1 else wOf m (mHear m.cl me l)) else .zero
theorem wire_leaves {s : ByteArray} (h : (mWireRead s).2.1 = 0) : leavesOk (mWireRead s).1.leaves = true := (WOk.of (wire_inv s h).1).lo
theorem c15_c (m : MMon) (me : Int) (l : MLet) (h1 : m.cl.acks.length ≤ maxLen) (h2 : m.leaves.length ≤ maxLen) : CallM Tryz.prog 15 [] [m.ro, vI me, .agg l.cs] (mMHear m me l).av (mMHear m me l).out := by
  refine use_of dcJ5 false Tryz.f15 ?_
  conv => enter [1]; reduce
  refine jvM Tryz.f15 55 [.cell 6 48] (by kernel_rfl) (by decide +kernel) rfl ?_
  unfold mMHear
  simp -implicitDefEqProofs only [go_sem]
  refine Want.intro (c74_c m h1 h2) ?_
  cases a1 : mMonOk m with
  | false =>
    simp -implicitDefEqProofs only [go_sem, a1, Bool.not_false, guardP_tf, guardP_ff, guardP_ft, guardP_tt, condJ_true, condJ_false]
    exact ⟨rfl, rfl⟩
  | true =>
    obtain ⟨hr, hpl⟩ := monOk_r a1
    have hp := hr.p
    have ha := hr.a
    have hln := (mLeavesOk_of hr.l).1
    simp -implicitDefEqProofs only [go_sem, a1, Bool.not_true, guardP_tf, guardP_ff, guardP_ft, guardP_tt, condJ_true, condJ_false]
    refine Want.intro (c29_c l) ?_
    cases a2 : mLetOk l with
    | false =>
      simp -implicitDefEqProofs only [go_sem, Bool.not_false, Bool.and_false, guardP_tf, guardP_ff, guardP_ft, guardP_tt, condJ_true, condJ_false]
      exact ⟨rfl, rfl⟩
    | true =>
      have hsz : l.text.size ≤ 600 := by
        simp only [mLetOk, Bool.and_eq_true, decide_eq_true_eq] at a2
        omega
      cases a3 : mIn me 1 20 with
      | false =>
        by_cases n1 : me < 1
        · simp -implicitDefEqProofs only [go_sem, n1, Bool.not_true, Bool.and_self, Bool.and_true, guardP_tf, guardP_ff, guardP_ft, guardP_tt, condJ_true, condJ_false]
          exact ⟨rfl, rfl⟩
        · have n2 : me > 20 := by
            have : ¬ (1 ≤ me ∧ me ≤ 20) := fun h => by rw [mIn_iff.2 h] at a3; cases a3
            omega
          simp -implicitDefEqProofs only [go_sem, n1, n2, Bool.not_true, Bool.and_self, Bool.and_true, guardP_tf, guardP_ff, guardP_ft, guardP_tt, condJ_true, condJ_false]
          exact ⟨rfl, rfl⟩
      | true =>
        have k3 := mIn_iff.1 a3
        have n1 : ¬ (me < 1) := by omega
        have n2 : ¬ (me > 20) := by omega
        simp -implicitDefEqProofs only [go_sem, n1, n2, Bool.not_true, Bool.and_self, guardP_tf, guardP_ff, guardP_ft, guardP_tt, condJ_true, condJ_false]
        refine WantM.intro (c27_c l.text (by omega)) ?_
        have hwl := mWire_len l.text
        have hws := wire_leaves (s := l.text)
        generalize hW : mWireRead l.text = W at *
        obtain ⟨x, code, at_⟩ := W
        simp only at hwl hws
        have hMH := c77_c m.cl me l h1
        cases b1 : (code == 0) <;> cases b2 : (x.kind == 8) <;> cases b3 : (l.from_ == 0)
        all_goals simp -implicitDefEqProofs only [go_sem, b1, b2, b3, Bool.and_true, Bool.and_false, Bool.true_and, Bool.false_and, guardP_tf, guardP_ff, guardP_ft, guardP_tt, condJ_true, condJ_false]
        all_goals first
          | (refine WantM.intro hMH ?_
             generalize mHear m.cl me l = T
             simp -implicitDefEqProofs only [go_sem]
             refine WantM.intro (c76_c m T ha (by omega)) ?_
             simp -implicitDefEqProofs only [go_sem]
             done)
          | (have hc0 : code = 0 := by simpa using b1
             refine WantM.intro (c75_c m x hr (hws hc0) hwl.2) ?_
             generalize mRange m x = T
             simp -implicitDefEqProofs only [go_sem]
             first | done | exact ⟨rfl, rfl⟩)
          | trace_state
end Go.Proofs.YtjlhdfciklnndaaGreat.E
