/-
  Contracts: what comes of a letter to a client, in the reference.
-/
import Derived.Test.YtjlhdfciklnndaaGreatF4
import Derived.Test.YtjlhdfciklnndaaGreatD21
namespace Go.Proofs.YtjlhdfciklnndaaGreat.E
open Go Go.RowKit
set_option maxHeartbeats 4000000
set_option maxRecDepth 10000
set_option linter.unusedSimpArgs false
set_option linter.unusedVariables false
set_option linter.unusedSectionVars false
def dcF5 : Dec := ⟨[(181, .cm [false, false, false]), (182, .cm [false, false]), (183, .cm [false])], [9, 10, 11], [27, 30, 44, 45, 46, 58, 68, 78, 79, 86, 101, 112, 113, 132, 174, 196, 247, 249, 351, 356], false⟩
def MCl.zero : MCl := ⟨0, 0, 0, 0, .zero, [], .zero⟩
def MTold.zero : MTold := ⟨.zero, [], [], []⟩
def hearOk (c : MCl) (me : Int) (l : MLet) : Bool := mClOk c && (mIn me 1 20 && mLetOk l)
def hearHd (c : MCl) (l : MLet) (W : MMsg × Int × Int) : Bool := (W.2.1 == 0) && ((W.1.kind == 2) && ((l.from_ == 0) && ((c.phase == 1) && (W.1.session == c.session))))
def hearAk (c : MCl) (l : MLet) (W : MMsg × Int × Int) : Bool := ((W.2.1 == 0) && ((W.1.kind == 6) && (mIn l.from_ 1 c.many && ((c.phase == 2) && (W.1.session == c.session))))) && eqP ⟨W.1.size, W.1.root⟩ c.goal
def mHear (c : MCl) (me : Int) (l : MLet) : MTold :=
  if hearOk c me l then (if hearHd c l (mWireRead l.text) then mHead c me ⟨(mWireRead l.text).1.size, (mWireRead l.text).1.root⟩ else if hearAk c l (mWireRead l.text) then mAck c l.from_ else .base c) else .zero
theorem mWire_ok {s : ByteArray} : (mWireRead s).1.root.ok := by
  generalize hW : mWireRead s = W
  obtain ⟨m, c, a⟩ := W
  by_cases hc : c = 0
  · have := wire_inv s
    rw [hW] at this
    exact (this hc).2.1
  · have := wire_bad hW hc
    subst this
    exact dig0_ok
theorem clOk_many {c : MCl} (h : mClOk c = true) : c.many ≤ 100 ∧ c.acks.length ≤ 100 := by
  simp only [mClOk, Bool.and_eq_true] at h
  obtain ⟨h1, h2, h3, h4, h5, h6⟩ := h
  have k1 := mIn_iff.1 h1
  have k2 := mIn_iff.1 h2
  refine ⟨by omega, ?_⟩
  split at h6
  · simp only [Bool.and_eq_true, beq_iff_eq] at h6
    omega
  · simp only [Bool.and_eq_true, decide_eq_true_eq] at h6
    omega
theorem c71_c (c : MCl) (me : Int) (l : MLet) (hl : c.acks.length ≤ maxLen) : CallM Tryz.prog 71 [] [c.ro, vI me, .agg l.cs] (mHear c me l).avQ (mHear c me l).outQ := by
  refine use_of dcF5 false Tryz.f71 ?_
  conv => enter [1]; reduce
  refine jvM Tryz.f71 102 [.cell 6 149] (by kernel_rfl) (by decide +kernel) rfl ?_
  unfold mHear
  cases hok : hearOk c me l with
  | false =>
    rw [if_neg (by simp)]
    simp -implicitDefEqProofs only [go_sem]
    repeat' first | (refine Want.intro (by first | exact c178_c c hl | exact c68_c me | exact c52_c l) ?_; try simp -implicitDefEqProofs only [go_sem, condJ_true, condJ_false]) | (refine WantM.intro (by first | exact c178_c c hl | exact c68_c me | exact c52_c l) ?_; try simp -implicitDefEqProofs only [go_sem, condJ_true, condJ_false]) | (refine guardP_intro (fun h => ?_) (fun h => ?_) <;> try simp -implicitDefEqProofs only [go_sem, condJ_true, condJ_false, h]) | (refine condJ_intro (fun h => ?_) (fun h => ?_) <;> try simp -implicitDefEqProofs only [go_sem, condJ_true, condJ_false, h])
    all_goals first
      | exact ⟨rfl, rfl⟩
      | (exfalso; simp_all [hearOk]; done)
      | trace_state
  | true =>
    rw [if_pos rfl]
    simp only [hearOk, Bool.and_eq_true] at hok
    obtain ⟨o1, o2, o3⟩ := hok
    obtain ⟨hmn, hac⟩ := clOk_many o1
    have hsz : l.text.size ≤ 600 := by
      simp only [mLetOk, Bool.and_eq_true, decide_eq_true_eq] at o3
      omega
    have hS := c55_c l.text (by omega)
    have hroot := mWire_ok (s := l.text)
    generalize mWireRead l.text = W at *
    obtain ⟨m, code, a⟩ := W
    simp -implicitDefEqProofs only [go_sem]
    refine Want.intro (c178_c c hl) ?_
    simp -implicitDefEqProofs only [go_sem, o1, guardP_ff, condJ_false]
    refine Want.intro (c68_c me) ?_
    simp -implicitDefEqProofs only [go_sem, o2, guardP_ff, condJ_false]
    refine Want.intro (c52_c l) ?_
    simp -implicitDefEqProofs only [go_sem, o3, guardP_ff, condJ_false]
    refine Want.intro hS ?_
    cases k0 : (code == 0) <;> cases ks : (m.session == c.session)
    all_goals simp -implicitDefEqProofs only [go_sem, k0, ks]
    all_goals repeat' first | (refine Want.intro (by first | exact c143_c _ _ _ | exact c181_c c me m hac hmn hroot | exact c182_c c l.from_ hac | exact c183_c c hac) ?_; try simp -implicitDefEqProofs only [go_sem, k0, ks, condJ_true, condJ_false, guardP_tt, guardP_ff, guardP_tf, guardP_ft]) | (refine WantM.intro (by first | exact c143_c _ _ _ | exact c181_c c me m hac hmn hroot | exact c182_c c l.from_ hac | exact c183_c c hac) ?_; try simp -implicitDefEqProofs only [go_sem, k0, ks, condJ_true, condJ_false, guardP_tt, guardP_ff, guardP_tf, guardP_ft]) | (refine guardP_intro (fun h => ?_) (fun h => ?_) <;> try simp -implicitDefEqProofs only [go_sem, k0, ks, condJ_true, condJ_false, guardP_tt, guardP_ff, guardP_tf, guardP_ft, h]) | (refine condJ_intro (fun h => ?_) (fun h => ?_) <;> try simp -implicitDefEqProofs only [go_sem, k0, ks, condJ_true, condJ_false, guardP_tt, guardP_ff, guardP_tf, guardP_ft, h])
    all_goals clear hS
    all_goals first
      | (rw [if_neg (by simp_all [hearHd]; done), if_neg (by simp_all [hearAk, eqP]; done)]; first | exact ⟨rfl, rfl⟩ | rfl)
      | (rw [if_pos (by simp_all [hearHd]; done)]; first | exact ⟨rfl, rfl⟩ | rfl)
      | (rw [if_neg (by simp_all [hearHd]; done), if_pos (by simp_all [hearAk, eqP]; done)]; first | exact ⟨rfl, rfl⟩ | rfl)
      | (exfalso; simp_all; done)
      | (exfalso; simp_all; omega)
      | trace_state
end Go.Proofs.YtjlhdfciklnndaaGreat.E
