/-
  Contracts: what comes of a letter to a client, in the program, whole.
-/
import Derived.Test.YtjlhdfciklnndaaGreatF6
namespace Go.Proofs.YtjlhdfciklnndaaGreat.E
open Go Go.RowKit
set_option maxHeartbeats 4000000
set_option maxRecDepth 10000
set_option linter.unusedSimpArgs false
set_option linter.unusedVariables false
set_option linter.unusedSectionVars false
def dcF7 : Dec := ⟨[(27, .cm [false]), (189, .cm [false]), (190, .cm [true, false, false]), (191, .cm [true, false])], [9, 10, 11], [27, 30, 44, 45, 46, 58, 68, 78, 79, 86, 101, 112, 113, 132, 174, 196, 247, 249, 351, 356], false⟩

theorem copLN : CallR Tryz.prog 141 [.nilS] (.blk 0 0 [] 3 0 0) [([], ⟨3, [], 2, false⟩)] :=
  (c141_c [] (by simp)).arg fun rd vs h => by
    obtain ⟨v, us, rfl, hr, hp⟩ := h.uncons
    have : us = [] := List.eq_nil_of_length_eq_zero hp.1.symm
    subst this
    exact PW.cons (hr.wk (.inr ⟨rfl, 3, rfl⟩)) PW.nil
theorem mHead_small (c : MCl) (me : Int) (p : MPt) (hm : c.many ≤ 100) : (mHead c me p).letters.length * 32 ≤ 140737488355328 := by
  unfold mHead
  split
  · simp [MTold.base]
  · split
    · simp
    · simp; omega
theorem mAck_small (c : MCl) (w : Int) : (mAck c w).letters.length * 32 ≤ 140737488355328 := by
  unfold mAck
  split <;> simp
theorem c77_c (c : MCl) (me : Int) (l : MLet) (hl : c.acks.length ≤ maxLen) : CallM Tryz.prog 77 [] [c.ro, vI me, .agg l.cs] (mHear c me l).avQ (mHear c me l).outQ := by
  refine use_of dcF7 false Tryz.f77 ?_
  conv => enter [1]; reduce
  refine jvM Tryz.f77 107 [.cell 6 149] (by kernel_rfl) (by decide +kernel) rfl ?_
  unfold mHear
  cases hok : hearOk c me l with
  | false =>
    rw [if_neg (by simp)]
    simp -implicitDefEqProofs only [go_sem]
    repeat' first | (refine Want.intro (by first | exact c185_c c hl | exact c29_c l) ?_; try simp -implicitDefEqProofs only [go_sem, condJ_true, condJ_false]) | (refine WantM.intro (by first | exact c185_c c hl | exact c29_c l) ?_; try simp -implicitDefEqProofs only [go_sem, condJ_true, condJ_false]) | (refine guardP_intro (fun h => ?_) (fun h => ?_) <;> try simp -implicitDefEqProofs only [go_sem, condJ_true, condJ_false, h]) | (refine condJ_intro (fun h => ?_) (fun h => ?_) <;> try simp -implicitDefEqProofs only [go_sem, condJ_true, condJ_false, h])
    all_goals first
      | exact ⟨rfl, rfl⟩
      | (exfalso; simp_all [hearOk, mIn]; done)
      | (exfalso; simp_all [hearOk, mIn]; omega)
      | trace_state
  | true =>
    rw [if_pos rfl]
    simp only [hearOk, Bool.and_eq_true] at hok
    obtain ⟨o1, o2, o3⟩ := hok
    obtain ⟨hmn, hac⟩ := clOk_many o1
    have o2' := mIn_iff.1 o2
    have m1 : ¬ (me < 1) := by omega
    have m2 : ¬ (me > 20) := by omega
    have hsz : l.text.size ≤ 600 := by
      simp only [mLetOk, Bool.and_eq_true, decide_eq_true_eq] at o3
      omega
    have hI := c27_c l.text (by omega)
    generalize mWireRead l.text = W at *
    obtain ⟨m, code, a⟩ := W
    have hH := mHead_small c me ⟨m.size, m.root⟩ hmn
    have hA := mAck_small c l.from_
    simp -implicitDefEqProofs only [go_sem]
    refine Want.intro (c185_c c hl) ?_
    simp -implicitDefEqProofs only [go_sem, o1, guardP_ff, condJ_false]
    refine Want.intro (c29_c l) ?_
    simp -implicitDefEqProofs only [go_sem, o3, m1, m2, guardP_ff, condJ_false]
    refine WantM.intro (c189_c c hac) ?_
    simp -implicitDefEqProofs only [go_sem]
    refine WantM.intro hI ?_
    cases k0 : (code == 0) <;> cases ks : (m.session == c.session)
    all_goals have k1 : (code != 0) = !(code == 0) := rfl
    all_goals have k2 : (m.session != c.session) = !(m.session == c.session) := rfl
    all_goals simp -implicitDefEqProofs only [go_sem, k1, k2, k0, ks]
    all_goals repeat' first | (refine Want.intro (by first | exact c190_c c me ⟨m.size, m.root⟩ hmn | exact c191_c c l.from_ hac | exact copLN | exact c141_c _ hH | exact c141_c _ hA) ?_; try simp -implicitDefEqProofs only [go_sem, k1, k2, k0, ks, condJ_true, condJ_false, guardP_tt, guardP_ff, guardP_tf, guardP_ft]) | (refine WantM.intro (by first | exact c190_c c me ⟨m.size, m.root⟩ hmn | exact c191_c c l.from_ hac | exact copLN | exact c141_c _ hH | exact c141_c _ hA) ?_; try simp -implicitDefEqProofs only [go_sem, k1, k2, k0, ks, condJ_true, condJ_false, guardP_tt, guardP_ff, guardP_tf, guardP_ft]) | (refine guardP_intro (fun h => ?_) (fun h => ?_) <;> try simp -implicitDefEqProofs only [go_sem, k1, k2, k0, ks, condJ_true, condJ_false, guardP_tt, guardP_ff, guardP_tf, guardP_ft, h]) | (refine condJ_intro (fun h => ?_) (fun h => ?_) <;> try simp -implicitDefEqProofs only [go_sem, k1, k2, k0, ks, condJ_true, condJ_false, guardP_tt, guardP_ff, guardP_tf, guardP_ft, h])
    all_goals clear hI
    all_goals clear hH hA m1 m2 o2' hsz hmn hac k1 k2
    all_goals first
      | (rw [if_neg, if_neg]; exact ⟨rfl, rfl⟩; all_goals first | (simp_all [hearHd]; done) | (simp_all [hearAk, eqP, mIn]; done) | (simp_all [hearAk, eqP, mIn]; intros; omega))
      | (rw [if_pos]; exact ⟨rfl, rfl⟩; all_goals first | (simp_all [hearHd]; done) | (simp_all [hearAk, eqP, mIn]; done) | (simp_all [hearAk, eqP, mIn]; intros; omega))
      | (rw [if_neg, if_pos]; exact ⟨rfl, rfl⟩; all_goals first | (simp_all [hearHd]; done) | (simp_all [hearAk, eqP, mIn]; done) | (simp_all [hearAk, eqP, mIn]; intros; omega))
      | (exfalso; simp_all; done)
      | (exfalso; simp_all; omega)
      | trace_state
def mAsk (s : Int) : MMsg := ⟨1, s, 0, 0, ⟨0, 0, 0, 0⟩, 0, [], []⟩
def mTick (c : MCl) (me : Int) : MTold :=
  if mClOk c && mIn me 1 20 then (if c.session = 1000000 then .base c else ⟨{ c with session := c.session + 1, phase := 1, goal := .zero, acks := [] }, [⟨me, 0, mWireBytes (mAsk (c.session + 1))⟩], [], []⟩) else .zero
end Go.Proofs.YtjlhdfciklnndaaGreat.E
