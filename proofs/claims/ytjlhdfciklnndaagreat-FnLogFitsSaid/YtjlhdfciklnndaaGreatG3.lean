/-
  Contracts: what the log answers.
-/
import Derived.Test.YtjlhdfciklnndaaGreatG2
import Derived.Test.YtjlhdfciklnndaaGreatJ5
namespace Go.Proofs.YtjlhdfciklnndaaGreat.E
open Go Go.RowKit
set_option maxHeartbeats 4000000
set_option maxRecDepth 10000
set_option linter.unusedSimpArgs false
set_option linter.unusedVariables false
set_option linter.unusedSectionVars false
def dcG3 : Dec := ⟨[(27, .cm [false]), (46, .cm [false, false]), (104, .cm [false, false]), (106, .cm [false, false]), (203, .cm [false, false])], [9, 10, 11], [27, 30, 44, 45, 46, 58, 68, 78, 79, 86, 101, 112, 113, 132, 174, 196, 247, 249, 351, 356], false⟩

def mFetched (l : List ByteArray) (m : MMsg) : List ByteArray := (l.drop m.from_.toNat).take ((min (l.length : Int) (m.from_ + m.count)).toNat - m.from_.toNat)
def mAns (l : List ByteArray) (m : MMsg) : MMsg × Bool :=
  if mLeavesOk l && mWireOk m then
    (if m.kind == 1 then (⟨2, m.session, 0, l.length, (mRoot l).dig, 0, [], []⟩, true)
     else if m.kind == 4 && (decide (m.from_ ≤ m.size) && decide (m.size ≤ (l.length : Int))) then (⟨5, 0, m.from_, m.size, dig0, 0, mGrowthOf (l.take m.size.toNat) m.from_, []⟩, true)
     else if m.kind == 7 && decide (m.from_ < (l.length : Int)) then (⟨8, 0, m.from_, 0, dig0, 0, [], mFetched l m⟩, true)
     else (.zero, false))
  else (.zero, false)
def ansR (x : MMsg × Bool) : AV := .tup [x.1.avM, vB x.2]
attribute [go_sem] ansR
theorem c104_c (l : List ByteArray) (m : MMsg) (hl : l.length ≤ maxLen) (hm : m.leaves.length ≤ maxLen) : CallM Tryz.prog 104 [] [.agg [.ro 1 (l.map leafCs)], m.ro] (ansR (mAns l m)) (mAns l m).1.out := by
  refine use_of dcG3 false Tryz.f104 ?_
  conv => enter [1]; reduce
  refine jvM Tryz.f104 94 [.cell 4 70, .tmp 5] (by kernel_rfl) (by decide +kernel) rfl ?_
  unfold mAns
  simp -implicitDefEqProofs only [go_sem]
  refine Want.intro (c186_c l hl) ?_
  cases h1 : mLeavesOk l with
  | false =>
    simp -implicitDefEqProofs only [go_sem, Bool.not_false, Bool.false_and, guardP_tf, guardP_ff, guardP_ft, guardP_tt, condJ_true, condJ_false, Bool.false_eq_true]
    first | done | rfl | exact ⟨rfl, rfl⟩
  | true =>
    simp -implicitDefEqProofs only [go_sem, Bool.not_true, Bool.true_and, guardP_tf, guardP_ff, guardP_ft, guardP_tt, condJ_true, condJ_false]
    refine Want.intro (c28_c m hm) ?_
    cases h2 : mWireOk m with
    | false =>
      simp -implicitDefEqProofs only [go_sem, Bool.not_false, guardP_tf, guardP_ff, guardP_ft, guardP_tt, condJ_true, condJ_false, Bool.false_eq_true]
      first | done | rfl | exact ⟨rfl, rfl⟩
    | true =>
      have hw := WOk.of h2
      have h256 := (mLeavesOk_of h1).1
      cases a1 : (m.kind == 1) with
      | true =>
        simp -implicitDefEqProofs only [go_sem, a1, Bool.not_true, guardP_tf, guardP_ff, guardP_ft, guardP_tt, condJ_true, condJ_false]
        refine Want.intro (c187_c l h1) ?_
        generalize mRoot l = R
        simp -implicitDefEqProofs only [go_sem]
        first | done | rfl | exact ⟨rfl, rfl⟩
      | false =>
        have hf := hw.f
        have hz := hw.z
        have hc := hw.c
        by_cases b1 : m.kind = 4 ∧ (m.from_ ≤ m.size ∧ m.size ≤ (l.length : Int))
        · obtain ⟨b1, b2, b3⟩ := b1
          have b1' : (m.kind == 4) = true := by rw [beq_iff_eq]; exact b1
          have k1 : (0 : Int) ≤ m.size ∧ m.size ≤ (l.length : Int) := by omega
          have hg := c203_c (l.take m.size.toNat) m.from_ (by rw [List.length_take]; unfold maxLen; omega)
          unfold grRes grOut at hg
          generalize mGrowthOf (l.take m.size.toNat) m.from_ = Y at *
          generalize mGrowOk (l.take m.size.toNat) m.from_ = ok at *
          simp -implicitDefEqProofs only [go_sem, a1, b1', b2, b3, k1, Nat.sub_zero, List.drop_zero, Int.toNat_zero, Bool.not_true, Bool.and_self, guardP_tf, guardP_ff, guardP_ft, guardP_tt, condJ_true, condJ_false, Bool.false_eq_true]
          refine WantM.intro hg ?_
          simp -implicitDefEqProofs only [go_sem]
          first | done | rfl | exact ⟨rfl, rfl⟩
        · have b0 : (m.kind == 4 && (decide (m.from_ ≤ m.size) && decide (m.size ≤ (l.length : Int)))) = false := by
            rw [Bool.eq_false_iff]
            intro h
            simp only [Bool.and_eq_true, beq_iff_eq, decide_eq_true_eq] at h
            exact b1 h
          by_cases c1 : m.kind = 7 ∧ m.from_ < (l.length : Int)
          · obtain ⟨c1, c2⟩ := c1
            have c1' : (m.kind == 7) = true := by rw [beq_iff_eq]; exact c1
            have b1' : (m.kind == 4) = false := by rw [c1]; rfl
            have w1 : IntKind.i64.wrap (m.from_ + m.count) = m.from_ + m.count := wrS (by omega)
            have k1 : m.from_ ≤ min (l.length : Int) (m.from_ + m.count) ∧ min (l.length : Int) (m.from_ + m.count) ≤ (l.length : Int) := by omega
            have hfe : (mFetched l m).length ≤ 300 := by unfold mFetched; rw [List.length_take, List.length_drop]; omega
            have hcp := c113_c (mFetched l m) (by omega)
            have hfd : List.take ((min (l.length : Int) (m.from_ + m.count)).toNat - m.from_.toNat) (List.drop m.from_.toNat l) = mFetched l m := rfl
            have k0 := hf.1
            simp -implicitDefEqProofs only [go_sem, a1, b0, b1', c1', c2, k0, k1, w1, hfd, Bool.not_true, Bool.and_self, guardP_tf, guardP_ff, guardP_ft, guardP_tt, condJ_true, condJ_false, Bool.false_eq_true]
            first
              | (refine Want.intro hcp ?_
                 simp -implicitDefEqProofs only [go_sem]
                 first | done | rfl | exact ⟨rfl, rfl⟩)
              | (by_cases d : m.from_ + m.count > (l.length : Int)
                 · have e1 : min (l.length : Int) (m.from_ + m.count) = (l.length : Int) := by omega
                   rw [e1] at hfd k1
                   rw [Int.toNat_natCast] at hfd
                   simp -implicitDefEqProofs only [go_sem, d, k0, k1, hfd, condJ_true]
                   refine Want.intro hcp ?_
                   simp -implicitDefEqProofs only [go_sem]
                   first | done | rfl | exact ⟨rfl, rfl⟩
                 · have e1 : min (l.length : Int) (m.from_ + m.count) = m.from_ + m.count := by omega
                   rw [e1] at hfd k1
                   simp -implicitDefEqProofs only [go_sem, d, k0, k1, hfd, condJ_false]
                   refine Want.intro hcp ?_
                   simp -implicitDefEqProofs only [go_sem]
                   first | done | rfl | exact ⟨rfl, rfl⟩)
          · have c0 : (m.kind == 7 && decide (m.from_ < (l.length : Int))) = false := by
              rw [Bool.eq_false_iff]
              intro h
              simp only [Bool.and_eq_true, beq_iff_eq, decide_eq_true_eq] at h
              exact c1 h
            rw [b0, c0]
            cases d1 : (m.kind == 4) <;> cases d2 : (m.kind == 7) <;> cases d3 : decide (m.from_ ≤ m.size) <;> cases d4 : decide (m.size ≤ (l.length : Int)) <;> cases d5 : decide (m.from_ < (l.length : Int)) <;> rw [d1, d3, d4] at b0 <;> rw [d2, d5] at c0
            all_goals first
              | (exfalso; revert b0; decide)
              | (exfalso; revert c0; decide)
              | (simp -implicitDefEqProofs only [go_sem, a1, d1, d2, d3, d4, d5, Bool.not_true, guardP_tf, guardP_ff, guardP_ft, guardP_tt, condJ_true, condJ_false, Bool.false_eq_true]
                 first | done | rfl | exact ⟨rfl, rfl⟩)
theorem c106_c (l : List ByteArray) (m : MMsg) (hl : l.length ≤ maxLen) (hm : m.leaves.length ≤ maxLen) : CallM Tryz.prog 106 [] [.agg [.ro 1 (l.map leafCs)], m.ro] (ansR (mAns l m)) (mAns l m).1.out := by
  refine use_of dcG3 false Tryz.f106 ?_
  conv => enter [1]; reduce
  refine jvM Tryz.f106 97 [.cell 4 70, .tmp 5] (by kernel_rfl) (by decide +kernel) rfl ?_
  unfold mAns
  simp -implicitDefEqProofs only [go_sem]
  refine Want.intro (c41_c l hl) ?_
  cases h1 : mLeavesOk l with
  | false =>
    simp -implicitDefEqProofs only [go_sem, Bool.not_false, Bool.false_and, guardP_tf, guardP_ff, guardP_ft, guardP_tt, condJ_true, condJ_false, Bool.false_eq_true]
    first | done | rfl | exact ⟨rfl, rfl⟩
  | true =>
    simp -implicitDefEqProofs only [go_sem, Bool.not_true, Bool.true_and, guardP_tf, guardP_ff, guardP_ft, guardP_tt, condJ_true, condJ_false]
    refine Want.intro (c127_c m hm) ?_
    cases h2 : mWireOk m with
    | false =>
      simp -implicitDefEqProofs only [go_sem, Bool.not_false, guardP_tf, guardP_ff, guardP_ft, guardP_tt, condJ_true, condJ_false, Bool.false_eq_true]
      first | done | rfl | exact ⟨rfl, rfl⟩
    | true =>
      have hw := WOk.of h2
      have h256 := (mLeavesOk_of h1).1
      cases a1 : (m.kind == 1) with
      | true =>
        simp -implicitDefEqProofs only [go_sem, a1, Bool.not_true, guardP_tf, guardP_ff, guardP_ft, guardP_tt, condJ_true, condJ_false]
        refine Want.intro (c126_c l h1) ?_
        generalize mRoot l = R
        simp -implicitDefEqProofs only [go_sem]
        first | done | rfl | exact ⟨rfl, rfl⟩
      | false =>
        have hf := hw.f
        have hz := hw.z
        have hc := hw.c
        by_cases b1 : m.kind = 4 ∧ (m.from_ ≤ m.size ∧ m.size ≤ (l.length : Int))
        · obtain ⟨b1, b2, b3⟩ := b1
          have b1' : (m.kind == 4) = true := by rw [beq_iff_eq]; exact b1
          have k1 : (0 : Int) ≤ m.size ∧ m.size ≤ (l.length : Int) := by omega
          have hg := c46_c (l.take m.size.toNat) m.from_ (by rw [List.length_take]; unfold maxLen; omega)
          unfold grRes grOut at hg
          generalize mGrowthOf (l.take m.size.toNat) m.from_ = Y at *
          generalize mGrowOk (l.take m.size.toNat) m.from_ = ok at *
          simp -implicitDefEqProofs only [go_sem, a1, b1', b2, b3, k1, Nat.sub_zero, List.drop_zero, Int.toNat_zero, Bool.not_true, Bool.and_self, guardP_tf, guardP_ff, guardP_ft, guardP_tt, condJ_true, condJ_false, Bool.false_eq_true]
          refine WantM.intro hg ?_
          simp -implicitDefEqProofs only [go_sem]
          first | done | rfl | exact ⟨rfl, rfl⟩
        · have b0 : (m.kind == 4 && (decide (m.from_ ≤ m.size) && decide (m.size ≤ (l.length : Int)))) = false := by
            rw [Bool.eq_false_iff]
            intro h
            simp only [Bool.and_eq_true, beq_iff_eq, decide_eq_true_eq] at h
            exact b1 h
          by_cases c1 : m.kind = 7 ∧ m.from_ < (l.length : Int)
          · obtain ⟨c1, c2⟩ := c1
            have c1' : (m.kind == 7) = true := by rw [beq_iff_eq]; exact c1
            have b1' : (m.kind == 4) = false := by rw [c1]; rfl
            have w1 : IntKind.i64.wrap (m.from_ + m.count) = m.from_ + m.count := wrS (by omega)
            have k1 : m.from_ ≤ min (l.length : Int) (m.from_ + m.count) ∧ min (l.length : Int) (m.from_ + m.count) ≤ (l.length : Int) := by omega
            have hfe : (mFetched l m).length ≤ 300 := by unfold mFetched; rw [List.length_take, List.length_drop]; omega
            have hcp := c180_c (mFetched l m) (by omega)
            have hfd : List.take ((min (l.length : Int) (m.from_ + m.count)).toNat - m.from_.toNat) (List.drop m.from_.toNat l) = mFetched l m := rfl
            have k0 := hf.1
            simp -implicitDefEqProofs only [go_sem, a1, b0, b1', c1', c2, k0, k1, w1, hfd, Bool.not_true, Bool.and_self, guardP_tf, guardP_ff, guardP_ft, guardP_tt, condJ_true, condJ_false, Bool.false_eq_true]
            first
              | (refine Want.intro hcp ?_
                 simp -implicitDefEqProofs only [go_sem]
                 first | done | rfl | exact ⟨rfl, rfl⟩)
              | (by_cases d : m.from_ + m.count > (l.length : Int)
                 · have e1 : min (l.length : Int) (m.from_ + m.count) = (l.length : Int) := by omega
                   rw [e1] at hfd k1
                   rw [Int.toNat_natCast] at hfd
                   simp -implicitDefEqProofs only [go_sem, d, k0, k1, hfd, condJ_true]
                   refine Want.intro hcp ?_
                   simp -implicitDefEqProofs only [go_sem]
                   first | done | rfl | exact ⟨rfl, rfl⟩
                 · have e1 : min (l.length : Int) (m.from_ + m.count) = m.from_ + m.count := by omega
                   rw [e1] at hfd k1
                   simp -implicitDefEqProofs only [go_sem, d, k0, k1, hfd, condJ_false]
                   refine Want.intro hcp ?_
                   simp -implicitDefEqProofs only [go_sem]
                   first | done | rfl | exact ⟨rfl, rfl⟩)
          · have c0 : (m.kind == 7 && decide (m.from_ < (l.length : Int))) = false := by
              rw [Bool.eq_false_iff]
              intro h
              simp only [Bool.and_eq_true, beq_iff_eq, decide_eq_true_eq] at h
              exact c1 h
            rw [b0, c0]
            cases d1 : (m.kind == 4) <;> cases d2 : (m.kind == 7) <;> cases d3 : decide (m.from_ ≤ m.size) <;> cases d4 : decide (m.size ≤ (l.length : Int)) <;> cases d5 : decide (m.from_ < (l.length : Int)) <;> rw [d1, d3, d4] at b0 <;> rw [d2, d5] at c0
            all_goals first
              | (exfalso; revert b0; decide)
              | (exfalso; revert c0; decide)
              | (simp -implicitDefEqProofs only [go_sem, a1, d1, d2, d3, d4, d5, Bool.not_true, guardP_tf, guardP_ff, guardP_ft, guardP_tt, condJ_true, condJ_false, Bool.false_eq_true]
                 first | done | rfl | exact ⟨rfl, rfl⟩)
/-- What the log answers to a letter. -/
def mLogHear (l : List ByteArray) (x : MLet) : MLet × Bool :=
  if mLetOk x then (if (mWireRead x.text).2.1 == 0 then (if (mAns l (mWireRead x.text).1).2 then (⟨0, x.from_, mWireBytes (mAns l (mWireRead x.text).1).1⟩, true) else (⟨0, 0, ⟨#[]⟩⟩, false)) else (⟨0, 0, ⟨#[]⟩⟩, false)) else (⟨0, 0, ⟨#[]⟩⟩, false)
def lhR (x : MLet × Bool) : AV := .tup [.agg x.1.cs, vB x.2]
attribute [go_sem] lhR
theorem mAns_ok {l : List ByteArray} {m : MMsg} : (mAns l m).1.root.ok ∧ (∀ d ∈ (mAns l m).1.proof, d.ok) ∧ (mAns l m).1.proof.length ≤ 1000 ∧ (mAns l m).1.leaves.length ≤ 1000 := by
  have hz : dig0.ok := dig0_ok
  unfold mAns
  split
  · rename_i h0
    simp only [Bool.and_eq_true] at h0
    have h256 := (mLeavesOk_of h0.1).1
    split
    · exact ⟨BD.dig_ok _, by simp, by simp, by simp⟩
    · split
      · refine ⟨hz, ?_, ?_, by simp⟩
        · intro d hd
          simp only [mGrowthOf] at hd
          split at hd
          · unfold mGr at hd
            split at hd
            · simp at hd
            · obtain ⟨x, _, rfl⟩ := List.mem_map.1 hd
              exact BD.dig_ok _
          · simp at hd
        · show (mGrowthOf _ _).length ≤ 1000
          unfold mGrowthOf
          split
          · rename_i h1
            unfold mGr
            split
            · simp
            · rename_i h2
              simp only [mGrowOk, Bool.and_eq_true] at h1
              obtain ⟨hn, hm⟩ := mGrow_nat h1.2
              have hl : (l.take m.size.toNat).length ≤ l.length := by rw [List.length_take]; omega
              have := gN_len (m := m.from_.toNat) (l.take m.size.toNat).length 0 (l.take m.size.toNat).length (by omega) (by omega)
              simp only [List.length_map, List.length_append]
              omega
          · simp
      · split
        · refine ⟨hz, by simp, by simp, ?_⟩
          show (mFetched l m).length ≤ 1000
          unfold mFetched
          rw [List.length_take, List.length_drop]
          omega
        · exact ⟨hz, by simp [MMsg.zero], by simp [MMsg.zero], by simp [MMsg.zero]⟩
  · exact ⟨hz, by simp [MMsg.zero], by simp [MMsg.zero], by simp [MMsg.zero]⟩
theorem c25_c (l : List ByteArray) (x : MLet) (hl : l.length ≤ maxLen) : CallR Tryz.prog 25 [.agg [.ro 1 (l.map leafCs)], .agg x.cs] (lhR (mLogHear l x)) [] := by
  refine use_of dcG3 false Tryz.f25 ?_
  conv => enter [1]; reduce
  refine jvR Tryz.f25 38 [.cell 4 51, .tmp 5] (by kernel_rfl) (by decide +kernel) rfl ?_
  unfold mLogHear
  simp -implicitDefEqProofs only [go_sem]
  refine Want.intro (c29_c x) ?_
  cases a1 : mLetOk x with
  | false => simp -implicitDefEqProofs only [go_sem, Bool.not_false, condJ_true, condJ_false, Bool.false_eq_true]
  | true =>
    have hsz : x.text.size ≤ 600 := by
      simp only [mLetOk, Bool.and_eq_true, decide_eq_true_eq] at a1
      omega
    simp -implicitDefEqProofs only [go_sem, Bool.not_true, condJ_true, condJ_false]
    refine WantM.intro (c27_c x.text (by omega)) ?_
    have hwl := mWire_len x.text
    generalize hW : mWireRead x.text = W at *
    obtain ⟨m, code, at_⟩ := W
    simp only at hwl
    cases b1 : (code == 0) with
    | false =>
      have b1' : (code != 0) = true := by simpa using b1
      simp -implicitDefEqProofs only [go_sem, b1', b1, condJ_true, condJ_false, Bool.false_eq_true]
    | true =>
      have b1' : (code != 0) = false := by simpa using b1
      simp -implicitDefEqProofs only [go_sem, b1', b1, condJ_true, condJ_false]
      have hLA := c104_c l m hl (by unfold maxLen; omega)
      have hA := mAns_ok (l := l) (m := m)
      generalize mAns l m = A0 at *
      obtain ⟨A, ok⟩ := A0
      simp only at hA
      obtain ⟨hA1, hA2, hA3, hA4⟩ := hA
      have hA : A.root.ok ∧ (∀ d ∈ A.proof, d.ok) := ⟨hA1, hA2⟩
      refine WantM.intro hLA ?_
      cases ok with
      | false => simp -implicitDefEqProofs only [go_sem, Bool.not_false, condJ_true, condJ_false, Bool.false_eq_true]
      | true =>
        simp -implicitDefEqProofs only [go_sem, Bool.not_true, condJ_true, condJ_false]
        refine Want.intro (c105_c A (by unfold maxLen; omega)) ?_
        simp -implicitDefEqProofs only [go_sem]
theorem c26_c (l : List ByteArray) (x : MLet) (hl : l.length ≤ maxLen) : CallR Tryz.prog 26 [.agg [.ro 1 (l.map leafCs)], .agg x.cs] (lhR (mLogHear l x)) [] := by
  refine use_of dcG3 false Tryz.f26 ?_
  conv => enter [1]; reduce
  refine jvR Tryz.f26 38 [.cell 4 51, .tmp 5] (by kernel_rfl) (by decide +kernel) rfl ?_
  unfold mLogHear
  simp -implicitDefEqProofs only [go_sem]
  refine Want.intro (c52_c x) ?_
  cases a1 : mLetOk x with
  | false => simp -implicitDefEqProofs only [go_sem, Bool.not_false, condJ_true, condJ_false, Bool.false_eq_true]
  | true =>
    have hsz : x.text.size ≤ 600 := by
      simp only [mLetOk, Bool.and_eq_true, decide_eq_true_eq] at a1
      omega
    simp -implicitDefEqProofs only [go_sem, Bool.not_true, condJ_true, condJ_false]
    refine Want.intro (c55_c x.text (by omega)) ?_
    have hwl := mWire_len x.text
    generalize hW : mWireRead x.text = W at *
    obtain ⟨m, code, at_⟩ := W
    simp only at hwl
    cases b1 : (code == 0) with
    | false =>
      have b1' : (code != 0) = true := by simpa using b1
      simp -implicitDefEqProofs only [go_sem, b1', b1, condJ_true, condJ_false, Bool.false_eq_true]
    | true =>
      have b1' : (code != 0) = false := by simpa using b1
      simp -implicitDefEqProofs only [go_sem, b1', b1, condJ_true, condJ_false]
      have hLA := c106_c l m hl (by unfold maxLen; omega)
      have hA := mAns_ok (l := l) (m := m)
      generalize mAns l m = A0 at *
      obtain ⟨A, ok⟩ := A0
      simp only at hA
      obtain ⟨hA1, hA2, hA3, hA4⟩ := hA
      have hA : A.root.ok ∧ (∀ d ∈ A.proof, d.ok) := ⟨hA1, hA2⟩
      refine WantM.intro hLA ?_
      cases ok with
      | false => simp -implicitDefEqProofs only [go_sem, Bool.not_false, condJ_true, condJ_false, Bool.false_eq_true]
      | true =>
        simp -implicitDefEqProofs only [go_sem, Bool.not_true, condJ_true, condJ_false]
        refine Want.intro (c44_c A (by unfold maxLen; omega) (by unfold maxLen; omega) hA.1 hA.2) ?_
        simp -implicitDefEqProofs only [go_sem]
end Go.Proofs.YtjlhdfciklnndaaGreat.E
