/-
  Contracts: the letters to a client that are drawn.
-/
import Derived.Test.YtkhemolkhegppaaGreatF9
namespace Go.Proofs.YtkhemolkhegppaaGreat.E
open Go Go.RowKit
set_option maxHeartbeats 4000000
set_option maxRecDepth 10000
set_option linter.unusedSimpArgs false
set_option linter.unusedVariables false
set_option linter.unusedSectionVars false
def dcF13 : Dec := ⟨[(32, .cm [true, false]), (101, .cm [true]), (150, .cm [true, false]), (162, .cm [true, false])], [9, 10, 11], [22, 26, 38, 50, 57, 58, 59, 93, 207], false⟩

def zLt : List AV := [vI 0, vI 0, .sc (.string ⟨#[]⟩)]
attribute [go_sem] zLt
theorem u64_up {a : Nat} (h : a < 18446744073709551616) : ∃ b : Nat, IntKind.u64.wrap ((a : Int) + 1) = (b : Int) ∧ b < 18446744073709551616 := by
  by_cases e : a + 1 < 18446744073709551616
  · exact ⟨a + 1, u64_wrap (a + 1) e, e⟩
  · have : a = 18446744073709551615 := by omega
    subst this
    exact ⟨0, rfl, by decide⟩
def PostLt (c : MCl) (r : Dr) (res : AV) (σ : Sig) : Prop := ∃ (x : MLet) (r' : Dr), (res = .agg x.cs ∧ σ = [r'.rr, (1000001, 0, one c.ar)]) ∧ r'.ok (r.p + 2000)
theorem c117_c (r : Dr) (c : MCl) (h1 : r.ok 600000000) (hc : DCl c) : ∃ res σ, PostLt c r res σ ∧ CallM Tryz.prog 117 [r.rr, (1000001, 0, one c.ar)] [vD, c.avK 1000001] res σ := by
  refine use_of dcF13 true Tryz.f117 ?_
  conv => enter [1]; reduce
  refine jvX Tryz.f117 104 [.cell 4 30] (PostLt c r) (by kernel_rfl) (by decide +kernel) (by kernel_rfl) rfl ?_
  have hp := h1.2
  have okr : ∀ i, i ≤ 1000 → (r.adv i).ok 1000000000 := fun i hi => (h1.adv i).le (by omega)
  have hcm := hc.m
  have hcz := hc.z
  have hcg := hc.g
  have hcp := hc.p
  simp -implicitDefEqProofs only [go_sem]
  refine WantM.intro (pickM 12 (okr 0 (by omega))) ?_
  simp -implicitDefEqProofs only [go_sem]
  generalize pk r 12 = k
  refine ct_intro [0, 3, 4, 5, 6] [] (fun s => ∃ (S : Int) (R : Dr), R.ok (r.p + 10) ∧ s = ⟨104, [(0, vD), (3, .ptr 3 0 [] 15 0 0), (4, .ptr 4 0 [] 3 0 0), (5, vI k), (6, vI S)], [(1000001, 0, one c.ar), (1000000, 0, one ⟨2, [R.cs], 0, false⟩), (3, 0, one ⟨15, [c.cs (.blk 1000001 0 [] 1 0 c.acks.length)], 0, false⟩), (4, 0, one ⟨3, [zLt], 0, false⟩)], 1⟩) ?_ ?_
  · have q8 := pick_lt (okr 1 (by omega)) (n := 8) (by omega)
    have q4 := pick_lt (okr 2 (by omega)) (n := 4) (by omega)
    have q4' := pick_lt (okr 1 (by omega)) (n := 4) (by omega)
    have w1 : IntKind.i64.wrap (1 + pk (r.adv 2) 4) = 1 + pk (r.adv 2) 4 := wrS (by omega)
    have w2 : IntKind.i64.wrap (1 + pk (r.adv 1) 4) = 1 + pk (r.adv 1) 4 := wrS (by omega)
    have hb := h1.1
    simp -implicitDefEqProofs only [go_sem]
    refine guardP_intro (fun g => ?_) (fun g => ?_)
    · simp -implicitDefEqProofs only [go_sem, g, condJ_true]
      refine WantM.intro (pickM 4 (okr 1 (by omega))) ?_
      simp -implicitDefEqProofs only [go_sem, w2]
      exact ⟨1 + pk (r.adv 1) 4, r.adv 2, ⟨hb, by show r.p + 2 ≤ _; omega⟩, rfl⟩
    · simp -implicitDefEqProofs only [go_sem, g]
      refine WantM.intro (pickM 8 (okr 1 (by omega))) ?_
      simp -implicitDefEqProofs only [go_sem]
      refine condJ_intro (fun g2 => ?_) (fun g2 => ?_)
      · simp -implicitDefEqProofs only [go_sem, g2]
        refine WantM.intro (pickM 4 (okr 2 (by omega))) ?_
        simp -implicitDefEqProofs only [go_sem, w1]
        exact ⟨1 + pk (r.adv 2) 4, r.adv 3, ⟨hb, by show r.p + 3 ≤ _; omega⟩, rfl⟩
      · simp -implicitDefEqProofs only [go_sem, g2]
        exact ⟨c.session, r.adv 2, ⟨hb, by show r.p + 2 ≤ _; omega⟩, rfl⟩
  · rintro s ⟨S, R, hR, rfl⟩
    have hRp := hR.2
    have hRb := hR.1
    have okR : ∀ i, i ≤ 1000 → (R.adv i).ok 1000000000 := fun i hi => (hR.adv i).le (by omega)
    simp -implicitDefEqProofs only [go_sem]
    refine condJ_intro (fun g => ?_) (fun g => ?_)
    · simp -implicitDefEqProofs only [go_sem, g]
      refine WantM.intro (pickM 4 (okR 0 (by omega))) ?_
      simp -implicitDefEqProofs only [go_sem]
      obtain ⟨res, σ, ⟨m, r', ⟨rfl, rfl⟩, hok, hrt, hds, hr'⟩, hcall⟩ := c101_c (R.adv 1) ((hR.adv 1).le (by omega))
      refine WantM.intro hcall ?_
      have hwo := WOk.of hok
      have hwb := c40_c m (by have := hwo.p; unfold maxLen; omega) (by have := hwo.l; unfold maxLen; omega) hrt hds
      have hr2 := hr'.2
      simp -implicitDefEqProofs only [go_sem]
      refine Want.intro hwb ?_
      simp -implicitDefEqProofs only [go_sem]
      refine RetAt.intro (.agg (MLet.mk (pk R 4) 0 (mWireBytes m)).cs) [r'.rr, (1000001, 0, one c.ar)] ⟨MLet.mk (pk R 4) 0 (mWireBytes m), r', ⟨rfl, rfl⟩, hr'.1, by simp only [adv_p] at hr2; omega⟩ ?_
      simp -implicitDefEqProofs only [go_sem]
    · simp -implicitDefEqProofs only [go_sem, g]
      refine condJ_intro (fun g2 => ?_) (fun g2 => ?_)
      · simp -implicitDefEqProofs only [go_sem, g2]
        refine WantM.intro (pickM 4 (okR 0 (by omega))) ?_
        simp -implicitDefEqProofs only [go_sem]
        have ht := tx_ok (R.adv 1) 9 (hR.adv 1) (by omega) (by omega)
        refine WantM.intro (c150_c (R.adv 1) 9 ((hR.adv 1).le (by omega)) (by omega)) ?_
        simp -implicitDefEqProofs only [go_sem]
        refine RetAt.intro (.agg (MLet.mk (pk R 4) 0 (tx (R.adv 1) 9).1).cs) [(tx (R.adv 1) 9).2.rr, (1000001, 0, one c.ar)] ⟨MLet.mk (pk R 4) 0 (tx (R.adv 1) 9).1, (tx (R.adv 1) 9).2, ⟨rfl, rfl⟩, ht.1.le (by omega)⟩ ?_
        simp -implicitDefEqProofs only [go_sem]
      · simp -implicitDefEqProofs only [go_sem, g2]
        have hwm : ∀ (kd : Int) (p : MPt), p.root.ok → CallR Tryz.prog 40 [MMsg.roN ⟨kd, S, 0, p.size, p.root, 0, [], []⟩] (vS (mWireBytes ⟨kd, S, 0, p.size, p.root, 0, [], []⟩)) [] := fun kd p hp => wbS _ rfl rfl hp
        cases hb : ((c.phase == 2) && decide (k > 3)) with
        | true =>
          obtain ⟨g3, g4⟩ := Bool.and_eq_true_iff.1 hb
          simp -implicitDefEqProofs only [go_sem, g3, g4, guardP_tt, guardP_ff, guardP_tf, guardP_ft, condJ_true, condJ_false]
          have wm : IntKind.i64.wrap (c.many + 1) = c.many + 1 := wrS (by omega)
          refine ct_intro [0, 3, 4, 6, 7] [] (fun s => ∃ (p : MPt) (R' : Dr), R'.ok (r.p + 20) ∧ p.root.ok ∧ s = ⟨104, [(0, vD), (3, .ptr 3 0 [] 15 0 0), (4, .ptr 4 0 [] 3 0 0), (6, vI S), (7, .ptr 7 0 [] 5 0 0)], [(1000001, 0, one c.ar), (1000000, 0, one ⟨2, [R'.cs], 0, false⟩), (3, 0, one ⟨15, [c.cs (.blk 1000001 0 [] 1 0 c.acks.length)], 0, false⟩), (4, 0, one ⟨3, [zLt], 0, false⟩), (7, 0, one ⟨5, [p.cs], 0, false⟩)], 1⟩) ?_ ?_
          · simp -implicitDefEqProofs only [go_sem]
            refine WantM.intro (pickM 6 (okR 0 (by omega))) ?_
            simp -implicitDefEqProofs only [go_sem]
            obtain ⟨a', ha', hb'⟩ := u64_up hcg.a
            refine condJ_intro (fun g5 => ?_) (fun g5 => ?_)
            · simp -implicitDefEqProofs only [go_sem, g5, ha']
              exact ⟨⟨c.goal.size, ⟨a', c.goal.root.b, c.goal.root.c, c.goal.root.d⟩⟩, R.adv 1, ⟨hRb, by show R.p + 1 ≤ _; omega⟩, ⟨hb', hcg.b, hcg.c, hcg.d⟩, rfl⟩
            · simp -implicitDefEqProofs only [go_sem, g5]
              exact ⟨c.goal, R.adv 1, ⟨hRb, by show R.p + 1 ≤ _; omega⟩, hcg, rfl⟩
          · rintro s ⟨p, R', hR', hpr, rfl⟩
            have hm := hwm 6 p hpr
            have okR' : ∀ i, i ≤ 1000 → (R'.adv i).ok 1000000000 := fun i hi => (hR'.adv i).le (by omega)
            have qm : 0 ≤ pk R' (c.many + 1) ∧ pk R' (c.many + 1) < c.many + 1 := pick_lt (okR' 0 (by omega)) (n := c.many + 1) (by omega)
            have w3 : IntKind.i64.wrap (1 + pk R' (c.many + 1)) = 1 + pk R' (c.many + 1) := wrS (by omega)
            simp -implicitDefEqProofs only [go_sem, wm]
            refine WantM.intro (pickM (c.many + 1) (okR' 0 (by omega))) ?_
            simp -implicitDefEqProofs only [go_sem, w3]
            refine Want.intro hm ?_
            simp -implicitDefEqProofs only [go_sem]
            refine RetAt.intro (.agg (MLet.mk (1 + pk R' (c.many + 1)) 0 (mWireBytes ⟨6, S, 0, p.size, p.root, 0, [], []⟩)).cs) [(R'.adv 1).rr, (1000001, 0, one c.ar)] ⟨MLet.mk (1 + pk R' (c.many + 1)) 0 (mWireBytes ⟨6, S, 0, p.size, p.root, 0, [], []⟩), R'.adv 1, ⟨rfl, rfl⟩, hR'.1, by have := hR'.2; show R'.p + 1 ≤ _; omega⟩ ?_
            simp -implicitDefEqProofs only [go_sem]
        | false =>
          have hc2 : (c.phase == 2) = false ∨ ((c.phase == 2) = true ∧ decide (k > 3) = false) := by
            cases g3 : (c.phase == 2) with
            | false => exact .inl rfl
            | true => rw [g3, Bool.true_and] at hb; exact .inr ⟨rfl, hb⟩
          have hlow := ptD_ok R c.pin.size hR (by omega)
          have hlc := c162_c R c.pin.size (hR.le (by omega)) (by omega)
          generalize ptD R c.pin.size = gR at *
          obtain ⟨P0, R2⟩ := gR
          obtain ⟨hR2, hP0, hz0⟩ := hlow
          simp only at hR2 hP0 hz0
          have hR2p := hR2.2
          have hR2b := hR2.1
          have okR2 : ∀ i, i ≤ 1000 → (R2.adv i).ok 1000000000 := fun i hi => (hR2.adv i).le (by omega)
          rcases hc2 with g3 | ⟨g3, g4⟩
          all_goals first | simp -implicitDefEqProofs only [go_sem, g3, guardP_tt, guardP_ff, guardP_tf, guardP_ft, condJ_true, condJ_false] | skip
          rotate_left
          simp -implicitDefEqProofs only [go_sem, g4, guardP_tt, guardP_ff, guardP_tf, guardP_ft, condJ_true, condJ_false]
          rotate_left
          all_goals
            refine WantM.intro hlc ?_
            simp -implicitDefEqProofs only [go_sem]
            refine ct_intro [0, 3, 4, 6, 9] [] (fun s => ∃ (p : MPt) (R' : Dr), R'.ok (r.p + 20) ∧ p.root.ok ∧ (0 ≤ p.size ∧ p.size ≤ 120) ∧ s = ⟨104, [(0, vD), (3, .ptr 3 0 [] 15 0 0), (4, .ptr 4 0 [] 3 0 0), (6, vI S), (9, .ptr 9 0 [] 5 0 0)], [(1000001, 0, one c.ar), (1000000, 0, one ⟨2, [R'.cs], 0, false⟩), (3, 0, one ⟨15, [c.cs (.blk 1000001 0 [] 1 0 c.acks.length)], 0, false⟩), (4, 0, one ⟨3, [zLt], 0, false⟩), (9, 0, one ⟨5, [p.cs], 0, false⟩)], 1⟩) ?_ ?_
            · simp -implicitDefEqProofs only [go_sem]
              refine WantM.intro (pickM 3 (okR2 0 (by omega))) ?_
              simp -implicitDefEqProofs only [go_sem]
              refine condJ_intro (fun g5 => ?_) (fun g5 => ?_)
              · simp -implicitDefEqProofs only [go_sem, g5]
                exact ⟨c.pin, R2.adv 1, ⟨hR2b, by show R2.p + 1 ≤ _; omega⟩, hcp, by omega, rfl⟩
              · simp -implicitDefEqProofs only [go_sem, g5]
                exact ⟨P0, R2.adv 1, ⟨hR2b, by show R2.p + 1 ≤ _; omega⟩, hP0, by omega, rfl⟩
            · rintro s ⟨p, R', hR', hpr, hpz, rfl⟩
              have hRp' := hR'.2
              have hRb' := hR'.1
              have okR' : ∀ i, i ≤ 1000 → (R'.adv i).ok 1000000000 := fun i hi => (hR'.adv i).le (by omega)
              have wp : IntKind.i64.wrap (p.size + 1) = p.size + 1 := wrS (by omega)
              refine ct_intro [0, 4, 6, 9] [] (fun s => ∃ (p : MPt) (R' : Dr), R'.ok (r.p + 30) ∧ p.root.ok ∧ s = ⟨104, [(0, vD), (4, .ptr 4 0 [] 3 0 0), (6, vI S), (9, .ptr 9 0 [] 5 0 0)], [(1000001, 0, one c.ar), (1000000, 0, one ⟨2, [R'.cs], 0, false⟩), (4, 0, one ⟨3, [zLt], 0, false⟩), (9, 0, one ⟨5, [p.cs], 0, false⟩)], 1⟩) ?_ ?_
              · simp -implicitDefEqProofs only [go_sem]
                refine WantM.intro (pickM 6 (okR' 0 (by omega))) ?_
                simp -implicitDefEqProofs only [go_sem]
                refine condJ_intro (fun g5 => ?_) (fun g5 => ?_)
                · simp -implicitDefEqProofs only [go_sem, g5, wp]
                  refine WantM.intro (pickM (p.size + 1) (okR' 1 (by omega))) ?_
                  simp -implicitDefEqProofs only [go_sem]
                  exact ⟨⟨pk (R'.adv 1) (p.size + 1), p.root⟩, R'.adv 2, ⟨hRb', by show R'.p + 2 ≤ _; omega⟩, hpr, rfl⟩
                · simp -implicitDefEqProofs only [go_sem, g5]
                  exact ⟨p, R'.adv 1, ⟨hRb', by show R'.p + 1 ≤ _; omega⟩, hpr, rfl⟩
              · clear hpr hpz hR' hRp' hRb' okR' wp
                rintro s ⟨p, R', hR', hpr, rfl⟩
                have hm := hwm 2 p hpr
                have okR' : ∀ i, i ≤ 1000 → (R'.adv i).ok 1000000000 := fun i hi => (hR'.adv i).le (by omega)
                have q10 := pick_lt (okR' 0 (by omega)) (n := 10) (by omega)
                have w3 : IntKind.i64.wrap ((pk R' 10).tdiv 9) = (pk R' 10).tdiv 9 := by
                  have : 0 ≤ pk R' 10 ∧ pk R' 10 < 10 := q10
                  rw [Int.tdiv_eq_ediv_of_nonneg this.1]
                  exact wrS (by omega)
                simp -implicitDefEqProofs only [go_sem]
                refine WantM.intro (pickM 10 (okR' 0 (by omega))) ?_
                simp -implicitDefEqProofs only [go_sem, w3]
                refine Want.intro hm ?_
                simp -implicitDefEqProofs only [go_sem]
                refine RetAt.intro (.agg (MLet.mk ((pk R' 10).tdiv 9) 0 (mWireBytes ⟨2, S, 0, p.size, p.root, 0, [], []⟩)).cs) [(R'.adv 1).rr, (1000001, 0, one c.ar)] ⟨MLet.mk ((pk R' 10).tdiv 9) 0 (mWireBytes ⟨2, S, 0, p.size, p.root, 0, [], []⟩), R'.adv 1, ⟨rfl, rfl⟩, hR'.1, by have := hR'.2; show R'.p + 1 ≤ _; omega⟩ ?_
                simp -implicitDefEqProofs only [go_sem]
def PostCH (res : AV) (σ : Sig) : Prop := ∃ (c : MCl) (me : Int) (l : MLet), (res = .tup [c.av [], vI me, .agg l.cs] ∧ σ = [(0, 0, one c.ar)]) ∧ DCl2 c ∧ (me = 0 ∨ me = 9)
end Go.Proofs.YtkhemolkhegppaaGreat.E
