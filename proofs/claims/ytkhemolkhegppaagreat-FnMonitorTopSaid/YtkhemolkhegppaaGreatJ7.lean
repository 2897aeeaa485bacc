/-
  Contracts: monitors that are drawn.
-/
import Derived.Test.YtkhemolkhegppaaGreatM1
import Derived.Test.YtkhemolkhegppaaGreatF13
import Derived.Test.YtkhemolkhegppaaGreatJ6
namespace Go.Proofs.YtkhemolkhegppaaGreat.E
open Go Go.RowKit
set_option maxHeartbeats 4000000
set_option maxRecDepth 10000
set_option linter.unusedSimpArgs false
set_option linter.unusedVariables false
set_option linter.unusedSectionVars false
def dcJ7 : Dec := ⟨[(32, .cm [true, false]), (38, .cm [false]), (114, .cm [true]), (116, .cm [true])], [9, 10, 11], [22, 26, 38, 50, 57, 58, 59, 93, 207], false⟩


def Dr.r3 (r : Dr) : Sig := [(1000000, 0, one ⟨1, [[.ptr 1000001 0 [] 1 0 0]], 0, false⟩), (1000001, 0, one ⟨1, [[.ptr 1000002 0 [] 2 0 0]], 0, false⟩), (1000002, 0, one ⟨2, [r.cs], 0, false⟩)]
attribute [go_sem] Dr.r3
theorem c55_c (l : List UInt8) (hl : l.length ≤ maxLen) : CallM Tryz.prog 55 [] [.ro 1 (l.map byteC)] (.ptr 0 0 [] 1 0 0) [(0, 0, one ⟨1, [[.ptr 1 0 [] 1 0 0]], 0, false⟩), (1, 0, one ⟨1, [[.ptr 2 0 [] 2 0 0]], 0, false⟩), (2, 0, one ⟨2, [(Dr.mk (l.take 2000) 0).cs], 0, false⟩)] := by
  refine use_of dcJ7 false Tryz.f55 ?_
  conv => enter [1]; reduce
  refine jvM Tryz.f55 7 [.tmp 2] (by kernel_rfl) (by decide +kernel) rfl ?_
  simp -implicitDefEqProofs only [go_sem]
  refine WantM.intro (c38_c l hl) ?_
  simp -implicitDefEqProofs only [go_sem]
/-- A monitor that can be drawn. -/
structure DMo (m : MMon) : Prop where
  c : DCl m.cl
  l : m.leaves.length ≤ 80
def PostMo (r : Dr) (res : AV) (σ : Sig) : Prop := ∃ (m : MMon) (r' : Dr), (res = m.avC ∧ σ = r'.r3 ++ m.outC) ∧ DMo m ∧ r'.ok (r.p + 1000)
/-- The point of leaves, whatever they are. -/
def tPt (l : List ByteArray) : MPt := if mLeavesOk l then ⟨l.length, (mRoot l).dig⟩ else .zero
theorem tPt_ok (l : List ByteArray) : (tPt l).root.ok ∧ (0 ≤ (tPt l).size ∧ (tPt l).size ≤ (l.length : Int)) := by
  unfold tPt
  split
  · exact ⟨(mRoot l).dig_ok, Int.natCast_nonneg _, Int.le_refl _⟩
  · exact ⟨dig0_ok, Int.le_refl _, Int.natCast_nonneg _⟩
theorem tPoint (l : List ByteArray) (hl : l.length ≤ maxLen) : CallR Tryz.prog 115 [.ro 1 (l.map leafCs)] (.agg (tPt l).cs) [] := by
  unfold tPt
  cases h : mLeavesOk l with
  | true => exact c115_c l h
  | false =>
    refine use_of dcJ7 false Tryz.f115 ?_
    conv => enter [1]; reduce
    refine jvR Tryz.f115 12 [.cell 2 49] (by kernel_rfl) (by decide +kernel) rfl ?_
    simp -implicitDefEqProofs only [go_sem]
    refine Want.intro (c69_c l hl) ?_
    simp -implicitDefEqProofs only [go_sem, h, Bool.not_false, condJ_true]
    rfl
def moS (c : MCl) (lv : AV) (d : MPt) : List AV := c.cs (.blk 10007 0 [] 1 0 c.acks.length) ++ (lv :: d.cs)
def zMo : List AV := [.sc (.int .i64 0), .sc (.int .i64 0), .sc (.int .i64 0), .sc (.int .i64 0), .sc (.int .i64 0), .sc (.int .u64 0), .sc (.int .u64 0), .sc (.int .u64 0), .sc (.int .u64 0), .nilS, .sc (.int .i64 0), .sc (.int .u64 0), .sc (.int .u64 0), .sc (.int .u64 0), .sc (.int .u64 0), .nilS, .sc (.int .i64 0), .sc (.int .u64 0), .sc (.int .u64 0), .sc (.int .u64 0), .sc (.int .u64 0)]
def moH (r : Dr) (c : MCl) (lv : AV) (d : MPt) (x : Sig) : Sig := [(1000000, 0, one ⟨1, [[.ptr 1000001 0 [] 1 0 0]], 0, false⟩), (1000001, 0, one ⟨1, [[.ptr 1000002 0 [] 2 0 0]], 0, false⟩), (1000002, 0, one ⟨2, [r.cs], 0, false⟩), (4, 0, one ⟨21, [zMo], 0, false⟩), (7, 0, one ⟨21, [moS c lv d], 0, false⟩), (10007, 0, one c.ar)] ++ x
attribute [go_sem] moS zMo moH
theorem c57_c (r : Dr) (l : List ByteArray) (h : r.ok 500000000) (hz : l.length ≤ 80) : ∃ res σ, PostMo r res σ ∧ CallM Tryz.prog 57 r.r3 [vL, .ro 1 (l.map leafCs)] res σ := by
  refine use_of dcJ7 true Tryz.f57 ?_
  conv => enter [1]; reduce
  refine jvX Tryz.f57 113 [.cell 4 54] (PostMo r) (by kernel_rfl) (by decide +kernel) (by kernel_rfl) rfl ?_
  have hp := h.2
  have hb := h.1
  simp -implicitDefEqProofs only [go_sem]
  obtain ⟨res, σ, ⟨c, r1, ⟨rfl, rfl⟩, hd, hr1⟩, hcall⟩ := c114_c r (h.le (by omega))
  refine WantM.intro hcall ?_
  have hr1p := hr1.2
  simp -implicitDefEqProofs only [go_sem]
  refine ct_intro [1, 4, 5, 7] [] (fun s => ∃ (c : MCl), DCl c ∧ s = ⟨113, [(1, .ro 1 (l.map leafCs)), (4, .ptr 4 0 [] 21 0 0), (5, .ptr 1000002 0 [] 2 0 0), (7, .ptr 7 0 [] 21 0 0)], moH r1 c .nilS .zero [], 1⟩) ?_ ?_
  · simp -implicitDefEqProofs only [go_sem]
    refine condJ_intro (fun g => ?_) (fun g => ?_)
    · simp -implicitDefEqProofs only [go_sem, g]
      exact ⟨⟨c.need, c.many, c.session, 1, .zero, [], c.pin⟩, ⟨dig0_ok, hd.p, Nat.zero_le _, hd.m, hd.z⟩, rfl⟩
    · simp -implicitDefEqProofs only [go_sem, g]
      exact ⟨c, hd, rfl⟩
  · clear hcall
    clear hd
    rintro s ⟨c, hd, rfl⟩
    have okr : ∀ i, i ≤ 1000 → (r1.adv i).ok 1000000000 := fun i hi => (hr1.adv i).le (by omega)
    have hr1b := hr1.1
    have hTP := tPoint l (by unfold maxLen; omega)
    have hTk := tPt_ok l
    have hfin : ∀ (R : Dr), R.ok (r.p + 1000) → PostMo r (MMon.avC ⟨⟨c.need, c.many, c.session, c.phase, c.goal, c.acks, .zero⟩, [], .zero⟩) (R.r3 ++ MMon.outC ⟨⟨c.need, c.many, c.session, c.phase, c.goal, c.acks, .zero⟩, [], .zero⟩) := fun R hR => ⟨_, R, ⟨rfl, rfl⟩, ⟨⟨hd.g, dig0_ok, hd.l, hd.m, ⟨Int.le_refl _, by show (0 : Int) ≤ 100; omega⟩⟩, Nat.zero_le _⟩, hR⟩
    simp -implicitDefEqProofs only [go_sem]
    refine guardP_intro (fun g0 => ?_) (fun g0 => ?_)
    · simp -implicitDefEqProofs only [go_sem, g0, condJ_true]
      refine RetAt.intro _ _ (hfin r1 (hr1.le (by omega))) ?_
      simp -implicitDefEqProofs only [go_sem]
      rfl
    · simp -implicitDefEqProofs only [go_sem, g0]
      refine WantM.intro (pickM 5 (okr 0 (by omega))) ?_
      simp -implicitDefEqProofs only [go_sem]
      refine condJ_intro (fun g1 => ?_) (fun g1 => ?_)
      · simp -implicitDefEqProofs only [go_sem, g1]
        refine RetAt.intro _ _ (hfin (r1.adv 1) ⟨hr1b, by show r1.p + 1 ≤ _; omega⟩) ?_
        simp -implicitDefEqProofs only [go_sem]
        rfl
      · simp -implicitDefEqProofs only [go_sem, g1]
        refine Want.intro hTP ?_
        clear hfin
        generalize hT : tPt l = T at *
        have hLz : (0 : Int) ≤ T.size ∧ T.size ≤ 100 := by omega
        have hTd := hTk.1
        have hL1 : 1 ≤ l.length := by
          rcases Nat.eq_zero_or_pos l.length with e | e
          · rw [e] at g0; exact absurd g0 (by decide)
          · exact e
        simp -implicitDefEqProofs only [go_sem]
        refine ct_intro [1, 4, 5, 7] [] (fun s => ∃ (c : MCl) (R : Dr), DCl c ∧ R.ok (r.p + 150) ∧ s = ⟨113, [(1, .ro 1 (l.map leafCs)), (4, .ptr 4 0 [] 21 0 0), (5, .ptr 1000002 0 [] 2 0 0), (7, .ptr 7 0 [] 21 0 0)], moH R c .nilS .zero [], 1⟩) ?_ ?_
        · simp -implicitDefEqProofs only [go_sem]
          refine WantM.intro (pickM 8 (okr 1 (by omega))) ?_
          simp -implicitDefEqProofs only [go_sem]
          refine condJ_intro (fun g => ?_) (fun g => ?_)
          · simp -implicitDefEqProofs only [go_sem, g]
            refine WantM.intro (c116_c (r1.adv 2) ((hr1.adv 2).le (by omega))) ?_
            have hdg := dgR_ok (r1.adv 2) (hr1.adv 2)
            have hdo := dgR_dig (r1.adv 2) ((hr1.adv 2).le (by omega))
            generalize dgR (r1.adv 2) = q at *
            obtain ⟨q1, q2⟩ := q
            simp only at hdg hdo
            simp -implicitDefEqProofs only [go_sem]
            exact ⟨⟨c.need, c.many, c.session, c.phase, c.goal, c.acks, ⟨T.size, q1⟩⟩, q2, ⟨hd.g, hdo, hd.l, hd.m, hLz⟩, hdg.1.le (by omega), rfl⟩
          · simp -implicitDefEqProofs only [go_sem, g]
            exact ⟨⟨c.need, c.many, c.session, c.phase, c.goal, c.acks, T⟩, r1.adv 2, ⟨hd.g, hTd, hd.l, hd.m, hLz⟩, ⟨hr1b, by show r1.p + 2 ≤ _; omega⟩, rfl⟩
        · clear hd okr hr1b hr1p hr1
          clear c
          rintro s ⟨c, R, hd, hR, rfl⟩
          have hRp := hR.2
          have hRb := hR.1
          have okR : ∀ i, i ≤ 1000 → (R.adv i).ok 1000000000 := fun i hi => (hR.adv i).le (by omega)
          have qv : 0 ≤ pk R l.length ∧ pk R l.length < (l.length : Int) := pick_lt (okR 0 (by omega)) (n := l.length) (by omega)
          obtain ⟨v, hv⟩ : ∃ v : Nat, pk R l.length = v := ⟨(pk R l.length).toNat, by omega⟩
          simp -implicitDefEqProofs only [go_sem]
          refine WantM.intro (pickM l.length (okR 0 (by omega))) ?_
          rw [hv]
          simp -implicitDefEqProofs only [go_sem]
          refine ct_intro [1, 4, 5, 7, 8] [] (fun s => ∃ (c : MCl) (v : Nat), DCl c ∧ v ≤ l.length ∧ s = ⟨113, [(1, .ro 1 (l.map leafCs)), (4, .ptr 4 0 [] 21 0 0), (5, .ptr 1000002 0 [] 2 0 0), (7, .ptr 7 0 [] 21 0 0), (8, vI v)], moH (R.adv 2) c .nilS .zero [], 1⟩) ?_ ?_
          · simp -implicitDefEqProofs only [go_sem]
            refine WantM.intro (pickM 5 (okR 1 (by omega))) ?_
            simp -implicitDefEqProofs only [go_sem]
            refine condJ_intro (fun g => ?_) (fun g => ?_)
            · simp -implicitDefEqProofs only [go_sem, g]
              refine Want.intro hTP ?_
              simp -implicitDefEqProofs only [go_sem]
              exact ⟨⟨c.need, c.many, c.session, c.phase, c.goal, c.acks, T⟩, l.length, ⟨hd.g, hTd, hd.l, hd.m, hLz⟩, Nat.le_refl _, rfl⟩
            · simp -implicitDefEqProofs only [go_sem, g]
              exact ⟨c, v, hd, by omega, rfl⟩
          · clear hv qv hd
            clear v c
            rintro s ⟨c, v, hd, hv, rfl⟩
            have hvI : (v : Int) ≤ (l.length : Int) := by omega
            have hvl : (l.take v).length = v := by rw [List.length_take]; omega
            simp -implicitDefEqProofs only [go_sem, hv, hvI, Nat.sub_zero]
            refine Want.intro (c111_c (l.take v) (by omega)) ?_
            simp -implicitDefEqProofs only [go_sem]
            refine condJ_intro (fun g => ?_) (fun g => ?_)
            · simp -implicitDefEqProofs only [go_sem, g]
              refine RetAt.intro (MMon.avC ⟨c, l.take v, c.pin⟩) ((R.adv 2).r3 ++ MMon.outC ⟨c, l.take v, c.pin⟩) ⟨⟨c, l.take v, c.pin⟩, R.adv 2, ⟨rfl, rfl⟩, ⟨hd, by show (l.take v).length ≤ 80; omega⟩, ⟨hRb, by show R.p + 2 ≤ _; omega⟩⟩ ?_
              simp -implicitDefEqProofs only [go_sem]
            · simp -implicitDefEqProofs only [go_sem, g]
              refine ct_intro [4, 5, 7, 8] [] (fun s => ∃ (d : MPt) (Q : Dr), 0 ≤ d.size ∧ Q.ok (r.p + 200) ∧ s = ⟨113, [(4, .ptr 4 0 [] 21 0 0), (5, .ptr 1000002 0 [] 2 0 0), (7, .ptr 7 0 [] 21 0 0), (8, vI v)], moH Q c (.blk 20007 0 [] 1 0 (l.take v).length) d [(20007, 0, one ⟨1, (l.take v).map leafCs, 2, false⟩)], 1⟩) ?_ ?_
              · simp -implicitDefEqProofs only [go_sem]
                refine guardP_intro (fun g2 => ?_) (fun g2 => ?_)
                · have gv : 0 < v := by have := of_decide_eq_true g2; omega
                  have qw : 0 ≤ pk (R.adv 3) v ∧ pk (R.adv 3) v < (v : Int) := pick_lt (okR 3 (by omega)) (n := v) (by omega)
                  obtain ⟨u, hu⟩ : ∃ u : Nat, pk (R.adv 3) v = u := ⟨(pk (R.adv 3) v).toNat, by omega⟩
                  have wu : IntKind.i64.wrap (1 + (u : Int)) = ((1 + u : Nat) : Int) := by rw [wrS (by omega)]; omega
                  have hul : 1 + u ≤ l.length := by omega
                  have hulI : ((1 + u : Nat) : Int) ≤ (l.length : Int) := by omega
                  have hT2 := tPoint (l.take (1 + u)) (by rw [List.length_take]; unfold maxLen; omega)
                  have hT2k := tPt_ok (l.take (1 + u))
                  generalize tPt (l.take (1 + u)) = T2 at *
                  simp -implicitDefEqProofs only [go_sem, g2]
                  refine WantM.intro (pickM 2 (okR 2 (by omega))) ?_
                  simp -implicitDefEqProofs only [go_sem]
                  refine condJ_intro (fun g3 => ?_) (fun g3 => ?_)
                  · simp -implicitDefEqProofs only [go_sem, g3]
                    refine WantM.intro (pickM v (okR 3 (by omega))) ?_
                    rw [hu]
                    simp -implicitDefEqProofs only [go_sem, wu, hul, hulI, Nat.sub_zero]
                    refine Want.intro hT2 ?_
                    simp -implicitDefEqProofs only [go_sem]
                    exact ⟨T2, R.adv 4, hT2k.2.1, ⟨hRb, by show R.p + 4 ≤ _; omega⟩, rfl⟩
                  · simp -implicitDefEqProofs only [go_sem, g3]
                    exact ⟨.zero, R.adv 3, Int.le_refl _, ⟨hRb, by show R.p + 3 ≤ _; omega⟩, rfl⟩
                · simp -implicitDefEqProofs only [go_sem, g2, condJ_false]
                  exact ⟨.zero, R.adv 2, Int.le_refl _, ⟨hRb, by show R.p + 2 ≤ _; omega⟩, rfl⟩
              · rintro s ⟨d, Q, hd0, hQ, rfl⟩
                have hQp := hQ.2
                have hQb := hQ.1
                have okQ : ∀ i, i ≤ 1000 → (Q.adv i).ok 1000000000 := fun i hi => (hQ.adv i).le (by omega)
                refine ct_intro [4, 7] [] (fun s => ∃ (L : List ByteArray) (Q : Dr), L.length ≤ 80 ∧ Q.ok (r.p + 300) ∧ s = ⟨113, [(4, .ptr 4 0 [] 21 0 0), (7, .ptr 7 0 [] 21 0 0)], moH Q c (.blk 20007 0 [] 1 0 L.length) d [(20007, 0, one ⟨1, L.map leafCs, 2, false⟩)], 1⟩) ?_ ?_
                · generalize l.take v = L at *
                  simp -implicitDefEqProofs only [go_sem]
                  refine guardP_intro (fun g2 => ?_) (fun g2 => ?_)
                  · have gv : 0 < v := by have := of_decide_eq_true g2; omega
                    have wv : IntKind.i64.wrap ((v : Int) - 1) = ((v - 1 : Nat) : Int) := by rw [wrS (by omega)]; omega
                    have hv1 : ((v - 1 : Nat) : Int) < (L.length : Int) := by omega
                    have hv2 : v - 1 < L.length := by omega
                    have hgv : L[v - 1]? = some L[v - 1] := List.getElem?_eq_getElem hv2
                    simp -implicitDefEqProofs only [go_sem, g2]
                    refine WantM.intro (pickM 8 (okQ 0 (by omega))) ?_
                    simp -implicitDefEqProofs only [go_sem]
                    refine condJ_intro (fun g3 => ?_) (fun g3 => ?_)
                    · simp -implicitDefEqProofs only [go_sem, g3, wv, hv1, hv2, hgv]
                      refine ⟨L.set (v - 1) ⟨#[63]⟩, Q.adv 1, by rw [List.length_set]; omega, ⟨hQb, by show Q.p + 1 ≤ _; omega⟩, ?_⟩
                      rw [List.length_set, List.map_set]
                      rfl
                    · simp -implicitDefEqProofs only [go_sem, g3]
                      exact ⟨L, Q.adv 1, by omega, ⟨hQb, by show Q.p + 1 ≤ _; omega⟩, rfl⟩
                  · simp -implicitDefEqProofs only [go_sem, g2, condJ_false]
                    exact ⟨L, Q, by omega, hQ.le (by omega), rfl⟩
                · rintro s ⟨L, Q, hL, hQ, rfl⟩
                  simp -implicitDefEqProofs only [go_sem]
                  refine RetAt.intro (MMon.avC ⟨c, L, d⟩) (Q.r3 ++ MMon.outC ⟨c, L, d⟩) ⟨⟨c, L, d⟩, Q, ⟨rfl, rfl⟩, ⟨hd, hL⟩, hQ.le (by omega)⟩ ?_
                  simp -implicitDefEqProofs only [go_sem]
end Go.Proofs.YtkhemolkhegppaaGreat.E
