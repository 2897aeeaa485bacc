/-
  Contracts: clients that are drawn.
-/
import Derived.Test.YtkhemolkhegppaaGreatF7
import Derived.Test.YtkhemolkhegppaaGreatD16
namespace Go.Proofs.YtkhemolkhegppaaGreat.E
open Go Go.RowKit
set_option maxHeartbeats 4000000
set_option maxRecDepth 10000
set_option linter.unusedSimpArgs false
set_option linter.unusedVariables false
set_option linter.unusedSectionVars false
def dcF8 : Dec := ⟨[(32, .cm [true, false]), (162, .cm [true, false])], [9, 10, 11], [22, 26, 38, 50, 57, 58, 59, 93, 207], false⟩


def ptD (r : Dr) (low : Int) : MPt × Dr := (⟨low + pk r.nx 4, ⟨(pk r 3).toNat, 0, 0, 0⟩⟩, r.nx.nx)
theorem c162_c (r : Dr) (low : Int) (h : r.ok 900000000) (hl : -1000000000 ≤ low ∧ low ≤ 1000000000) : CallM Tryz.prog 162 r.row [vD, vI low] (.agg (ptD r low).1.cs) (ptD r low).2.row := by
  refine use_of dcF8 false Tryz.f162 ?_
  conv => enter [1]; reduce
  refine jvM Tryz.f162 16 [.cell 4 49] (by kernel_rfl) (by decide +kernel) rfl ?_
  have h0 := h.le (b := 1000000000) (by omega)
  have h1 := h.nx.le (b := 1000000000) (by omega)
  have p3 := pick_lt h0 (n := 3) (by omega)
  have p4 := pick_lt h1 (n := 4) (by omega)
  have w1 : IntKind.u64.wrap (pk r 3) = ((pk r 3).toNat : Int) := by
    have := u64_wrap (pk r 3).toNat (by omega)
    rw [Int.toNat_of_nonneg p3.1] at this ⊢
    exact this
  have w2 : IntKind.i64.wrap (low + pk r.nx 4) = low + pk r.nx 4 := wrS (by omega)
  simp -implicitDefEqProofs only [go_sem]
  refine WantM.intro (pickM 3 h0) ?_
  simp -implicitDefEqProofs only [go_sem, w1]
  refine WantM.intro (pickM 4 h1) ?_
  simp -implicitDefEqProofs only [go_sem, w2]
  first | rfl | exact ⟨rfl, rfl⟩ | trace_state
theorem ptD_ok (r : Dr) (low : Int) {n : Nat} (h : r.ok n) (hn : n ≤ 900000000) : (ptD r low).2.ok (n + 2) ∧ (ptD r low).1.root.ok ∧ (low ≤ (ptD r low).1.size ∧ (ptD r low).1.size ≤ low + 3) := by
  have p3 := pick_lt (h.le (b := 1000000000) (by omega)) (n := 3) (by omega)
  have p4 := pick_lt (h.nx.le (b := 1000000000) (by omega)) (n := 4) (by omega)
  refine ⟨h.nx.nx, ⟨?_, Nat.zero_lt_succ _, Nat.zero_lt_succ _, Nat.zero_lt_succ _⟩, ?_⟩
  · show (pk r 3).toNat < _
    omega
  · show low ≤ low + pk r.nx 4 ∧ low + pk r.nx 4 ≤ low + 3
    omega
/-- A client that can be drawn. -/
structure DCl (c : MCl) : Prop where
  g : c.goal.root.ok
  p : c.pin.root.ok
  l : c.acks.length ≤ 20
  m : 0 ≤ c.many ∧ c.many ≤ 7
  z : 0 ≤ c.pin.size ∧ c.pin.size ≤ 100
def PostCl (r : Dr) (res : AV) (σ : Sig) : Prop := ∃ (c : MCl) (r' : Dr), (res = c.av [] ∧ σ = [r'.rr, (0, 0, one c.ar)]) ∧ DCl c ∧ r'.ok (r.p + 100)
theorem c114_c (r : Dr) (h : r.ok 700000000) : ∃ res σ, PostCl r res σ ∧ CallM Tryz.prog 114 r.row [vD] res σ := by
  refine use_of dcF8 true Tryz.f114 ?_
  conv => enter [1]; reduce
  refine jvX Tryz.f114 93 [.cell 2 52] (PostCl r) (by kernel_rfl) (by decide +kernel) (by kernel_rfl) rfl ?_
  have hp := h.2
  have hb := h.1
  have h0 := h.le (b := 1000000000) (by omega)
  have h1 := h.nx.le (b := 1000000000) (by omega)
  have p7 := pick_lt h0 (n := 7) (by omega)
  obtain ⟨M, hM⟩ : ∃ M : Nat, 1 + pk r 7 = M := ⟨(1 + pk r 7).toNat, by omega⟩
  have wM : IntKind.i64.wrap (M : Int) = (M : Int) := wrS (by omega)
  have e1 : (M : Int).tdiv 2 = ((M / 2 : Nat) : Int) := by rw [Int.tdiv_eq_ediv_of_nonneg (by omega)]; omega
  have w0 : IntKind.i64.wrap ((M / 2 : Nat) : Int) = ((M / 2 : Nat) : Int) := wrS (by omega)
  have w1 : IntKind.i64.wrap (((M / 2 : Nat) : Int) + 1) = ((M / 2 + 1 : Nat) : Int) := by rw [wrS (by omega)]; omega
  have w2 : IntKind.i64.wrap ((M : Int) - ((M / 2 + 1 : Nat) : Int)) = (M : Int) - ((M / 2 + 1 : Nat) : Int) := wrS (by omega)
  have w3 : IntKind.i64.wrap ((M : Int) - ((M / 2 + 1 : Nat) : Int) + 1) = (M : Int) - ((M / 2 + 1 : Nat) : Int) + 1 := wrS (by omega)
  have pn := pick_lt h1 (n := (M : Int) - ((M / 2 + 1 : Nat) : Int) + 1) (by omega)
  obtain ⟨N, hN⟩ : ∃ N : Int, ((M / 2 + 1 : Nat) : Int) + pk r.nx ((M : Int) - ((M / 2 + 1 : Nat) : Int) + 1) = N := ⟨_, rfl⟩
  have wN : IntKind.i64.wrap N = N := wrS (by omega)
  have h2 := h.nx.nx
  simp -implicitDefEqProofs only [go_sem]
  refine WantM.intro (pickM 7 h0) ?_
  simp -implicitDefEqProofs only [go_sem, hM, wM, e1, w0, w1, w2, w3]
  refine WantM.intro (pickM _ h1) ?_
  simp -implicitDefEqProofs only [go_sem, hN, wN]
  refine WantM.intro (pickM 4 (h2.le (by omega))) ?_
  simp -implicitDefEqProofs only [go_sem]
  refine ct_intro [0, 2, 3, 5] [] (fun s => ∃ (pin : MPt) (R : Dr), R.ok (r.p + 10) ∧ pin.root.ok ∧ (0 ≤ pin.size ∧ pin.size ≤ 4) ∧ s = ⟨93, [(0, vD), (2, .ptr 2 0 [] 15 0 0), (3, vI M), (5, .ptr 5 0 [] 15 0 0)], [(1000000, 0, one ⟨2, [R.cs], 0, false⟩), (2, 0, one ⟨15, [zCl], 0, false⟩), (5, 0, one ⟨15, [MCl.cs ⟨N, M, pk r.nx.nx 4, 0, .zero, [], pin⟩ .nilS], 0, false⟩)], 1⟩) ?_ ?_
  · simp -implicitDefEqProofs only [go_sem]
    have q2 := pick_lt ((h.adv 3).le (b := 1000000000) (by omega)) (n := 2) (by omega)
    refine WantM.intro (pickM 2 ((h.adv 3).le (by omega))) ?_
    simp -implicitDefEqProofs only [go_sem]
    refine condJ_intro (fun hc => ?_) (fun hc => ?_)
    · have ho := ptD_ok (r.adv 4) 1 (h.adv 4) (by omega)
      simp -implicitDefEqProofs only [go_sem, hc]
      refine WantM.intro (c162_c (r.adv 4) 1 ((h.adv 4).le (by omega)) (by omega)) ?_
      simp -implicitDefEqProofs only [go_sem]
      refine ⟨(ptD (r.adv 4) 1).1, (ptD (r.adv 4) 1).2, ⟨ho.1.1, by show r.p + 4 + 1 + 1 ≤ _; omega⟩, ho.2.1, by omega, ?_⟩
      rfl
    · simp -implicitDefEqProofs only [go_sem, hc]
      exact ⟨.zero, r.adv 4, ⟨hb, by show r.p + 4 ≤ _; omega⟩, dig0_ok, ⟨Int.le_refl _, by decide⟩, rfl⟩
  · rintro s ⟨pin, R, hR, hpin, hps, rfl⟩
    have hRp := hR.2
    have okR : ∀ i, i ≤ 1000 → (R.adv i).ok 1000000000 := fun i hi => (hR.adv i).le (by omega)
    have q4 := pick_lt (h2.le (b := 1000000000) (by omega)) (n := 4) (by omega)
    refine ct_intro [0, 2, 3, 5] [] (fun s => ∃ (S : Int) (R : Dr), R.ok (r.p + 20) ∧ (0 ≤ S ∧ S ≤ 1000000) ∧ s = ⟨93, [(0, vD), (2, .ptr 2 0 [] 15 0 0), (3, vI M), (5, .ptr 5 0 [] 15 0 0)], [(1000000, 0, one ⟨2, [R.cs], 0, false⟩), (2, 0, one ⟨15, [zCl], 0, false⟩), (5, 0, one ⟨15, [MCl.cs ⟨N, M, S, 0, .zero, [], pin⟩ .nilS], 0, false⟩)], 1⟩) ?_ ?_
    · simp -implicitDefEqProofs only [go_sem]
      have q20 := pick_lt (okR 0 (by omega)) (n := 20) (by omega)
      have q2 := pick_lt (okR 1 (by omega)) (n := 2) (by omega)
      have w5 : IntKind.i64.wrap (1000000 - pk (R.adv 1) 2) = 1000000 - pk (R.adv 1) 2 := wrS (by omega)
      refine WantM.intro (pickM 20 (okR 0 (by omega))) ?_
      simp -implicitDefEqProofs only [go_sem]
      refine condJ_intro (fun hc => ?_) (fun hc => ?_)
      · simp -implicitDefEqProofs only [go_sem, hc]
        refine WantM.intro (pickM 2 (okR 1 (by omega))) ?_
        simp -implicitDefEqProofs only [go_sem, w5]
        exact ⟨1000000 - pk (R.adv 1) 2, R.adv 2, ⟨hR.1, by show R.p + 2 ≤ _; omega⟩, by omega, rfl⟩
      · simp -implicitDefEqProofs only [go_sem, hc]
        exact ⟨pk r.nx.nx 4, R.adv 1, ⟨hR.1, by show R.p + 1 ≤ _; omega⟩, by omega, rfl⟩
    · clear hR hRp okR
      rintro s ⟨S, R, hR, hS, rfl⟩
      have hRp := hR.2
      have hb' := hR.1
      have okR : ∀ i, i ≤ 1000 → (R.adv i).ok 1000000000 := fun i hi => (hR.adv i).le (by omega)
      have q6 := pick_lt (okR 0 (by omega)) (n := 6) (by omega)
      simp -implicitDefEqProofs only [go_sem]
      refine WantM.intro (pickM 6 (okR 0 (by omega))) ?_
      simp -implicitDefEqProofs only [go_sem]
      refine guardP_intro (fun g => ?_) (fun g => ?_)
      · simp -implicitDefEqProofs only [go_sem, g, condJ_true]
        refine RetAt.intro (MCl.av ⟨N, M, S, 0, .zero, [], pin⟩ []) [Dr.rr R.nx, (0, 0, one (MCl.ar ⟨N, M, S, 0, .zero, [], pin⟩))] ⟨⟨N, M, S, 0, .zero, [], pin⟩, R.nx, ⟨rfl, rfl⟩, ⟨dig0_ok, hpin, by simp, by show 0 ≤ (M : Int) ∧ (M : Int) ≤ 7; omega, by show 0 ≤ pin.size ∧ pin.size ≤ 100; omega⟩, hb', by show R.p + 1 ≤ _; omega⟩ ?_
        simp -implicitDefEqProofs only [go_sem]
        first | rfl | exact ⟨rfl, rfl⟩ | trace_state
      · simp -implicitDefEqProofs only [go_sem, g]
        refine condJ_intro (fun g2 => ?_) (fun g2 => ?_)
        · simp -implicitDefEqProofs only [go_sem, g2]
          refine RetAt.intro (MCl.av ⟨N, M, S, 0, .zero, [], pin⟩ []) [Dr.rr R.nx, (0, 0, one (MCl.ar ⟨N, M, S, 0, .zero, [], pin⟩))] ⟨⟨N, M, S, 0, .zero, [], pin⟩, R.nx, ⟨rfl, rfl⟩, ⟨dig0_ok, hpin, by simp, by show 0 ≤ (M : Int) ∧ (M : Int) ≤ 7; omega, by show 0 ≤ pin.size ∧ pin.size ≤ 100; omega⟩, hb', by show R.p + 1 ≤ _; omega⟩ ?_
          simp -implicitDefEqProofs only [go_sem]
          first | rfl | exact ⟨rfl, rfl⟩ | trace_state
        · simp -implicitDefEqProofs only [go_sem, g2]
          refine condJ_intro (fun g3 => ?_) (fun g3 => ?_)
          · simp -implicitDefEqProofs only [go_sem, g3]
            refine RetAt.intro (MCl.av ⟨N, M, S, 1, .zero, [], pin⟩ []) [Dr.rr R.nx, (0, 0, one (MCl.ar ⟨N, M, S, 1, .zero, [], pin⟩))] ⟨⟨N, M, S, 1, .zero, [], pin⟩, R.nx, ⟨rfl, rfl⟩, ⟨dig0_ok, hpin, by simp, by show 0 ≤ (M : Int) ∧ (M : Int) ≤ 7; omega, by show 0 ≤ pin.size ∧ pin.size ≤ 100; omega⟩, hb', by show R.p + 1 ≤ _; omega⟩ ?_
            simp -implicitDefEqProofs only [go_sem]
            first | rfl | exact ⟨rfl, rfl⟩ | trace_state
          · have wp : IntKind.i64.wrap (pin.size + 1) = pin.size + 1 := wrS (by omega)
            have ho := ptD_ok R.nx (pin.size + 1) hR.nx (by omega)
            simp -implicitDefEqProofs only [go_sem, g3, wp]
            refine WantM.intro (c162_c R.nx (pin.size + 1) (hR.nx.le (by omega)) (by omega)) ?_
            generalize ptD R.nx (pin.size + 1) = gR at *
            obtain ⟨G, R2⟩ := gR
            obtain ⟨hR2, hG, -⟩ := ho
            simp only at hR2 hG
            have hR2p := hR2.2
            have okR2 : ∀ i, i ≤ 1000 → (R2.adv i).ok 1000000000 := fun i hi => (hR2.adv i).le (by omega)
            have qN := pick_lt (okR2 0 (by omega)) (n := N) (by omega)
            have q2 := pick_lt (okR2 1 (by omega)) (n := 2) (by omega)
            have wN1 : IntKind.i64.wrap (N - 1) = N - 1 := wrS (by omega)
            simp -implicitDefEqProofs only [go_sem]
            refine WantM.intro (pickM N (okR2 0 (by omega))) ?_
            simp -implicitDefEqProofs only [go_sem]
            refine ct_intro [0, 2, 3, 5, 7] [] (fun s => ∃ n : Int, (0 ≤ n ∧ n < N) ∧ s = ⟨93, [(0, vD), (2, .ptr 2 0 [] 15 0 0), (3, vI M), (5, .ptr 5 0 [] 15 0 0), (7, vI n)], [(1000000, 0, one ⟨2, [(R2.adv 2).cs], 0, false⟩), (2, 0, one ⟨15, [zCl], 0, false⟩), (5, 0, one ⟨15, [MCl.cs ⟨N, M, S, 2, G, [], pin⟩ .nilS], 0, false⟩)], 1⟩) ?_ ?_
            · simp -implicitDefEqProofs only [go_sem]
              refine WantM.intro (pickM 2 (okR2 1 (by omega))) ?_
              simp -implicitDefEqProofs only [go_sem]
              refine condJ_intro (fun g4 => ?_) (fun g4 => ?_)
              · simp -implicitDefEqProofs only [go_sem, g4, wN1]
                exact ⟨N - 1, by omega, rfl⟩
              · simp -implicitDefEqProofs only [go_sem, g4]
                exact ⟨_, qN, rfl⟩
            · rintro s ⟨n, hn, rfl⟩
              have ws1 : IntKind.i64.wrap ((M : Int) - n) = (M : Int) - n := wrS (by omega)
              have ws2 : IntKind.i64.wrap ((M : Int) - n + 1) = (M : Int) - n + 1 := wrS (by omega)
              have qs := pick_lt (okR2 2 (by omega)) (n := (M : Int) - n + 1) (by omega)
              simp -implicitDefEqProofs only [go_sem, ws1, ws2]
              refine WantM.intro (pickM _ (okR2 2 (by omega))) ?_
              generalize pk (R2.adv 2) ((M : Int) - n + 1) = K at *
              simp -implicitDefEqProofs only [go_sem]
              refine jv_lpN [(10005, 1)] (fun x s => ∃ (i : Nat) (l : List Int), l.length = i ∧ (i : Int) ≤ n ∧ x = n.toNat - i ∧ s = ⟨93, [(2, .ptr 2 0 [] 15 0 0), (5, .ptr 5 0 [] 15 0 0), (7, vI n), (8, vI K), (9, vI ((i : Int) + 1))], [(1000000, 0, one ⟨2, [(R2.adv 3).cs], 0, false⟩), (2, 0, one ⟨15, [zCl], 0, false⟩), (5, 0, one ⟨15, [MCl.cs ⟨N, M, S, 2, G, [], pin⟩ (.blk 10005 0 [] 1 0 l.length)], 0, false⟩), (10005, 0, one ⟨1, l.map intC, 2, false⟩)], 1⟩) n.toNat ?_ ?_
              · simp -implicitDefEqProofs only [go_sem]
                exact ⟨0, [], rfl, hn.1, rfl, rfl⟩
              · rintro x s ⟨i, l, hl, hi, rfl, rfl⟩
                by_cases hlt : (i : Int) + 1 ≤ n
                · have wi : IntKind.i64.wrap ((i : Int) + 1 + 1) = ((i + 1 : Nat) : Int) + 1 := by rw [wrS (by omega)]; omega
                  have wk : IntKind.i64.wrap ((i : Int) + 1 + K) = (i : Int) + 1 + K := wrS (by omega)
                  have ha : ∀ x, _ := fun x => app_ok (E := intC) (l := l) (xs := [x]) (b := 8) (n := 1000) (by simp; omega) (by omega) (by omega)
                  simp -implicitDefEqProofs only [go_sem, hlt, wi, wk, ha]
                  exact ⟨_, by omega, i + 1, l ++ [(i : Int) + 1 + K], by simp [hl], by omega, rfl, by simp [intC]⟩
                · simp -implicitDefEqProofs only [go_sem, hlt]
                  refine RetAt.intro (MCl.av ⟨N, M, S, 2, G, l, pin⟩ []) [Dr.rr (R2.adv 3), (0, 0, one (MCl.ar ⟨N, M, S, 2, G, l, pin⟩))] ⟨⟨N, M, S, 2, G, l, pin⟩, R2.adv 3, ⟨rfl, rfl⟩, ⟨hG, hpin, by show l.length ≤ 20; omega, by show 0 ≤ (M : Int) ∧ (M : Int) ≤ 7; omega, by show 0 ≤ pin.size ∧ pin.size ≤ 100; omega⟩, hR2.1, by show R2.p + 3 ≤ _; omega⟩ ?_
                  simp -implicitDefEqProofs only [go_sem]
                  first | rfl | exact ⟨rfl, rfl⟩ | trace_state
end Go.Proofs.YtkhemolkhegppaaGreat.E
