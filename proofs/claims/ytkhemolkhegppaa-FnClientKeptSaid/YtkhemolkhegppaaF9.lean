/-
  Contracts: clients that are drawn, spoilt.
-/
import Derived.Test.YtkhemolkhegppaaF8
namespace Go.Proofs.Ytkhemolkhegppaa.E
open Go Go.RowKit
set_option maxHeartbeats 4000000
set_option maxRecDepth 10000
set_option linter.unusedSimpArgs false
set_option linter.unusedVariables false
set_option linter.unusedSectionVars false
def dcF9 : Dec := ⟨[(38, .cm [false]), (39, .cm [true]), (40, .cm [true, false]), (41, .cm [true, true]), (97, .cm [true])], [9, 10, 11], [22, 28, 34, 35, 36, 42, 43, 48, 179, 193], false⟩


def MCl.avK (c : MCl) (k : Nat) : AV := .agg (c.cs (.blk k 0 [] 1 0 c.acks.length))
attribute [go_sem] MCl.avK
inductive SpC (c : MCl) (r : Dr) : AV → Sig → Prop
  | a : SpC c r (c.avK 1000001) [r.rr, (1000001, 0, one c.ar)]
  | b : SpC c r (c.avK 0) [r.rr, (0, 0, one c.ar)]
structure DCl2 (c : MCl) : Prop where
  g : c.goal.root.ok
  p : c.pin.root.ok
  l : c.acks.length ≤ 30
def PostSC (r : Dr) (res : AV) (σ : Sig) : Prop := ∃ (c : MCl) (r' : Dr), SpC c r' res σ ∧ DCl2 c ∧ r'.ok (r.p + 100)
theorem DCl.two {c : MCl} (h : DCl c) : DCl2 c := ⟨h.g, h.p, by have := h.l; omega⟩
theorem c41_c (r : Dr) (c : MCl) (h1 : r.ok 700000000) (hc : DCl c) : ∃ res σ, PostSC r res σ ∧ CallM Try.prog 41 [r.rr, (1000001, 0, one c.ar)] [vD, c.avK 1000001] res σ := by
  refine use_of dcF9 false Try.f41 ?_
  conv => enter [1]; reduce
  refine jvX Try.f41 59 [.cell 4 30] (PostSC r) (by kernel_rfl) (by decide +kernel) (by kernel_rfl) rfl ?_
  have hp := h1.2
  have ok : ∀ i, i ≤ 1000 → (r.adv i).ok 1000000000 := fun i hi => (h1.adv i).le (by omega)
  have h0 := h1.le (b := 1000000000) (by omega)
  have p8 := pick_lt h0 (n := 8) (by omega)
  simp -implicitDefEqProofs only [go_sem]
  refine WantM.intro (pickM 8 h0) ?_
  simp -implicitDefEqProofs only [go_sem]
  generalize hK : pk r 8 = K at *
  have hk8 : K = 0 ∨ K = 1 ∨ K = 2 ∨ K = 3 ∨ K = 4 ∨ K = 5 ∨ K = 6 ∨ K = 7 := by omega
  rcases hk8 with rfl | rfl | rfl | rfl | rfl | rfl | rfl | rfl
  all_goals simp -implicitDefEqProofs only [go_sem, condJ_true, condJ_false]
  · have q := pick_lt (ok 1 (by omega)) (n := 9) (by omega)
    refine WantM.intro (pickM 9 (ok 1 (by omega))) ?_
    simp -implicitDefEqProofs only [go_sem]
    refine RetAt.intro (MCl.avK { c with need := pk (r.adv 1) 9 } 1000001) [Dr.rr (r.adv 1).nx, (1000001, 0, one (MCl.ar { c with need := pk (r.adv 1) 9 }))] ⟨{ c with need := pk (r.adv 1) 9 }, (r.adv 1).nx, .a, ⟨hc.g, hc.p, by have := hc.l; show c.acks.length ≤ 30; omega⟩, ⟨h0.1, by show r.p + 1 + 1 ≤ _; omega⟩⟩ ?_
    simp -implicitDefEqProofs only [go_sem]
    first | done | rfl | exact ⟨rfl, rfl⟩ | (simp; done) | trace_state
  · have q := pick_lt (ok 1 (by omega)) (n := 9) (by omega)
    refine WantM.intro (pickM 9 (ok 1 (by omega))) ?_
    simp -implicitDefEqProofs only [go_sem]
    refine RetAt.intro (MCl.avK { c with many := pk (r.adv 1) 9 } 1000001) [Dr.rr (r.adv 1).nx, (1000001, 0, one (MCl.ar { c with many := pk (r.adv 1) 9 }))] ⟨{ c with many := pk (r.adv 1) 9 }, (r.adv 1).nx, .a, ⟨hc.g, hc.p, by have := hc.l; show c.acks.length ≤ 30; omega⟩, ⟨h0.1, by show r.p + 1 + 1 ≤ _; omega⟩⟩ ?_
    simp -implicitDefEqProofs only [go_sem]
    first | done | rfl | exact ⟨rfl, rfl⟩ | (simp; done) | trace_state
  · have q := pick_lt (ok 1 (by omega)) (n := 3) (by omega)
    refine WantM.intro (pickM 3 (ok 1 (by omega))) ?_
    obtain ⟨v, hv⟩ : ∃ v : Nat, pk (r.adv 1) 3 = v := ⟨(pk (r.adv 1) 3).toNat, by omega⟩
    obtain ⟨x, hx⟩ := get3 (-1) 0 1000001 (v := v) (by omega)
    have hlt : (v : Int) < 3 := by omega
    rw [hv]
    simp -implicitDefEqProofs only [go_sem, hlt, hx, Int.cast_ofNat_Int]
    refine RetAt.intro (MCl.avK { c with session := x } 1000001) [Dr.rr (r.adv 1).nx, (1000001, 0, one (MCl.ar { c with session := x }))] ⟨{ c with session := x }, (r.adv 1).nx, .a, ⟨hc.g, hc.p, by have := hc.l; show c.acks.length ≤ 30; omega⟩, ⟨h0.1, by show r.p + 1 + 1 ≤ _; omega⟩⟩ ?_
    simp -implicitDefEqProofs only [go_sem]
    first | done | rfl | exact ⟨rfl, rfl⟩ | (simp; done) | trace_state
  · have q := pick_lt (ok 1 (by omega)) (n := 5) (by omega)
    have w1 : IntKind.i64.wrap (pk (r.adv 1) 5 - 1) = pk (r.adv 1) 5 - 1 := wrS (by omega)
    refine WantM.intro (pickM 5 (ok 1 (by omega))) ?_
    simp -implicitDefEqProofs only [go_sem, w1]
    refine RetAt.intro (MCl.avK { c with phase := pk (r.adv 1) 5 - 1 } 1000001) [Dr.rr (r.adv 1).nx, (1000001, 0, one (MCl.ar { c with phase := pk (r.adv 1) 5 - 1 }))] ⟨{ c with phase := pk (r.adv 1) 5 - 1 }, (r.adv 1).nx, .a, ⟨hc.g, hc.p, by have := hc.l; show c.acks.length ≤ 30; omega⟩, ⟨h0.1, by show r.p + 1 + 1 ≤ _; omega⟩⟩ ?_
    simp -implicitDefEqProofs only [go_sem]
    first | done | rfl | exact ⟨rfl, rfl⟩ | (simp; done) | trace_state
  · have q := pick_lt (ok 1 (by omega)) (n := 260) (by omega)
    refine WantM.intro (pickM 260 (ok 1 (by omega))) ?_
    simp -implicitDefEqProofs only [go_sem]
    refine RetAt.intro (MCl.avK { c with goal := ⟨pk (r.adv 1) 260, dig0⟩ } 1000001) [Dr.rr (r.adv 1).nx, (1000001, 0, one (MCl.ar { c with goal := ⟨pk (r.adv 1) 260, dig0⟩ }))] ⟨{ c with goal := ⟨pk (r.adv 1) 260, dig0⟩ }, (r.adv 1).nx, .a, ⟨dig0_ok, hc.p, by have := hc.l; show c.acks.length ≤ 30; omega⟩, ⟨h0.1, by show r.p + 1 + 1 ≤ _; omega⟩⟩ ?_
    simp -implicitDefEqProofs only [go_sem]
    first | done | rfl | exact ⟨rfl, rfl⟩ | (simp; done) | trace_state
  · have q := pick_lt (ok 1 (by omega)) (n := 9) (by omega)
    have hl := hc.l
    have ha : ∀ x, _ := fun x => app_ok (E := intC) (l := c.acks) (xs := [x]) (b := 8) (n := 1000) (by simp; omega) (by omega) (by omega)
    refine WantM.intro (pickM 9 (ok 1 (by omega))) ?_
    simp -implicitDefEqProofs only [go_sem, ha]
    refine RetAt.intro (MCl.avK { c with acks := c.acks ++ [pk (r.adv 1) 9] } 0) [Dr.rr (r.adv 1).nx, (0, 0, one (MCl.ar { c with acks := c.acks ++ [pk (r.adv 1) 9] }))] ⟨{ c with acks := c.acks ++ [pk (r.adv 1) 9] }, (r.adv 1).nx, .b, ⟨hc.g, hc.p, by show (c.acks ++ [pk (r.adv 1) 9]).length ≤ 30; simp; omega⟩, ⟨h0.1, by show r.p + 1 + 1 ≤ _; omega⟩⟩ ?_
    simp -implicitDefEqProofs only [go_sem, List.map_append]
    first | done | rfl | exact ⟨rfl, rfl⟩ | (simp; done) | trace_state
  · have q := pick_lt (ok 1 (by omega)) (n := 4) (by omega)
    refine WantM.intro (pickM 4 (ok 1 (by omega))) ?_
    obtain ⟨v, hv⟩ : ∃ v : Nat, pk (r.adv 1) 4 = v := ⟨(pk (r.adv 1) 4).toNat, by omega⟩
    obtain ⟨x, hx⟩ := get4 0 (-1) 256 257 (v := v) (by omega)
    have hlt : (v : Int) < 4 := by omega
    have hd := dgR_ok (r.adv 2) (h1.adv 2)
    have hdp := (dgR_ok (r.adv 2) (n := r.p + 2) ⟨h0.1, Nat.le_refl _⟩).1
    rw [hv]
    simp -implicitDefEqProofs only [go_sem, hlt, hx, Int.cast_ofNat_Int]
    refine WantM.intro (c97_c (r.adv 2) ((h1.adv 2).le (by omega))) ?_
    simp -implicitDefEqProofs only [go_sem, hlt, hx, Int.cast_ofNat_Int]
    refine RetAt.intro (MCl.avK { c with pin := ⟨x, (dgR (r.adv 2)).1⟩ } 1000001) [Dr.rr (dgR (r.adv 2)).2, (1000001, 0, one (MCl.ar { c with pin := ⟨x, (dgR (r.adv 2)).1⟩ }))] ⟨{ c with pin := ⟨x, (dgR (r.adv 2)).1⟩ }, (dgR (r.adv 2)).2, .a, ⟨hc.g, dgR_dig _ ((h1.adv 2).le (by omega)), by have := hc.l; show c.acks.length ≤ 30; omega⟩, ⟨hdp.1, by have := hdp.2; omega⟩⟩ ?_
    simp -implicitDefEqProofs only [go_sem]
    first | done | rfl | exact ⟨rfl, rfl⟩ | (simp; done) | trace_state
  · skip
    refine RetAt.intro (MCl.avK c 1000001) [Dr.rr r.nx, (1000001, 0, one (MCl.ar c))] ⟨c, r.nx, .a, ⟨hc.g, hc.p, by have := hc.l; show c.acks.length ≤ 30; omega⟩, ⟨h0.1, by show r.p + 1 ≤ _; omega⟩⟩ ?_
    simp -implicitDefEqProofs only [go_sem]
    first | done | rfl | exact ⟨rfl, rfl⟩ | (simp; done) | trace_state
def PostCT (res : AV) (σ : Sig) : Prop := ∃ (c : MCl) (me : Int), (res = .tup [c.av [], vI me] ∧ σ = [(0, 0, one c.ar)]) ∧ DCl2 c
theorem c8_c (l : List UInt8) (hl : l.length ≤ maxLen) : ∃ res σ, PostCT res σ ∧ CallM Try.prog 8 [] [.ro 1 (l.map byteC)] res σ := by
  refine use_of dcF9 true Try.f8 ?_
  conv => enter [1]; reduce
  refine jvX Try.f8 24 [.cell 2 30, .tmp 3] PostCT (by kernel_rfl) (by decide +kernel) (by kernel_rfl) rfl ?_
  have h0 : (Dr.mk (l.take 2000) 0).ok 0 := ⟨List.length_take_le _ _, Nat.le_refl _⟩
  simp -implicitDefEqProofs only [go_sem]
  refine WantM.intro (c38_c l hl) ?_
  simp -implicitDefEqProofs only [go_sem]
  obtain ⟨res, σ, ⟨c, r, ⟨rfl, rfl⟩, hd, hro⟩, hcall⟩ := c39_c ⟨l.take 2000, 0⟩ (h0.le (by omega))
  refine WantM.intro hcall ?_
  have hro' : r.ok 1000 := hro.le (by show 0 + 100 ≤ _; omega)
  have okr : ∀ i, i ≤ 1000 → (r.adv i).ok 1000000000 := fun i hi => (hro'.adv i).le (by omega)
  simp -implicitDefEqProofs only [go_sem]
  refine ct_intro [2, 4, 5] [(10005, 1)] (fun s => ∃ (c : MCl) (R : Dr), R.ok 2000 ∧ DCl2 c ∧ s = ⟨24, [(2, .ptr 2 0 [] 15 0 0), (4, .ptr 4 0 [] 2 0 0), (5, .ptr 5 0 [] 15 0 0)], [(2, 0, one ⟨15, [zCl], 0, false⟩), (4, 0, one ⟨2, [R.cs], 0, false⟩), (5, 0, one ⟨15, [c.cs (.blk 10005 0 [] 1 0 c.acks.length)], 0, false⟩), (10005, 0, one c.ar)], 1⟩) ?_ ?_
  · simp -implicitDefEqProofs only [go_sem]
    refine WantM.intro (pickM 10 (okr 0 (by omega))) ?_
    simp -implicitDefEqProofs only [go_sem]
    refine condJ_intro (fun g => ?_) (fun g => ?_)
    · simp -implicitDefEqProofs only [go_sem, g]
      obtain ⟨res, σ, ⟨c', r', hf, hd', hr'⟩, hcall2⟩ := c41_c r.nx c (hro'.nx.le (by omega)) hd
      refine WantM.intro hcall2 ?_
      have hok : r'.ok 2000 := hr'.le (by have := hro'.2; show r.p + 1 + 100 ≤ _; omega)
      cases hf
      all_goals simp -implicitDefEqProofs only [go_sem]
      all_goals exact ⟨c', r', hok, hd', rfl⟩
    · simp -implicitDefEqProofs only [go_sem, g]
      exact ⟨c, r.nx, hro'.nx.le (by omega), hd.two, rfl⟩
  · clear hd hro hro' okr hcall
    rintro s ⟨c, R, hR, hc, rfl⟩
    have okR : ∀ i, i ≤ 1000 → (R.adv i).ok 1000000000 := fun i hi => (hR.adv i).le (by omega)
    have q2 := pick_lt (okR 1 (by omega)) (n := 2) (by omega)
    have w1 : IntKind.i64.wrap (pk (R.adv 1) 2 * 21) = pk (R.adv 1) 2 * 21 := wrS (by omega)
    simp -implicitDefEqProofs only [go_sem]
    refine WantM.intro (pickM 12 (okR 0 (by omega))) ?_
    simp -implicitDefEqProofs only [go_sem]
    refine condJ_intro (fun g => ?_) (fun g => ?_)
    · simp -implicitDefEqProofs only [go_sem, g]
      refine WantM.intro (pickM 2 (okR 1 (by omega))) ?_
      simp -implicitDefEqProofs only [go_sem, w1]
      refine RetAt.intro (.tup [c.av [], vI (pk (R.adv 1) 2 * 21)]) [(0, 0, one c.ar)] ⟨c, (pk (R.adv 1) 2 * 21), ⟨rfl, rfl⟩, hc⟩ ?_
      simp -implicitDefEqProofs only [go_sem]
      first | done | rfl | exact ⟨rfl, rfl⟩ | (simp; done) | trace_state
    · simp -implicitDefEqProofs only [go_sem, g]
      refine RetAt.intro (.tup [c.av [], vI 9]) [(0, 0, one c.ar)] ⟨c, 9, ⟨rfl, rfl⟩, hc⟩ ?_
      simp -implicitDefEqProofs only [go_sem]
      first | done | rfl | exact ⟨rfl, rfl⟩ | (simp; done) | trace_state
end Go.Proofs.Ytkhemolkhegppaa.E
