/-
  Contracts: clients that are drawn, spoilt.
-/
import Derived.Test.YtkhemolkhegppaaGreatF8
namespace Go.Proofs.YtkhemolkhegppaaGreat.E
open Go Go.RowKit
set_option maxHeartbeats 4000000
set_option maxRecDepth 10000
set_option linter.unusedSimpArgs false
set_option linter.unusedVariables false
set_option linter.unusedSectionVars false
def dcF9 : Dec := ⟨[(32, .cm [true, false]), (116, .cm [true])], [9, 10, 11], [22, 26, 38, 50, 57, 58, 59, 93, 207], false⟩


def MCl.avK (c : MCl) (k : Nat) : AV := .agg (c.cs (.blk k 0 [] 1 0 c.acks.length))
attribute [go_sem] MCl.avK
inductive SpC (c : MCl) (r : Dr) : AV → Sig → Prop
  | a : SpC c r (c.avK 1000001) [r.rr, (1000001, 0, one c.ar)]
  | b : SpC c r (c.avK 0) [r.rr, (0, 0, one c.ar)]
structure DCl2 (c : MCl) : Prop where
  g : c.goal.root.ok
  p : c.pin.root.ok
  l : c.acks.length ≤ 30
def PostSC (r : Dr) (res : AV) (σ : Sig) : Prop := ∃ (c : MCl) (r' : Dr), SpC c r' res σ ∧ DCl2 c ∧ r'.ok (r.p + 100)
theorem DCl.two {c : MCl} (h : DCl c) : DCl2 c := ⟨h.g, h.p, by have := h.l; omega⟩
theorem c118_c (r : Dr) (c : MCl) (h1 : r.ok 700000000) (hc : DCl c) : ∃ res σ, PostSC r res σ ∧ CallM Tryz.prog 118 [r.rr, (1000001, 0, one c.ar)] [vD, c.avK 1000001] res σ := by
  refine use_of dcF9 false Tryz.f118 ?_
  conv => enter [1]; reduce
  refine jvX Tryz.f118 59 [.cell 4 52] (PostSC r) (by kernel_rfl) (by decide +kernel) (by kernel_rfl) rfl ?_
  have hp := h1.2
  have ok : ∀ i, i ≤ 1000 → (r.adv i).ok 1000000000 := fun i hi => (h1.adv i).le (by omega)
  have h0 := h1.le (b := 1000000000) (by omega)
  have p8 := pick_lt h0 (n := 8) (by omega)
  simp -implicitDefEqProofs only [go_sem]
  refine WantM.intro (pickM 8 h0) ?_
  simp -implicitDefEqProofs only [go_sem]
  generalize hK : pk r 8 = K at *
  have hk8 : K = 0 ∨ K = 1 ∨ K = 2 ∨ K = 3 ∨ K = 4 ∨ K = 5 ∨ K = 6 ∨ K = 7 := by omega
  rcases hk8 with rfl | rfl | rfl | rfl | rfl | rfl | rfl | rfl
  all_goals simp -implicitDefEqProofs only [go_sem, condJ_true, condJ_false]
  · have q := pick_lt (ok 1 (by omega)) (n := 9) (by omega)
    refine WantM.intro (pickM 9 (ok 1 (by omega))) ?_
    simp -implicitDefEqProofs only [go_sem]
    refine RetAt.intro (MCl.avK { c with need := pk (r.adv 1) 9 } 1000001) [Dr.rr (r.adv 1).nx, (1000001, 0, one (MCl.ar { c with need := pk (r.adv 1) 9 }))] ⟨{ c with need := pk (r.adv 1) 9 }, (r.adv 1).nx, .a, ⟨hc.g, hc.p, by have := hc.l; show c.acks.length ≤ 30; omega⟩, ⟨h0.1, by show r.p + 1 + 1 ≤ _; omega⟩⟩ ?_
    simp -implicitDefEqProofs only [go_sem]
    first | done | rfl | exact ⟨rfl, rfl⟩ | (simp; done) | trace_state
  · have q := pick_lt (ok 1 (by omega)) (n := 9) (by omega)
    refine WantM.intro (pickM 9 (ok 1 (by omega))) ?_
    simp -implicitDefEqProofs only [go_sem]
    refine RetAt.intro (MCl.avK { c with many := pk (r.adv 1) 9 } 1000001) [Dr.rr (r.adv 1).nx, (1000001, 0, one (MCl.ar { c with many := pk (r.adv 1) 9 }))] ⟨{ c with many := pk (r.adv 1) 9 }, (r.adv 1).nx, .a, ⟨hc.g, hc.p, by have := hc.l; show c.acks.length ≤ 30; omega⟩, ⟨h0.1, by show r.p + 1 + 1 ≤ _; omega⟩⟩ ?_
    simp -implicitDefEqProofs only [go_sem]
    first | done | rfl | exact ⟨rfl, rfl⟩ | (simp; done) | trace_state
  · have q := pick_lt (ok 1 (by omega)) (n := 3) (by omega)
    refine WantM.intro (pickM 3 (ok 1 (by omega))) ?_
    obtain ⟨v, hv⟩ : ∃ v : Nat, pk (r.adv 1) 3 = v := ⟨(pk (r.adv 1) 3).toNat, by omega⟩
    obtain ⟨x, hx⟩ := get3 (-1) 0 1000001 (v := v) (by omega)
    have hlt : (v : Int) < 3 := by omega
    rw [hv]
    simp -implicitDefEqProofs only [go_sem, hlt, hx, Int.cast_ofNat_Int]
    refine RetAt.intro (MCl.avK { c with session := x } 1000001) [Dr.rr (r.adv 1).nx, (1000001, 0, one (MCl.ar { c with session := x }))] ⟨{ c with session := x }, (r.adv 1).nx, .a, ⟨hc.g, hc.p, by have := hc.l; show c.acks.length ≤ 30; omega⟩, ⟨h0.1, by show r.p + 1 + 1 ≤ _; omega⟩⟩ ?_
    simp -implicitDefEqProofs only [go_sem]
    first | done | rfl | exact ⟨rfl, rfl⟩ | (simp; done) | trace_state
  · have q := pick_lt (ok 1 (by omega)) (n := 5) (by omega)
    have w1 : IntKind.i64.wrap (pk (r.adv 1) 5 - 1) = pk (r.adv 1) 5 - 1 := wrS (by omega)
    refine WantM.intro (pickM 5 (ok 1 (by omega))) ?_
    simp -implicitDefEqProofs only [go_sem, w1]
    refine RetAt.intro (MCl.avK { c with phase := pk (r.adv 1) 5 - 1 } 1000001) [Dr.rr (r.adv 1).nx, (1000001, 0, one (MCl.ar { c with phase := pk (r.adv 1) 5 - 1 }))] ⟨{ c with phase := pk (r.adv 1) 5 - 1 }, (r.adv 1).nx, .a, ⟨hc.g, hc.p, by have := hc.l; show c.acks.length ≤ 30; omega⟩, ⟨h0.1, by show r.p + 1 + 1 ≤ _; omega⟩⟩ ?_
    simp -implicitDefEqProofs only [go_sem]
    first | done | rfl | exact ⟨rfl, rfl⟩ | (simp; done) | trace_state
  · have q := pick_lt (ok 1 (by omega)) (n := 260) (by omega)
    refine WantM.intro (pickM 260 (ok 1 (by omega))) ?_
    simp -implicitDefEqProofs only [go_sem]
    refine RetAt.intro (MCl.avK { c with goal := ⟨pk (r.adv 1) 260, dig0⟩ } 1000001) [Dr.rr (r.adv 1).nx, (1000001, 0, one (MCl.ar { c with goal := ⟨pk (r.adv 1) 260, dig0⟩ }))] ⟨{ c with goal := ⟨pk (r.adv 1) 260, dig0⟩ }, (r.adv 1).nx, .a, ⟨dig0_ok, hc.p, by have := hc.l; show c.acks.length ≤ 30; omega⟩, ⟨h0.1, by show r.p + 1 + 1 ≤ _; omega⟩⟩ ?_
    simp -implicitDefEqProofs only [go_sem]
    first | done | rfl | exact ⟨rfl, rfl⟩ | (simp; done) | trace_state
  · have q := pick_lt (ok 1 (by omega)) (n := 9) (by omega)
    have hl := hc.l
    have ha : ∀ x, _ := fun x => app_ok (E := intC) (l := c.acks) (xs := [x]) (b := 8) (n := 1000) (by simp; omega) (by omega) (by omega)
    refine WantM.intro (pickM 9 (ok 1 (by omega))) ?_
    simp -implicitDefEqProofs only [go_sem, ha]
    refine RetAt.intro (MCl.avK { c with acks := c.acks ++ [pk (r.adv 1) 9] } 0) [Dr.rr (r.adv 1).nx, (0, 0, one (MCl.ar { c with acks := c.acks ++ [pk (r.adv 1) 9] }))] ⟨{ c with acks := c.acks ++ [pk (r.adv 1) 9] }, (r.adv 1).nx, .b, ⟨hc.g, hc.p, by show (c.acks ++ [pk (r.adv 1) 9]).length ≤ 30; simp; omega⟩, ⟨h0.1, by show r.p + 1 + 1 ≤ _; omega⟩⟩ ?_
    simp -implicitDefEqProofs only [go_sem, List.map_append]
    first | done | rfl | exact ⟨rfl, rfl⟩ | (simp; done) | trace_state
  · have q := pick_lt (ok 1 (by omega)) (n := 4) (by omega)
    refine WantM.intro (pickM 4 (ok 1 (by omega))) ?_
    obtain ⟨v, hv⟩ : ∃ v : Nat, pk (r.adv 1) 4 = v := ⟨(pk (r.adv 1) 4).toNat, by omega⟩
    obtain ⟨x, hx⟩ := get4 0 (-1) 256 257 (v := v) (by omega)
    have hlt : (v : Int) < 4 := by omega
    have hd := dgR_ok (r.adv 2) (h1.adv 2)
    have hdp := (dgR_ok (r.adv 2) (n := r.p + 2) ⟨h0.1, Nat.le_refl _⟩).1
    rw [hv]
    simp -implicitDefEqProofs only [go_sem, hlt, hx, Int.cast_ofNat_Int]
    refine WantM.intro (c116_c (r.adv 2) ((h1.adv 2).le (by omega))) ?_
    simp -implicitDefEqProofs only [go_sem, hlt, hx, Int.cast_ofNat_Int]
    refine RetAt.intro (MCl.avK { c with pin := ⟨x, (dgR (r.adv 2)).1⟩ } 1000001) [Dr.rr (dgR (r.adv 2)).2, (1000001, 0, one (MCl.ar { c with pin := ⟨x, (dgR (r.adv 2)).1⟩ }))] ⟨{ c with pin := ⟨x, (dgR (r.adv 2)).1⟩ }, (dgR (r.adv 2)).2, .a, ⟨hc.g, dgR_dig _ ((h1.adv 2).le (by omega)), by have := hc.l; show c.acks.length ≤ 30; omega⟩, ⟨hdp.1, by have := hdp.2; omega⟩⟩ ?_
    simp -implicitDefEqProofs only [go_sem]
    first | done | rfl | exact ⟨rfl, rfl⟩ | (simp; done) | trace_state
  · skip
    refine RetAt.intro (MCl.avK c 1000001) [Dr.rr r.nx, (1000001, 0, one (MCl.ar c))] ⟨c, r.nx, .a, ⟨hc.g, hc.p, by have := hc.l; show c.acks.length ≤ 30; omega⟩, ⟨h0.1, by show r.p + 1 ≤ _; omega⟩⟩ ?_
    simp -implicitDefEqProofs only [go_sem]
    first | done | rfl | exact ⟨rfl, rfl⟩ | (simp; done) | trace_state
def PostCT (res : AV) (σ : Sig) : Prop := ∃ (c : MCl) (me : Int), (res = .tup [c.av [], vI me] ∧ σ = [(0, 0, one c.ar)]) ∧ DCl2 c
end Go.Proofs.YtkhemolkhegppaaGreat.E
