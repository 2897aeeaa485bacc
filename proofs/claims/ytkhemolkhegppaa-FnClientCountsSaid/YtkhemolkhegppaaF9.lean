/-
  Contracts: clients that are drawn, spoilt.
-/
import Derived.Test.YtkhemolkhegppaaF8
namespace Go.Proofs.Ytkhemolkhegppaa.E
open Go Go.RowKit
set_option maxHeartbeats 4000000
set_option maxRecDepth 10000
set_option linter.unusedSimpArgs false
set_option linter.unusedVariables false
set_option linter.unusedSectionVars false
@[go_sem] def c41 : SC J := .sq [0, 3, 4] (.reg [.p (.bx 3 30 (.tmp 1)), .p (.al 4 30)])
 (.sq [0, 3, 4, 5] (.reg [.p (.mv 6 (.tmp 0)), .p (.cm (some 7) 40 [true, false] [.tmp 6, .const (.int .i64 8)] [92, 3]), .p (.as 5 (.tmp 7))])
  (.sq [0, 3, 4, 5] (.sq [0, 3, 4, 5, 9] (.reg [.p (.mv 8 (.tmp 5)), .p (.bn 9 .eql 3 (.tmp 8) (.const (.int .i64 0)) 3)])
    (.cond (.tmp 9)
     (.reg [.p (.mv 10 (.tmp 0)), .p (.cm (some 11) 40 [true, false] [.tmp 10, .const (.int .i64 9)] [92, 3]), .p (.fa 12 30 (.tmp 3) 0), .p (.st 3 (.tmp 12) (.tmp 11))])
     (.skip)))
   (.sq [0, 3, 4, 5] (.sq [0, 3, 4, 5, 14] (.reg [.p (.mv 13 (.tmp 5)), .p (.bn 14 .eql 3 (.tmp 13) (.const (.int .i64 1)) 3)])
     (.cond (.tmp 14)
      (.reg [.p (.mv 15 (.tmp 0)), .p (.cm (some 16) 40 [true, false] [.tmp 15, .const (.int .i64 9)] [92, 3]), .p (.fa 17 30 (.tmp 3) 1), .p (.st 3 (.tmp 17) (.tmp 16))])
      (.skip)))
    (.sq [0, 3, 4, 5] (.sq [0, 3, 4, 5, 19] (.reg [.p (.mv 18 (.tmp 5)), .p (.bn 19 .eql 3 (.tmp 18) (.const (.int .i64 2)) 3)])
      (.cond (.tmp 19)
       (.reg [.p (.bs 20 28 3 [(0, .const (.int .i64 (-1))), (1, .const (.int .i64 0)), (2, .const (.int .i64 1000001))]), .p (.mv 21 (.tmp 0)), .p (.cm (some 22) 40 [true, false] [.tmp 21, .const (.int .i64 3)] [92, 3]), .p (.ia 23 28 (.tmp 20) (.tmp 22)), .p (.ld 24 3 (.tmp 23)), .p (.fa 25 30 (.tmp 3) 2), .p (.st 3 (.tmp 25) (.tmp 24))])
       (.skip)))
     (.sq [0, 3, 4, 5] (.sq [0, 3, 4, 5, 27] (.reg [.p (.mv 26 (.tmp 5)), .p (.bn 27 .eql 3 (.tmp 26) (.const (.int .i64 3)) 3)])
       (.cond (.tmp 27)
        (.reg [.p (.mv 28 (.tmp 0)), .p (.cm (some 29) 40 [true, false] [.tmp 28, .const (.int .i64 5)] [92, 3]), .p (.bn 30 .sub 3 (.tmp 29) (.const (.int .i64 1)) 3), .p (.fa 31 30 (.tmp 3) 3), .p (.st 3 (.tmp 31) (.tmp 30))])
        (.skip)))
      (.sq [0, 3, 4, 5] (.sq [0, 3, 4, 5, 33] (.reg [.p (.mv 32 (.tmp 5)), .p (.bn 33 .eql 3 (.tmp 32) (.const (.int .i64 4)) 3)])
        (.cond (.tmp 33)
         (.reg [.p (.mv 34 (.tmp 0)), .p (.cm (some 35) 40 [true, false] [.tmp 34, .const (.int .i64 260)] [92, 3]), .p (.bd 36 27 [(0, .tmp 35)]), .p (.fa 37 30 (.tmp 3) 4), .p (.st 27 (.tmp 37) (.tmp 36))])
         (.skip)))
       (.sq [0, 3, 4, 5] (.sq [0, 3, 4, 5, 39] (.reg [.p (.mv 38 (.tmp 5)), .p (.bn 39 .eql 3 (.tmp 38) (.const (.int .i64 5)) 3)])
         (.cond (.tmp 39)
          (.dr (.pu 0 (.pu 1 (.pu 2 (.ef 3 [1] (.ef 4 [1] (.ef 5 [] (.pu 6 (.ef 7 [] (.nil))))))))) [[], [0], [], [2], [2, 3], [0, 1, 2, 3, 4], [0, 1, 2, 3, 4, 5], [0, 1, 2, 3, 4, 5, 6]] [.p (.fa 40 30 (.tmp 3) 5), .p (.ld 41 28 (.tmp 40)), .p (.mv 42 (.tmp 0)), .p (.cm (some 43) 40 [true, false] [.tmp 42, .const (.int .i64 9)] [92, 3]), .p (.bs 44 28 1 [(0, .tmp 43)]), .p (.ap (some 45) 28 28 (.tmp 41) (.tmp 44)), .p (.fa 46 30 (.tmp 3) 5), .p (.st 28 (.tmp 46) (.tmp 45))] [[], [0], [], [2], [3], [1, 4, 3], [0, 1, 2, 3, 4, 5], [6, 5, 5, 0, 1, 2, 3, 4, 5]])
          (.skip)))
        (.sq [3, 4] (.sq [0, 3, 4, 48] (.reg [.p (.mv 47 (.tmp 5)), .p (.bn 48 .eql 3 (.tmp 47) (.const (.int .i64 6)) 3)])
          (.cond (.tmp 48)
           (.dr (.pu 0 (.pu 1 (.pu 5 (.ef 2 [] (.pu 3 (.pu 4 (.ef 6 [3, 4] (.pu 7 (.pu 8 (.ef 9 [] (.nil))))))))))) [[], [], [1], [0, 1, 2], [0, 1, 2, 3], [], [1, 2, 5], [0, 1, 2, 3, 4, 5, 6], [0, 1, 2, 3, 4, 5, 6, 7], [0, 1, 2, 3, 4, 5, 6, 7, 8]] [.p (.bo 49 28 4 [(0, .const (.int .i64 0)), (1, .const (.int .i64 (-1))), (2, .const (.int .i64 256)), (3, .const (.int .i64 257))]), .p (.mv 50 (.tmp 0)), .p (.cm (some 51) 40 [true, false] [.tmp 50, .const (.int .i64 4)] [92, 3]), .p (.ia 52 28 (.tmp 49) (.tmp 51)), .p (.ld 53 3 (.tmp 52)), .p (.mv 54 (.tmp 0)), .p (.cm (some 55) 97 [true] [.tmp 54] [92]), .p (.bd 56 27 [(0, .tmp 53), (1, .tmp 55)]), .p (.fa 57 30 (.tmp 3) 6), .p (.st 27 (.tmp 57) (.tmp 56))] [[], [], [1], [0, 2], [3], [], [5, 2], [4, 6], [0, 1, 2, 3, 4, 5, 6, 7], [8, 7, 6, 0, 1, 2, 3, 4, 5, 6, 7]])
           (.skip)))
         (.sq [4] (.reg [.p (.ld 58 30 (.tmp 3)), .p (.st 30 (.tmp 4) (.tmp 58))])
          (.ret))))))))))
theorem b41 : BodyOK Try.prog 41 c41 59 [.cell 4 30] := ⟨Try.f41, by kernel_rfl, by kernel_rfl, by kernel_rfl, by kernel_rfl, by kernel_rfl⟩
set_option maxRecDepth 100000 in
@[go_sem] theorem k41_0 : chkT (.pu 0 (.pu 1 (.pu 5 (.ef 2 [] (.pu 3 (.pu 4 (.ef 6 [3, 4] (.pu 7 (.pu 8 (.ef 9 [] (.nil))))))))))) [[], [], [1], [0, 1, 2], [0, 1, 2, 3], [], [1, 2, 5], [0, 1, 2, 3, 4, 5, 6], [0, 1, 2, 3, 4, 5, 6, 7], [0, 1, 2, 3, 4, 5, 6, 7, 8]] (soI [.p (.bo 49 28 4 [(0, .const (.int .i64 0)), (1, .const (.int .i64 (-1))), (2, .const (.int .i64 256)), (3, .const (.int .i64 257))]), .p (.mv 50 (.tmp 0)), .p (.cm (some 51) 40 [true, false] [.tmp 50, .const (.int .i64 4)] [92, 3]), .p (.ia 52 28 (.tmp 49) (.tmp 51)), .p (.ld 53 3 (.tmp 52)), .p (.mv 54 (.tmp 0)), .p (.cm (some 55) 97 [true] [.tmp 54] [92]), .p (.bd 56 27 [(0, .tmp 53), (1, .tmp 55)]), .p (.fa 57 30 (.tmp 3) 6), .p (.st 27 (.tmp 57) (.tmp 56))]) [[], [], [1], [0, 2], [3], [], [5, 2], [4, 6], [0, 1, 2, 3, 4, 5, 6, 7], [8, 7, 6, 0, 1, 2, 3, 4, 5, 6, 7]] = true := by kernel_rfl
set_option maxRecDepth 100000 in
@[go_sem] theorem k41_1 : chkT (.pu 0 (.pu 1 (.pu 2 (.ef 3 [1] (.ef 4 [1] (.ef 5 [] (.pu 6 (.ef 7 [] (.nil))))))))) [[], [0], [], [2], [2, 3], [0, 1, 2, 3, 4], [0, 1, 2, 3, 4, 5], [0, 1, 2, 3, 4, 5, 6]] (soI [.p (.fa 40 30 (.tmp 3) 5), .p (.ld 41 28 (.tmp 40)), .p (.mv 42 (.tmp 0)), .p (.cm (some 43) 40 [true, false] [.tmp 42, .const (.int .i64 9)] [92, 3]), .p (.bs 44 28 1 [(0, .tmp 43)]), .p (.ap (some 45) 28 28 (.tmp 41) (.tmp 44)), .p (.fa 46 30 (.tmp 3) 5), .p (.st 28 (.tmp 46) (.tmp 45))]) [[], [0], [], [2], [3], [1, 4, 3], [0, 1, 2, 3, 4, 5], [6, 5, 5, 0, 1, 2, 3, 4, 5]] = true := by kernel_rfl

@[go_sem] def c8 : SC J := .sq [0, 2] (.reg [.p (.al 2 30), .p (.as 3 (.const (.int .i64 0)))])
 (.sq [2, 4] (.reg [.p (.mv 6 (.tmp 0)), .p (.cm (some 7) 38 [false] [.tmp 6] [22]), .p (.as 4 (.tmp 7))])
  (.sq [2, 4, 5] (.reg [.p (.mv 8 (.tmp 4)), .p (.cm (some 9) 39 [true] [.tmp 8] [92]), .p (.al 5 30), .p (.st 30 (.tmp 5) (.tmp 9))])
   (.ct (.sq [2, 4, 5, 12] (.reg [.p (.mv 10 (.tmp 4)), .p (.cm (some 11) 40 [true, false] [.tmp 10, .const (.int .i64 10)] [92, 3]), .p (.bn 12 .eql 3 (.tmp 11) (.const (.int .i64 0)) 3)])
     (.cond (.tmp 12)
      (.reg [.p (.mv 13 (.tmp 4)), .p (.ld 14 30 (.tmp 5)), .p (.cm (some 15) 41 [true, true] [.tmp 13, .tmp 14] [92, 30]), .p (.st 30 (.tmp 5) (.tmp 15))])
      (.skip)))
    (.sq [2, 5] (.sq [2, 4, 5, 18] (.reg [.p (.mv 16 (.tmp 4)), .p (.cm (some 17) 40 [true, false] [.tmp 16, .const (.int .i64 12)] [92, 3]), .p (.bn 18 .eql 3 (.tmp 17) (.const (.int .i64 0)) 3)])
      (.cond (.tmp 18)
       (.sq [2, 3] (.dr (.pu 0 (.pu 1 (.ef 2 [0] (.pu 3 (.ef 4 [] (.pu 5 (.nil))))))) [[], [], [1], [1, 2], [0, 1, 2], [0, 1, 2, 3, 4]] [.p (.ld 19 30 (.tmp 5)), .p (.mv 20 (.tmp 4)), .p (.cm (some 21) 40 [true, false] [.tmp 20, .const (.int .i64 2)] [92, 3]), .p (.bn 22 .mul 3 (.tmp 21) (.const (.int .i64 21)) 3), .p (.st 30 (.tmp 2) (.tmp 19)), .p (.as 3 (.tmp 22))] [[], [], [1], [2], [0, 2, 0], [3, 4, 0, 1, 2, 3, 4]])
        (.ret))
       (.skip)))
     (.sq [2, 3] (.reg [.p (.ld 23 30 (.tmp 5)), .p (.st 30 (.tmp 2) (.tmp 23)), .p (.as 3 (.const (.int .i64 9)))])
      (.ret))))))
theorem b8 : BodyOK Try.prog 8 c8 24 [.cell 2 30, .tmp 3] := ⟨Try.f8, by kernel_rfl, by kernel_rfl, by kernel_rfl, by kernel_rfl, by kernel_rfl⟩
set_option maxRecDepth 100000 in
@[go_sem] theorem k8_0 : chkT (.pu 0 (.pu 1 (.ef 2 [0] (.pu 3 (.ef 4 [] (.pu 5 (.nil))))))) [[], [], [1], [1, 2], [0, 1, 2], [0, 1, 2, 3, 4]] (soI [.p (.ld 19 30 (.tmp 5)), .p (.mv 20 (.tmp 4)), .p (.cm (some 21) 40 [true, false] [.tmp 20, .const (.int .i64 2)] [92, 3]), .p (.bn 22 .mul 3 (.tmp 21) (.const (.int .i64 21)) 3), .p (.st 30 (.tmp 2) (.tmp 19)), .p (.as 3 (.tmp 22))]) [[], [], [1], [2], [0, 2, 0], [3, 4, 0, 1, 2, 3, 4]] = true := by kernel_rfl

def MCl.avK (c : MCl) (k : Nat) : AV := .agg (c.cs (.blk k 0 [] 1 0 c.acks.length))
attribute [go_sem] MCl.avK
inductive SpC (c : MCl) (r : Dr) : AV → Sig → Prop
  | a : SpC c r (c.avK 1000001) [r.rr, (1000001, 0, one c.ar)]
  | b : SpC c r (c.avK 0) [r.rr, (0, 0, one c.ar)]
structure DCl2 (c : MCl) : Prop where
  g : c.goal.root.ok
  p : c.pin.root.ok
  l : c.acks.length ≤ 30
def PostSC (r : Dr) (res : AV) (σ : Sig) : Prop := ∃ (c : MCl) (r' : Dr), SpC c r' res σ ∧ DCl2 c ∧ r'.ok (r.p + 100)
theorem DCl.two {c : MCl} (h : DCl c) : DCl2 c := ⟨h.g, h.p, by have := h.l; omega⟩
theorem c41_c (r : Dr) (c : MCl) (h1 : r.ok 700000000) (hc : DCl c) : ∃ res σ, PostSC r res σ ∧ CallM Try.prog 41 [r.rr, (1000001, 0, one c.ar)] [vD, c.avK 1000001] res σ := by
  refine callX_of_jv b41 rfl (PostSC r) rfl ?_
  have hp := h1.2
  have ok : ∀ i, i ≤ 1000 → (r.adv i).ok 1000000000 := fun i hi => (h1.adv i).le (by omega)
  have h0 := h1.le (b := 1000000000) (by omega)
  have p8 := pick_lt h0 (n := 8) (by omega)
  simp -implicitDefEqProofs only [go_sem]
  refine WantM.intro (pickM 8 h0) ?_
  simp -implicitDefEqProofs only [go_sem]
  generalize hK : pk r 8 = K at *
  have hk8 : K = 0 ∨ K = 1 ∨ K = 2 ∨ K = 3 ∨ K = 4 ∨ K = 5 ∨ K = 6 ∨ K = 7 := by omega
  rcases hk8 with rfl | rfl | rfl | rfl | rfl | rfl | rfl | rfl
  all_goals simp -implicitDefEqProofs only [go_sem, condJ_true, condJ_false]
  · have q := pick_lt (ok 1 (by omega)) (n := 9) (by omega)
    refine WantM.intro (pickM 9 (ok 1 (by omega))) ?_
    simp -implicitDefEqProofs only [go_sem]
    refine RetAt.intro (MCl.avK { c with need := pk (r.adv 1) 9 } 1000001) [Dr.rr (r.adv 1).nx, (1000001, 0, one (MCl.ar { c with need := pk (r.adv 1) 9 }))] ⟨{ c with need := pk (r.adv 1) 9 }, (r.adv 1).nx, .a, ⟨hc.g, hc.p, by have := hc.l; show c.acks.length ≤ 30; omega⟩, ⟨h0.1, by show r.p + 1 + 1 ≤ _; omega⟩⟩ ?_
    simp -implicitDefEqProofs only [go_sem]
    first | done | rfl | exact ⟨rfl, rfl⟩ | (simp; done) | trace_state
  · have q := pick_lt (ok 1 (by omega)) (n := 9) (by omega)
    refine WantM.intro (pickM 9 (ok 1 (by omega))) ?_
    simp -implicitDefEqProofs only [go_sem]
    refine RetAt.intro (MCl.avK { c with many := pk (r.adv 1) 9 } 1000001) [Dr.rr (r.adv 1).nx, (1000001, 0, one (MCl.ar { c with many := pk (r.adv 1) 9 }))] ⟨{ c with many := pk (r.adv 1) 9 }, (r.adv 1).nx, .a, ⟨hc.g, hc.p, by have := hc.l; show c.acks.length ≤ 30; omega⟩, ⟨h0.1, by show r.p + 1 + 1 ≤ _; omega⟩⟩ ?_
    simp -implicitDefEqProofs only [go_sem]
    first | done | rfl | exact ⟨rfl, rfl⟩ | (simp; done) | trace_state
  · have q := pick_lt (ok 1 (by omega)) (n := 3) (by omega)
    refine WantM.intro (pickM 3 (ok 1 (by omega))) ?_
    obtain ⟨v, hv⟩ : ∃ v : Nat, pk (r.adv 1) 3 = v := ⟨(pk (r.adv 1) 3).toNat, by omega⟩
    obtain ⟨x, hx⟩ := get3 (-1) 0 1000001 (v := v) (by omega)
    have hlt : (v : Int) < 3 := by omega
    rw [hv]
    simp -implicitDefEqProofs only [go_sem, hlt, hx, Int.cast_ofNat_Int]
    refine RetAt.intro (MCl.avK { c with session := x } 1000001) [Dr.rr (r.adv 1).nx, (1000001, 0, one (MCl.ar { c with session := x }))] ⟨{ c with session := x }, (r.adv 1).nx, .a, ⟨hc.g, hc.p, by have := hc.l; show c.acks.length ≤ 30; omega⟩, ⟨h0.1, by show r.p + 1 + 1 ≤ _; omega⟩⟩ ?_
    simp -implicitDefEqProofs only [go_sem]
    first | done | rfl | exact ⟨rfl, rfl⟩ | (simp; done) | trace_state
  · have q := pick_lt (ok 1 (by omega)) (n := 5) (by omega)
    have w1 : IntKind.i64.wrap (pk (r.adv 1) 5 - 1) = pk (r.adv 1) 5 - 1 := wrS (by omega)
    refine WantM.intro (pickM 5 (ok 1 (by omega))) ?_
    simp -implicitDefEqProofs only [go_sem, w1]
    refine RetAt.intro (MCl.avK { c with phase := pk (r.adv 1) 5 - 1 } 1000001) [Dr.rr (r.adv 1).nx, (1000001, 0, one (MCl.ar { c with phase := pk (r.adv 1) 5 - 1 }))] ⟨{ c with phase := pk (r.adv 1) 5 - 1 }, (r.adv 1).nx, .a, ⟨hc.g, hc.p, by have := hc.l; show c.acks.length ≤ 30; omega⟩, ⟨h0.1, by show r.p + 1 + 1 ≤ _; omega⟩⟩ ?_
    simp -implicitDefEqProofs only [go_sem]
    first | done | rfl | exact ⟨rfl, rfl⟩ | (simp; done) | trace_state
  · have q := pick_lt (ok 1 (by omega)) (n := 260) (by omega)
    refine WantM.intro (pickM 260 (ok 1 (by omega))) ?_
    simp -implicitDefEqProofs only [go_sem]
    refine RetAt.intro (MCl.avK { c with goal := ⟨pk (r.adv 1) 260, dig0⟩ } 1000001) [Dr.rr (r.adv 1).nx, (1000001, 0, one (MCl.ar { c with goal := ⟨pk (r.adv 1) 260, dig0⟩ }))] ⟨{ c with goal := ⟨pk (r.adv 1) 260, dig0⟩ }, (r.adv 1).nx, .a, ⟨dig0_ok, hc.p, by have := hc.l; show c.acks.length ≤ 30; omega⟩, ⟨h0.1, by show r.p + 1 + 1 ≤ _; omega⟩⟩ ?_
    simp -implicitDefEqProofs only [go_sem]
    first | done | rfl | exact ⟨rfl, rfl⟩ | (simp; done) | trace_state
  · have q := pick_lt (ok 1 (by omega)) (n := 9) (by omega)
    have hl := hc.l
    have ha : ∀ x, _ := fun x => app_ok (E := intC) (l := c.acks) (xs := [x]) (b := 8) (n := 1000) (by simp; omega) (by omega) (by omega)
    refine WantM.intro (pickM 9 (ok 1 (by omega))) ?_
    simp -implicitDefEqProofs only [go_sem, ha]
    refine RetAt.intro (MCl.avK { c with acks := c.acks ++ [pk (r.adv 1) 9] } 0) [Dr.rr (r.adv 1).nx, (0, 0, one (MCl.ar { c with acks := c.acks ++ [pk (r.adv 1) 9] }))] ⟨{ c with acks := c.acks ++ [pk (r.adv 1) 9] }, (r.adv 1).nx, .b, ⟨hc.g, hc.p, by show (c.acks ++ [pk (r.adv 1) 9]).length ≤ 30; simp; omega⟩, ⟨h0.1, by show r.p + 1 + 1 ≤ _; omega⟩⟩ ?_
    simp -implicitDefEqProofs only [go_sem, List.map_append]
    first | done | rfl | exact ⟨rfl, rfl⟩ | (simp; done) | trace_state
  · have q := pick_lt (ok 1 (by omega)) (n := 4) (by omega)
    refine WantM.intro (pickM 4 (ok 1 (by omega))) ?_
    obtain ⟨v, hv⟩ : ∃ v : Nat, pk (r.adv 1) 4 = v := ⟨(pk (r.adv 1) 4).toNat, by omega⟩
    obtain ⟨x, hx⟩ := get4 0 (-1) 256 257 (v := v) (by omega)
    have hlt : (v : Int) < 4 := by omega
    have hd := dgR_ok (r.adv 2) (h1.adv 2)
    have hdp := (dgR_ok (r.adv 2) (n := r.p + 2) ⟨h0.1, Nat.le_refl _⟩).1
    rw [hv]
    simp -implicitDefEqProofs only [go_sem, hlt, hx, Int.cast_ofNat_Int]
    refine WantM.intro (c97_c (r.adv 2) ((h1.adv 2).le (by omega))) ?_
    simp -implicitDefEqProofs only [go_sem, hlt, hx, Int.cast_ofNat_Int]
    refine RetAt.intro (MCl.avK { c with pin := ⟨x, (dgR (r.adv 2)).1⟩ } 1000001) [Dr.rr (dgR (r.adv 2)).2, (1000001, 0, one (MCl.ar { c with pin := ⟨x, (dgR (r.adv 2)).1⟩ }))] ⟨{ c with pin := ⟨x, (dgR (r.adv 2)).1⟩ }, (dgR (r.adv 2)).2, .a, ⟨hc.g, dgR_dig _ ((h1.adv 2).le (by omega)), by have := hc.l; show c.acks.length ≤ 30; omega⟩, ⟨hdp.1, by have := hdp.2; omega⟩⟩ ?_
    simp -implicitDefEqProofs only [go_sem]
    first | done | rfl | exact ⟨rfl, rfl⟩ | (simp; done) | trace_state
  · skip
    refine RetAt.intro (MCl.avK c 1000001) [Dr.rr r.nx, (1000001, 0, one (MCl.ar c))] ⟨c, r.nx, .a, ⟨hc.g, hc.p, by have := hc.l; show c.acks.length ≤ 30; omega⟩, ⟨h0.1, by show r.p + 1 ≤ _; omega⟩⟩ ?_
    simp -implicitDefEqProofs only [go_sem]
    first | done | rfl | exact ⟨rfl, rfl⟩ | (simp; done) | trace_state
def PostCT (res : AV) (σ : Sig) : Prop := ∃ (c : MCl) (me : Int), (res = .tup [c.av [], vI me] ∧ σ = [(0, 0, one c.ar)]) ∧ DCl2 c
theorem c8_c (l : List UInt8) (hl : l.length ≤ maxLen) : ∃ res σ, PostCT res σ ∧ CallM Try.prog 8 [] [.ro 1 (l.map byteC)] res σ := by
  refine callX_of_jv b8 rfl PostCT rfl ?_
  have h0 : (Dr.mk (l.take 2000) 0).ok 0 := ⟨List.length_take_le _ _, Nat.le_refl _⟩
  simp -implicitDefEqProofs only [go_sem]
  refine WantM.intro (c38_c l hl) ?_
  simp -implicitDefEqProofs only [go_sem]
  obtain ⟨res, σ, ⟨c, r, ⟨rfl, rfl⟩, hd, hro⟩, hcall⟩ := c39_c ⟨l.take 2000, 0⟩ (h0.le (by omega))
  refine WantM.intro hcall ?_
  have hro' : r.ok 1000 := hro.le (by show 0 + 100 ≤ _; omega)
  have okr : ∀ i, i ≤ 1000 → (r.adv i).ok 1000000000 := fun i hi => (hro'.adv i).le (by omega)
  simp -implicitDefEqProofs only [go_sem]
  refine ct_intro [2, 4, 5] [(10005, 1)] (fun s => ∃ (c : MCl) (R : Dr), R.ok 2000 ∧ DCl2 c ∧ s = ⟨24, [(2, .ptr 2 0 [] 15 0 0), (4, .ptr 4 0 [] 2 0 0), (5, .ptr 5 0 [] 15 0 0)], [(2, 0, one ⟨15, [zCl], 0, false⟩), (4, 0, one ⟨2, [R.cs], 0, false⟩), (5, 0, one ⟨15, [c.cs (.blk 10005 0 [] 1 0 c.acks.length)], 0, false⟩), (10005, 0, one c.ar)], 1⟩) ?_ ?_
  · simp -implicitDefEqProofs only [go_sem]
    refine WantM.intro (pickM 10 (okr 0 (by omega))) ?_
    simp -implicitDefEqProofs only [go_sem]
    refine condJ_intro (fun g => ?_) (fun g => ?_)
    · simp -implicitDefEqProofs only [go_sem, g]
      obtain ⟨res, σ, ⟨c', r', hf, hd', hr'⟩, hcall2⟩ := c41_c r.nx c (hro'.nx.le (by omega)) hd
      refine WantM.intro hcall2 ?_
      have hok : r'.ok 2000 := hr'.le (by have := hro'.2; show r.p + 1 + 100 ≤ _; omega)
      cases hf
      all_goals simp -implicitDefEqProofs only [go_sem]
      all_goals exact ⟨c', r', hok, hd', rfl⟩
    · simp -implicitDefEqProofs only [go_sem, g]
      exact ⟨c, r.nx, hro'.nx.le (by omega), hd.two, rfl⟩
  · clear hd hro hro' okr hcall
    rintro s ⟨c, R, hR, hc, rfl⟩
    have okR : ∀ i, i ≤ 1000 → (R.adv i).ok 1000000000 := fun i hi => (hR.adv i).le (by omega)
    have q2 := pick_lt (okR 1 (by omega)) (n := 2) (by omega)
    have w1 : IntKind.i64.wrap (pk (R.adv 1) 2 * 21) = pk (R.adv 1) 2 * 21 := wrS (by omega)
    simp -implicitDefEqProofs only [go_sem]
    refine WantM.intro (pickM 12 (okR 0 (by omega))) ?_
    simp -implicitDefEqProofs only [go_sem]
    refine condJ_intro (fun g => ?_) (fun g => ?_)
    · simp -implicitDefEqProofs only [go_sem, g]
      refine WantM.intro (pickM 2 (okR 1 (by omega))) ?_
      simp -implicitDefEqProofs only [go_sem, w1]
      refine RetAt.intro (.tup [c.av [], vI (pk (R.adv 1) 2 * 21)]) [(0, 0, one c.ar)] ⟨c, (pk (R.adv 1) 2 * 21), ⟨rfl, rfl⟩, hc⟩ ?_
      simp -implicitDefEqProofs only [go_sem]
      first | done | rfl | exact ⟨rfl, rfl⟩ | (simp; done) | trace_state
    · simp -implicitDefEqProofs only [go_sem, g]
      refine RetAt.intro (.tup [c.av [], vI 9]) [(0, 0, one c.ar)] ⟨c, 9, ⟨rfl, rfl⟩, hc⟩ ?_
      simp -implicitDefEqProofs only [go_sem]
      first | done | rfl | exact ⟨rfl, rfl⟩ | (simp; done) | trace_state
end Go.Proofs.Ytkhemolkhegppaa.E
