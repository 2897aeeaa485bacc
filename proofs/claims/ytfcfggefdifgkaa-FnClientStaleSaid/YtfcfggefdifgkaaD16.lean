/-
  Contracts: messages that are drawn, spoilt.
-/
import Derived.Test.YtfcfggefdifgkaaD15
namespace Go.Proofs.Ytfcfggefdifgkaa.E
open Go Go.RowKit
set_option maxHeartbeats 4000000
set_option maxRecDepth 10000
set_option linter.unusedSimpArgs false
set_option linter.unusedVariables false
set_option linter.unusedSectionVars false
@[go_sem] def c71 : SC J := .sq [0, 3, 4] (.reg [.p (.bx 3 28 (.tmp 1)), .p (.al 4 28)])
 (.sq [0, 3, 4, 5] (.reg [.p (.mv 8 (.tmp 0)), .p (.cm (some 9) 70 [true, false] [.tmp 8, .const (.int .i64 9)] [109, 3]), .p (.as 5 (.tmp 9))])
  (.sq [0, 3, 4, 5] (.sq [0, 3, 4, 5, 11] (.reg [.p (.mv 10 (.tmp 5)), .p (.bn 11 .eql 3 (.tmp 10) (.const (.int .i64 0)) 3)])
    (.cond (.tmp 11)
     (.reg [.p (.mv 12 (.tmp 0)), .p (.cm (some 13) 70 [true, false] [.tmp 12, .const (.int .i64 11)] [109, 3]), .p (.bn 14 .sub 3 (.tmp 13) (.const (.int .i64 1)) 3), .p (.fa 15 28 (.tmp 3) 0), .p (.st 3 (.tmp 15) (.tmp 14))])
     (.skip)))
   (.sq [0, 3, 4, 5] (.sq [0, 3, 4, 5, 17] (.reg [.p (.mv 16 (.tmp 5)), .p (.bn 17 .eql 3 (.tmp 16) (.const (.int .i64 1)) 3)])
     (.cond (.tmp 17)
      (.reg [.p (.bs 18 45 4 [(0, .const (.int .i64 (-1))), (1, .const (.int .i64 0)), (2, .const (.int .i64 1)), (3, .const (.int .i64 1000001))]), .p (.mv 19 (.tmp 0)), .p (.cm (some 20) 70 [true, false] [.tmp 19, .const (.int .i64 4)] [109, 3]), .p (.ia 21 45 (.tmp 18) (.tmp 20)), .p (.ld 22 3 (.tmp 21)), .p (.fa 23 28 (.tmp 3) 1), .p (.st 3 (.tmp 23) (.tmp 22))])
      (.skip)))
    (.sq [0, 3, 4, 5] (.sq [0, 3, 4, 5, 25] (.reg [.p (.mv 24 (.tmp 5)), .p (.bn 25 .eql 3 (.tmp 24) (.const (.int .i64 2)) 3)])
      (.cond (.tmp 25)
       (.reg [.p (.bs 26 45 3 [(0, .const (.int .i64 (-1))), (1, .const (.int .i64 1)), (2, .const (.int .i64 257))]), .p (.mv 27 (.tmp 0)), .p (.cm (some 28) 70 [true, false] [.tmp 27, .const (.int .i64 3)] [109, 3]), .p (.ia 29 45 (.tmp 26) (.tmp 28)), .p (.ld 30 3 (.tmp 29)), .p (.fa 31 28 (.tmp 3) 2), .p (.st 3 (.tmp 31) (.tmp 30))])
       (.skip)))
     (.sq [0, 3, 4, 5] (.sq [0, 3, 4, 5, 33] (.reg [.p (.mv 32 (.tmp 5)), .p (.bn 33 .eql 3 (.tmp 32) (.const (.int .i64 3)) 3)])
       (.cond (.tmp 33)
        (.reg [.p (.bs 34 45 3 [(0, .const (.int .i64 (-1))), (1, .const (.int .i64 1)), (2, .const (.int .i64 257))]), .p (.mv 35 (.tmp 0)), .p (.cm (some 36) 70 [true, false] [.tmp 35, .const (.int .i64 3)] [109, 3]), .p (.ia 37 45 (.tmp 34) (.tmp 36)), .p (.ld 38 3 (.tmp 37)), .p (.fa 39 28 (.tmp 3) 3), .p (.st 3 (.tmp 39) (.tmp 38))])
        (.skip)))
      (.sq [0, 3, 4, 5] (.sq [0, 3, 4, 5, 41] (.reg [.p (.mv 40 (.tmp 5)), .p (.bn 41 .eql 3 (.tmp 40) (.const (.int .i64 4)) 3)])
        (.cond (.tmp 41)
         (.reg [.p (.mv 42 (.tmp 0)), .p (.cm (some 43) 112 [true] [.tmp 42] [109]), .p (.fa 44 28 (.tmp 3) 4), .p (.st 24 (.tmp 44) (.tmp 43))])
         (.skip)))
       (.sq [0, 3, 4, 5] (.sq [0, 3, 4, 5, 46] (.reg [.p (.mv 45 (.tmp 5)), .p (.bn 46 .eql 3 (.tmp 45) (.const (.int .i64 5)) 3)])
         (.cond (.tmp 46)
          (.reg [.p (.bs 47 45 4 [(0, .const (.int .i64 (-1))), (1, .const (.int .i64 0)), (2, .const (.int .i64 1)), (3, .const (.int .i64 9))]), .p (.mv 48 (.tmp 0)), .p (.cm (some 49) 70 [true, false] [.tmp 48, .const (.int .i64 4)] [109, 3]), .p (.ia 50 45 (.tmp 47) (.tmp 49)), .p (.ld 51 3 (.tmp 50)), .p (.fa 52 28 (.tmp 3) 5), .p (.st 3 (.tmp 52) (.tmp 51))])
          (.skip)))
        (.sq [0, 3, 4, 5] (.sq [0, 3, 4, 5, 54] (.reg [.p (.mv 53 (.tmp 5)), .p (.bn 54 .eql 3 (.tmp 53) (.const (.int .i64 6)) 3)])
          (.cond (.tmp 54)
           (.sq [0, 3, 4, 5, 6] (.reg [.p (.mv 55 (.tmp 0)), .p (.cm (some 56) 70 [true, false] [.tmp 55, .const (.int .i64 2)] [109, 3]), .p (.bn 57 .add 3 (.const (.int .i64 16)) (.tmp 56) 3), .p (.as 6 (.tmp 57))])
            (.block 0 (.lp [0, 3, 4, 5, 6] (.sq [0, 3, 4, 5, 6] (.sq [0, 3, 4, 5, 6, 62] (.reg [.p (.fa 58 28 (.tmp 3) 6), .p (.ld 59 25 (.tmp 58)), .p (.ln 60 25 (.tmp 59)), .p (.mv 61 (.tmp 6)), .p (.bn 62 .lss 3 (.tmp 60) (.tmp 61) 3)])
                (.cond (.tmp 62)
                 (.skip)
                 (.exit 0)))
               (.block 1 (.reg [.p (.fa 63 28 (.tmp 3) 6), .p (.ld 64 25 (.tmp 63)), .p (.bd 65 24 []), .p (.bs 66 25 1 [(0, .tmp 65)]), .p (.ap (some 67) 25 25 (.tmp 64) (.tmp 66)), .p (.fa 68 28 (.tmp 3) 6), .p (.st 25 (.tmp 68) (.tmp 67))]))))))
           (.skip)))
         (.sq [0, 3, 4, 5] (.sq [0, 3, 4, 5, 70] (.reg [.p (.mv 69 (.tmp 5)), .p (.bn 70 .eql 3 (.tmp 69) (.const (.int .i64 7)) 3)])
           (.cond (.tmp 70)
            (.dr (.pu 0 (.pu 1 (.pu 2 (.ef 3 [1] (.pu 4 (.ef 5 [1] (.ef 6 [1] (.ef 7 [] (.pu 8 (.ef 9 [] (.nil))))))))))) [[], [0], [], [2], [2, 3], [2, 3, 4], [2, 3, 4, 5], [0, 1, 2, 3, 4, 5, 6], [0, 1, 2, 3, 4, 5, 6, 7], [0, 1, 2, 3, 4, 5, 6, 7, 8]] [.p (.fa 71 28 (.tmp 3) 7), .p (.ld 72 26 (.tmp 71)), .p (.mv 73 (.tmp 0)), .p (.cm (some 74) 70 [true, false] [.tmp 73, .const (.int .i64 2)] [109, 3]), .p (.bn 75 .add 3 (.const (.int .i64 40)) (.tmp 74) 3), .p (.cl (some 76) 113 [.const (.string { data := #[106] }), .tmp 75] [9, 3]), .p (.bs 77 26 1 [(0, .tmp 76)]), .p (.ap (some 78) 26 26 (.tmp 72) (.tmp 77)), .p (.fa 79 28 (.tmp 3) 7), .p (.st 26 (.tmp 79) (.tmp 78))] [[], [0], [], [2], [3], [4, 3], [5], [1, 6, 5], [0, 1, 2, 3, 4, 5, 6, 7], [8, 7, 7, 0, 1, 2, 3, 4, 5, 6, 7]])
            (.skip)))
          (.sq [3, 4] (.sq [0, 3, 4, 81] (.reg [.p (.mv 80 (.tmp 5)), .p (.bn 81 .eql 3 (.tmp 80) (.const (.int .i64 8)) 3)])
            (.cond (.tmp 81)
             (.sq [3, 4, 7] (.reg [.p (.mv 82 (.tmp 0)), .p (.cm (some 83) 70 [true, false] [.tmp 82, .const (.int .i64 2)] [109, 3]), .p (.bn 84 .add 3 (.const (.int .i64 8)) (.tmp 83) 3), .p (.as 7 (.tmp 84))])
              (.block 2 (.lp [3, 4, 7] (.sq [3, 4, 7] (.sq [3, 4, 7, 89] (.reg [.p (.fa 85 28 (.tmp 3) 7), .p (.ld 86 26 (.tmp 85)), .p (.ln 87 26 (.tmp 86)), .p (.mv 88 (.tmp 7)), .p (.bn 89 .lss 3 (.tmp 87) (.tmp 88) 3)])
                  (.cond (.tmp 89)
                   (.skip)
                   (.exit 2)))
                 (.block 3 (.reg [.p (.fa 90 28 (.tmp 3) 7), .p (.ld 91 26 (.tmp 90)), .p (.bs 92 26 1 [(0, .const (.string { data := #[] }))]), .p (.ap (some 93) 26 26 (.tmp 91) (.tmp 92)), .p (.fa 94 28 (.tmp 3) 7), .p (.st 26 (.tmp 94) (.tmp 93))]))))))
             (.skip)))
           (.sq [4] (.reg [.p (.ld 95 28 (.tmp 3)), .p (.st 28 (.tmp 4) (.tmp 95))])
            (.ret))))))))))))
theorem b71 : BodyOK Try.prog 71 c71 96 [.cell 4 28] := ⟨Try.f71, by kernel_rfl, by kernel_rfl, by kernel_rfl, by kernel_rfl, by kernel_rfl⟩
set_option maxRecDepth 100000 in
@[go_sem] theorem k71_0 : chkT (.pu 0 (.pu 1 (.pu 2 (.ef 3 [1] (.pu 4 (.ef 5 [1] (.ef 6 [1] (.ef 7 [] (.pu 8 (.ef 9 [] (.nil))))))))))) [[], [0], [], [2], [2, 3], [2, 3, 4], [2, 3, 4, 5], [0, 1, 2, 3, 4, 5, 6], [0, 1, 2, 3, 4, 5, 6, 7], [0, 1, 2, 3, 4, 5, 6, 7, 8]] (soI [.p (.fa 71 28 (.tmp 3) 7), .p (.ld 72 26 (.tmp 71)), .p (.mv 73 (.tmp 0)), .p (.cm (some 74) 70 [true, false] [.tmp 73, .const (.int .i64 2)] [109, 3]), .p (.bn 75 .add 3 (.const (.int .i64 40)) (.tmp 74) 3), .p (.cl (some 76) 113 [.const (.string { data := #[106] }), .tmp 75] [9, 3]), .p (.bs 77 26 1 [(0, .tmp 76)]), .p (.ap (some 78) 26 26 (.tmp 72) (.tmp 77)), .p (.fa 79 28 (.tmp 3) 7), .p (.st 26 (.tmp 79) (.tmp 78))]) [[], [0], [], [2], [3], [4, 3], [5], [1, 6, 5], [0, 1, 2, 3, 4, 5, 6, 7], [8, 7, 7, 0, 1, 2, 3, 4, 5, 6, 7]] = true := by kernel_rfl

def MMsg.avK (m : MMsg) (a b : Nat) : AV := .agg [vI m.kind, vI m.session, vI m.from_, vI m.size, vU m.root.a, vU m.root.b, vU m.root.c, vU m.root.d, vI m.count, .blk a 0 [] 4 0 m.proof.length, .blk b 0 [] 1 0 m.leaves.length]
def MMsg.pr (m : MMsg) : Row := ⟨4, m.proof.map MDig.cs, 2, false⟩
def MMsg.lr (m : MMsg) : Row := ⟨1, m.leaves.map leafCs, 2, false⟩
def Dr.rr (r : Dr) : Nat × (Nat × Frag) := (1000000, 0, one ⟨2, [r.cs], 0, false⟩)
attribute [go_sem] MMsg.avK MMsg.pr MMsg.lr Dr.rr
/-- A message that can be drawn. -/
structure DMsg (m : MMsg) : Prop where
  r : m.root.ok
  d : ∀ d ∈ m.proof, d.ok
  p : m.proof.length ≤ 100
  l : m.leaves.length ≤ 100
  s : ∀ s ∈ m.leaves, s.size ≤ 100
inductive SpForm (m : MMsg) (r : Dr) : AV → Sig → Prop
  | a : SpForm m r (m.avK 1000001 1000002) [r.rr, (1000001, 0, one m.pr), (1000002, 0, one m.lr)]
  | b : SpForm m r (m.avK 0 1000002) [r.rr, (1000002, 0, one m.lr), (0, 0, one m.pr)]
  | c : SpForm m r (m.avK 1000001 0) [r.rr, (1000001, 0, one m.pr), (0, 0, one m.lr)]
def PostSp (r : Dr) (res : AV) (σ : Sig) : Prop := ∃ (m : MMsg) (r' : Dr), SpForm m r' res σ ∧ DMsg m ∧ r'.ok (r.p + 100)
theorem DMsg.with {m m' : MMsg} (h : DMsg m) (hr : m'.root.ok) (hp : m'.proof = m.proof) (hl : m'.leaves = m.leaves) : DMsg m' := ⟨hr, by rw [hp]; exact h.d, by rw [hp]; exact h.p, by rw [hl]; exact h.l, by rw [hl]; exact h.s⟩
theorem get4 (a b c d : Int) {v : Nat} (h : v < 4) : ∃ x, ([[vI a], [vI b], [vI c], [vI d]] : List (List AV))[v]? = some [vI x] := by
  have : v = 0 ∨ v = 1 ∨ v = 2 ∨ v = 3 := by omega
  rcases this with rfl | rfl | rfl | rfl
  · exact ⟨a, rfl⟩
  · exact ⟨b, rfl⟩
  · exact ⟨c, rfl⟩
  · exact ⟨d, rfl⟩
theorem get3 (a b c : Int) {v : Nat} (h : v < 3) : ∃ x, ([[vI a], [vI b], [vI c]] : List (List AV))[v]? = some [vI x] := by
  have : v = 0 ∨ v = 1 ∨ v = 2 := by omega
  rcases this with rfl | rfl | rfl
  · exact ⟨a, rfl⟩
  · exact ⟨b, rfl⟩
  · exact ⟨c, rfl⟩
theorem c71_c (r : Dr) (m : MMsg) (h1 : r.ok 700000000) (hm : DMsg m) (hp : m.proof.length ≤ 16) (hl : m.leaves.length ≤ 8) : ∃ res σ, PostSp r res σ ∧ CallM Try.prog 71 [r.rr, (1000001, 0, one m.pr), (1000002, 0, one m.lr)] [vD, m.avK 1000001 1000002] res σ := by
  refine callX_of_jv b71 rfl (PostSp r) rfl ?_
  have hp := h1.2
  have ok : ∀ i, i ≤ 1000 → (r.adv i).ok 1000000000 := fun i hi => (h1.adv i).le (by omega)
  have h0 := h1.le (b := 1000000000) (by omega)
  have p9 := pick_lt h0 (n := 9) (by omega)
  simp -implicitDefEqProofs only [go_sem]
  refine WantM.intro (pickM 9 h0) ?_
  simp -implicitDefEqProofs only [go_sem]
  generalize hK : pk r 9 = K at *
  have hk9 : K = 0 ∨ K = 1 ∨ K = 2 ∨ K = 3 ∨ K = 4 ∨ K = 5 ∨ K = 6 ∨ K = 7 ∨ K = 8 := by omega
  rcases hk9 with rfl | rfl | rfl | rfl | rfl | rfl | rfl | rfl | rfl
  all_goals simp -implicitDefEqProofs only [go_sem, condJ_true, condJ_false]
  · have q := pick_lt (ok 1 (by omega)) (n := 11) (by omega)
    have w1 : IntKind.i64.wrap (pk (r.adv 1) 11 - 1) = pk (r.adv 1) 11 - 1 := wrS (by omega)
    refine WantM.intro (pickM 11 (ok 1 (by omega))) ?_
    simp -implicitDefEqProofs only [go_sem, w1]
    refine RetAt.intro (MMsg.avK { m with kind := pk (r.adv 1) 11 - 1 } 1000001 1000002) [Dr.rr (r.adv 1).nx, (1000001, 0, one (MMsg.pr { m with kind := pk (r.adv 1) 11 - 1 })), (1000002, 0, one (MMsg.lr { m with kind := pk (r.adv 1) 11 - 1 }))] ⟨{ m with kind := pk (r.adv 1) 11 - 1 }, (r.adv 1).nx, .a, hm.with hm.r rfl rfl, ⟨h0.1, by show r.p + 1 + 1 ≤ _; omega⟩⟩ ?_
    simp -implicitDefEqProofs only [go_sem]
    first | done | rfl | exact ⟨rfl, rfl⟩ | (simp; done) | trace_state
  · have q := pick_lt (ok 1 (by omega)) (n := 4) (by omega)
    refine WantM.intro (pickM 4 (ok 1 (by omega))) ?_
    obtain ⟨v, hv⟩ : ∃ v : Nat, pk (r.adv 1) 4 = v := ⟨(pk (r.adv 1) 4).toNat, by omega⟩
    obtain ⟨x, hx⟩ := get4 (-1) 0 1 1000001 (v := v) (by omega)
    have hlt : (v : Int) < 4 := by omega
    rw [hv]
    simp -implicitDefEqProofs only [go_sem, hlt, hx, Int.cast_ofNat_Int]
    refine RetAt.intro (MMsg.avK { m with session := x } 1000001 1000002) [Dr.rr (r.adv 1).nx, (1000001, 0, one (MMsg.pr { m with session := x })), (1000002, 0, one (MMsg.lr { m with session := x }))] ⟨{ m with session := x }, (r.adv 1).nx, .a, hm.with hm.r rfl rfl, ⟨h0.1, by show r.p + 1 + 1 ≤ _; omega⟩⟩ ?_
    simp -implicitDefEqProofs only [go_sem]
    first | done | rfl | exact ⟨rfl, rfl⟩ | (simp; done) | trace_state
  · have q := pick_lt (ok 1 (by omega)) (n := 3) (by omega)
    refine WantM.intro (pickM 3 (ok 1 (by omega))) ?_
    obtain ⟨v, hv⟩ : ∃ v : Nat, pk (r.adv 1) 3 = v := ⟨(pk (r.adv 1) 3).toNat, by omega⟩
    obtain ⟨x, hx⟩ := get3 (-1) 1 257 (v := v) (by omega)
    have hlt : (v : Int) < 3 := by omega
    rw [hv]
    simp -implicitDefEqProofs only [go_sem, hlt, hx, Int.cast_ofNat_Int]
    refine RetAt.intro (MMsg.avK { m with from_ := x } 1000001 1000002) [Dr.rr (r.adv 1).nx, (1000001, 0, one (MMsg.pr { m with from_ := x })), (1000002, 0, one (MMsg.lr { m with from_ := x }))] ⟨{ m with from_ := x }, (r.adv 1).nx, .a, hm.with hm.r rfl rfl, ⟨h0.1, by show r.p + 1 + 1 ≤ _; omega⟩⟩ ?_
    simp -implicitDefEqProofs only [go_sem]
    first | done | rfl | exact ⟨rfl, rfl⟩ | (simp; done) | trace_state
  · have q := pick_lt (ok 1 (by omega)) (n := 3) (by omega)
    refine WantM.intro (pickM 3 (ok 1 (by omega))) ?_
    obtain ⟨v, hv⟩ : ∃ v : Nat, pk (r.adv 1) 3 = v := ⟨(pk (r.adv 1) 3).toNat, by omega⟩
    obtain ⟨x, hx⟩ := get3 (-1) 1 257 (v := v) (by omega)
    have hlt : (v : Int) < 3 := by omega
    rw [hv]
    simp -implicitDefEqProofs only [go_sem, hlt, hx, Int.cast_ofNat_Int]
    refine RetAt.intro (MMsg.avK { m with size := x } 1000001 1000002) [Dr.rr (r.adv 1).nx, (1000001, 0, one (MMsg.pr { m with size := x })), (1000002, 0, one (MMsg.lr { m with size := x }))] ⟨{ m with size := x }, (r.adv 1).nx, .a, hm.with hm.r rfl rfl, ⟨h0.1, by show r.p + 1 + 1 ≤ _; omega⟩⟩ ?_
    simp -implicitDefEqProofs only [go_sem]
    first | done | rfl | exact ⟨rfl, rfl⟩ | (simp; done) | trace_state
  · have h2 := h1.nx
    refine WantM.intro (c112_c r.nx (h2.le (by omega))) ?_
    simp -implicitDefEqProofs only [go_sem]
    refine RetAt.intro (MMsg.avK { m with root := (dgR r.nx).1 } 1000001 1000002) [Dr.rr (dgR r.nx).2, (1000001, 0, one (MMsg.pr { m with root := (dgR r.nx).1 })), (1000002, 0, one (MMsg.lr { m with root := (dgR r.nx).1 }))] ⟨{ m with root := (dgR r.nx).1 }, (dgR r.nx).2, .a, hm.with (dgR_dig r.nx (h2.le (by omega))) rfl rfl, ⟨(dgR_ok r.nx (n := r.p + 1) ⟨h0.1, Nat.le_refl _⟩).1.1, by have := (dgR_ok r.nx (n := r.p + 1) ⟨h0.1, Nat.le_refl _⟩).1.2; omega⟩⟩ ?_
    simp -implicitDefEqProofs only [go_sem]
    first | done | rfl | exact ⟨rfl, rfl⟩ | (simp; done) | trace_state
  · have q := pick_lt (ok 1 (by omega)) (n := 4) (by omega)
    refine WantM.intro (pickM 4 (ok 1 (by omega))) ?_
    obtain ⟨v, hv⟩ : ∃ v : Nat, pk (r.adv 1) 4 = v := ⟨(pk (r.adv 1) 4).toNat, by omega⟩
    obtain ⟨x, hx⟩ := get4 (-1) 0 1 9 (v := v) (by omega)
    have hlt : (v : Int) < 4 := by omega
    rw [hv]
    simp -implicitDefEqProofs only [go_sem, hlt, hx, Int.cast_ofNat_Int]
    refine RetAt.intro (MMsg.avK { m with count := x } 1000001 1000002) [Dr.rr (r.adv 1).nx, (1000001, 0, one (MMsg.pr { m with count := x })), (1000002, 0, one (MMsg.lr { m with count := x }))] ⟨{ m with count := x }, (r.adv 1).nx, .a, hm.with hm.r rfl rfl, ⟨h0.1, by show r.p + 1 + 1 ≤ _; omega⟩⟩ ?_
    simp -implicitDefEqProofs only [go_sem]
    first | done | rfl | exact ⟨rfl, rfl⟩ | (simp; done) | trace_state
  · have q := pick_lt (ok 1 (by omega)) (n := 2) (by omega)
    obtain ⟨v, hv⟩ : ∃ v : Nat, pk (r.adv 1) 2 = v := ⟨(pk (r.adv 1) 2).toNat, by omega⟩
    refine WantM.intro (pickM 2 (ok 1 (by omega))) ?_
    have w1 : IntKind.i64.wrap (16 + (v : Int)) = ((16 + v : Nat) : Int) := by rw [wrS (by omega)]; omega
    rw [hv]
    simp -implicitDefEqProofs only [go_sem, w1]
    refine jv_lp (fun x s => ∃ (n : Nat) (l : List MDig), l.length = n ∧ n ≤ 17 ∧ x = 17 - n ∧ (∀ d ∈ l, d.ok) ∧ ((s = ⟨96, [(0, vD), (3, .ptr 3 0 [] 11 0 0), (4, .ptr 4 0 [] 11 0 0), (5, vI 6), (6, vI ((16 + v : Nat) : Int))], [(1000001, 0, one ⟨4, l.map MDig.cs, 2, false⟩), (1000002, 0, one m.lr), (1000000, 0, one ⟨2, [(r.adv 1).nx.cs], 0, false⟩), (3, 0, one ⟨11, [[vI m.kind, vI m.session, vI m.from_, vI m.size, vU m.root.a, vU m.root.b, vU m.root.c, vU m.root.d, vI m.count, .blk 1000001 0 [] 4 0 l.length, .blk 1000002 0 [] 1 0 m.leaves.length]], 0, false⟩), (4, 0, one ⟨11, [zRow], 0, false⟩)], 1⟩) ∨ (s = ⟨96, [(0, vD), (3, .ptr 3 0 [] 11 0 0), (4, .ptr 4 0 [] 11 0 0), (5, vI 6), (6, vI ((16 + v : Nat) : Int))], [(1000002, 0, one m.lr), (1000000, 0, one ⟨2, [(r.adv 1).nx.cs], 0, false⟩), (3, 0, one ⟨11, [[vI m.kind, vI m.session, vI m.from_, vI m.size, vU m.root.a, vU m.root.b, vU m.root.c, vU m.root.d, vI m.count, .blk 10003 0 [] 4 0 l.length, .blk 1000002 0 [] 1 0 m.leaves.length]], 0, false⟩), (10003, 0, one ⟨4, l.map MDig.cs, 2, false⟩), (4, 0, one ⟨11, [zRow], 0, false⟩)], 1⟩))) (17 - m.proof.length) ?_ ?_
    · simp -implicitDefEqProofs only [go_sem]
      exact ⟨m.proof.length, m.proof, rfl, by omega, rfl, hm.d, .inl rfl⟩
    · rintro x s ⟨n, l, rfl, hn, rfl, hd, hs⟩
      rcases hs with rfl | rfl
      · rcases Nat.lt_or_ge l.length (16 + v) with hlt | hge
        · have hlt' : (l.length : Int) < ((16 + v : Nat) : Int) := by omega
          have ha : ∀ x, _ := fun x => app_ok (E := MDig.cs) (l := l) (xs := [x]) (b := 32) (n := 100) (by simp; omega) (by omega) (by omega)
          simp -implicitDefEqProofs only [go_sem, hlt', ha]
          refine ⟨_, ?_, (l ++ [dig0]).length, l ++ [dig0], rfl, by simp; omega, rfl, ?_, .inr ?_⟩
          · simp; omega
          · intro d hdm
            rcases List.mem_append.1 hdm with hdm | hdm
            · exact hd d hdm
            · rw [List.mem_singleton.1 hdm]
              exact dig0_ok
          · simp [MDig.cs, dig0, zRow]
            rfl
        · have hlt' : ¬ (l.length : Int) < ((16 + v : Nat) : Int) := by omega
          have hm' : DMsg { m with proof := l } := ⟨hm.r, hd, by show l.length ≤ 100; omega, hm.l, hm.s⟩
          simp -implicitDefEqProofs only [go_sem, hlt', condJ_false]
          refine RetAt.intro (MMsg.avK { m with proof := l } 1000001 1000002) [Dr.rr (r.adv 1).nx, (1000001, 0, one (MMsg.pr { m with proof := l })), (1000002, 0, one (MMsg.lr { m with proof := l }))] ⟨{ m with proof := l }, (r.adv 1).nx, .a, hm', ⟨h0.1, by show r.p + 1 + 1 ≤ _; omega⟩⟩ ?_
          simp -implicitDefEqProofs only [go_sem]
          first | done | rfl | exact ⟨rfl, rfl⟩ | (simp; done) | trace_state
      · rcases Nat.lt_or_ge l.length (16 + v) with hlt | hge
        · have hlt' : (l.length : Int) < ((16 + v : Nat) : Int) := by omega
          have ha : ∀ x, _ := fun x => app_ok (E := MDig.cs) (l := l) (xs := [x]) (b := 32) (n := 100) (by simp; omega) (by omega) (by omega)
          simp -implicitDefEqProofs only [go_sem, hlt', ha]
          refine ⟨_, ?_, (l ++ [dig0]).length, l ++ [dig0], rfl, by simp; omega, rfl, ?_, .inr ?_⟩
          · simp; omega
          · intro d hdm
            rcases List.mem_append.1 hdm with hdm | hdm
            · exact hd d hdm
            · rw [List.mem_singleton.1 hdm]
              exact dig0_ok
          · simp [MDig.cs, dig0, zRow]
            rfl
        · have hlt' : ¬ (l.length : Int) < ((16 + v : Nat) : Int) := by omega
          have hm' : DMsg { m with proof := l } := ⟨hm.r, hd, by show l.length ≤ 100; omega, hm.l, hm.s⟩
          simp -implicitDefEqProofs only [go_sem, hlt', condJ_false]
          refine RetAt.intro (MMsg.avK { m with proof := l } 0 1000002) [Dr.rr (r.adv 1).nx, (1000002, 0, one (MMsg.lr { m with proof := l })), (0, 0, one (MMsg.pr { m with proof := l }))] ⟨{ m with proof := l }, (r.adv 1).nx, .b, hm', ⟨h0.1, by show r.p + 1 + 1 ≤ _; omega⟩⟩ ?_
          simp -implicitDefEqProofs only [go_sem]
          first | done | rfl | exact ⟨rfl, rfl⟩ | (simp; done) | trace_state
  · have q := pick_lt (ok 1 (by omega)) (n := 2) (by omega)
    obtain ⟨v, hv⟩ : ∃ v : Nat, pk (r.adv 1) 2 = v := ⟨(pk (r.adv 1) 2).toNat, by omega⟩
    refine WantM.intro (pickM 2 (ok 1 (by omega))) ?_
    have w1 : IntKind.i64.wrap (40 + (v : Int)) = ((40 + v : Nat) : Int) := by rw [wrS (by omega)]; omega
    rw [hv]
    simp -implicitDefEqProofs only [go_sem, w1]
    refine Want.intro (c113_c [106] (40 + v) (by omega) (by simp)) ?_
    have ha : ∀ x, _ := fun x => app_ok (E := leafCs) (l := m.leaves) (xs := [x]) (b := 16) (n := 100) (by simp; omega) (by omega) (by omega)
    simp -implicitDefEqProofs only [go_sem, ha]
    have hm' : DMsg { m with leaves := m.leaves ++ [bA (rep [106] (40 + v))] } := ⟨hm.r, hm.d, hm.p, by show (_ ++ [_]).length ≤ 100; simp; omega, by
      intro s hs
      rcases List.mem_append.1 hs with hs | hs
      · exact hm.s s hs
      · rw [List.mem_singleton.1 hs, bA_size, rep_len]
        simp
        omega⟩
    refine RetAt.intro (MMsg.avK { m with leaves := m.leaves ++ [bA (rep [106] (40 + v))] } 1000001 0) [Dr.rr (r.adv 1).nx, (1000001, 0, one (MMsg.pr { m with leaves := m.leaves ++ [bA (rep [106] (40 + v))] })), (0, 0, one (MMsg.lr { m with leaves := m.leaves ++ [bA (rep [106] (40 + v))] }))] ⟨{ m with leaves := m.leaves ++ [bA (rep [106] (40 + v))] }, (r.adv 1).nx, .c, hm', ⟨h0.1, by show r.p + 1 + 1 ≤ _; omega⟩⟩ ?_
    simp -implicitDefEqProofs only [go_sem, List.map_append, leafCs]
    first | done | rfl | exact ⟨rfl, rfl⟩ | (simp; done) | trace_state
  · have q := pick_lt (ok 1 (by omega)) (n := 2) (by omega)
    obtain ⟨v, hv⟩ : ∃ v : Nat, pk (r.adv 1) 2 = v := ⟨(pk (r.adv 1) 2).toNat, by omega⟩
    refine WantM.intro (pickM 2 (ok 1 (by omega))) ?_
    have w1 : IntKind.i64.wrap (8 + (v : Int)) = ((8 + v : Nat) : Int) := by rw [wrS (by omega)]; omega
    rw [hv]
    simp -implicitDefEqProofs only [go_sem, w1]
    refine jv_lp (fun x s => ∃ (n : Nat) (l : List ByteArray), l.length = n ∧ n ≤ 9 ∧ x = 9 - n ∧ (∀ d ∈ l, d.size ≤ 100) ∧ ((s = ⟨96, [(3, .ptr 3 0 [] 11 0 0), (4, .ptr 4 0 [] 11 0 0), (7, vI ((8 + v : Nat) : Int))], [(1000001, 0, one m.pr), (1000002, 0, one ⟨1, l.map leafCs, 2, false⟩), (1000000, 0, one ⟨2, [(r.adv 1).nx.cs], 0, false⟩), (3, 0, one ⟨11, [[vI m.kind, vI m.session, vI m.from_, vI m.size, vU m.root.a, vU m.root.b, vU m.root.c, vU m.root.d, vI m.count, .blk 1000001 0 [] 4 0 m.proof.length, .blk 1000002 0 [] 1 0 l.length]], 0, false⟩), (4, 0, one ⟨11, [zRow], 0, false⟩)], 1⟩) ∨ (s = ⟨96, [(3, .ptr 3 0 [] 11 0 0), (4, .ptr 4 0 [] 11 0 0), (7, vI ((8 + v : Nat) : Int))], [(1000001, 0, one m.pr), (1000000, 0, one ⟨2, [(r.adv 1).nx.cs], 0, false⟩), (3, 0, one ⟨11, [[vI m.kind, vI m.session, vI m.from_, vI m.size, vU m.root.a, vU m.root.b, vU m.root.c, vU m.root.d, vI m.count, .blk 1000001 0 [] 4 0 m.proof.length, .blk 10003 0 [] 1 0 l.length]], 0, false⟩), (10003, 0, one ⟨1, l.map leafCs, 2, false⟩), (4, 0, one ⟨11, [zRow], 0, false⟩)], 1⟩))) (9 - m.leaves.length) ?_ ?_
    · simp -implicitDefEqProofs only [go_sem]
      exact ⟨m.leaves.length, m.leaves, rfl, by omega, rfl, hm.s, .inl rfl⟩
    · rintro x s ⟨n, l, rfl, hn, rfl, hd, hs⟩
      rcases hs with rfl | rfl
      · rcases Nat.lt_or_ge l.length (8 + v) with hlt | hge
        · have hlt' : (l.length : Int) < ((8 + v : Nat) : Int) := by omega
          have ha : ∀ x, _ := fun x => app_ok (E := leafCs) (l := l) (xs := [x]) (b := 16) (n := 100) (by simp; omega) (by omega) (by omega)
          simp -implicitDefEqProofs only [go_sem, hlt', ha]
          refine ⟨_, ?_, (l ++ [(⟨#[]⟩ : ByteArray)]).length, l ++ [(⟨#[]⟩ : ByteArray)], rfl, by simp; omega, rfl, ?_, .inr ?_⟩
          · simp; omega
          · intro d hdm
            rcases List.mem_append.1 hdm with hdm | hdm
            · exact hd d hdm
            · rw [List.mem_singleton.1 hdm]
              decide
          · simp [leafCs, zRow]
        · have hlt' : ¬ (l.length : Int) < ((8 + v : Nat) : Int) := by omega
          have hm' : DMsg { m with leaves := l } := ⟨hm.r, hm.d, hm.p, by show l.length ≤ 100; omega, hd⟩
          simp -implicitDefEqProofs only [go_sem, hlt', condJ_false]
          refine RetAt.intro (MMsg.avK { m with leaves := l } 1000001 1000002) [Dr.rr (r.adv 1).nx, (1000001, 0, one (MMsg.pr { m with leaves := l })), (1000002, 0, one (MMsg.lr { m with leaves := l }))] ⟨{ m with leaves := l }, (r.adv 1).nx, .a, hm', ⟨h0.1, by show r.p + 1 + 1 ≤ _; omega⟩⟩ ?_
          simp -implicitDefEqProofs only [go_sem]
          first | done | rfl | exact ⟨rfl, rfl⟩ | (simp; done) | trace_state
      · rcases Nat.lt_or_ge l.length (8 + v) with hlt | hge
        · have hlt' : (l.length : Int) < ((8 + v : Nat) : Int) := by omega
          have ha : ∀ x, _ := fun x => app_ok (E := leafCs) (l := l) (xs := [x]) (b := 16) (n := 100) (by simp; omega) (by omega) (by omega)
          simp -implicitDefEqProofs only [go_sem, hlt', ha]
          refine ⟨_, ?_, (l ++ [(⟨#[]⟩ : ByteArray)]).length, l ++ [(⟨#[]⟩ : ByteArray)], rfl, by simp; omega, rfl, ?_, .inr ?_⟩
          · simp; omega
          · intro d hdm
            rcases List.mem_append.1 hdm with hdm | hdm
            · exact hd d hdm
            · rw [List.mem_singleton.1 hdm]
              decide
          · simp [leafCs, zRow]
        · have hlt' : ¬ (l.length : Int) < ((8 + v : Nat) : Int) := by omega
          have hm' : DMsg { m with leaves := l } := ⟨hm.r, hm.d, hm.p, by show l.length ≤ 100; omega, hd⟩
          simp -implicitDefEqProofs only [go_sem, hlt', condJ_false]
          refine RetAt.intro (MMsg.avK { m with leaves := l } 1000001 0) [Dr.rr (r.adv 1).nx, (1000001, 0, one (MMsg.pr { m with leaves := l })), (0, 0, one (MMsg.lr { m with leaves := l }))] ⟨{ m with leaves := l }, (r.adv 1).nx, .c, hm', ⟨h0.1, by show r.p + 1 + 1 ≤ _; omega⟩⟩ ?_
          simp -implicitDefEqProofs only [go_sem]
          first | done | rfl | exact ⟨rfl, rfl⟩ | (simp; done) | trace_state
end Go.Proofs.Ytfcfggefdifgkaa.E
