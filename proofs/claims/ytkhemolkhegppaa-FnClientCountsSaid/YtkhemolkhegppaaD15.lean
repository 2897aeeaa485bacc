/-
  Contracts: messages that are drawn.
-/
import Derived.Test.YtkhemolkhegppaaD14
import Derived.Test.YtkhemolkhegppaaDP
import Derived.Test.YtkhemolkhegppaaER
namespace Go.Proofs.Ytkhemolkhegppaa.E
open Go Go.RowKit
set_option maxHeartbeats 4000000
set_option maxRecDepth 10000
set_option linter.unusedSimpArgs false
set_option linter.unusedVariables false
set_option linter.unusedSectionVars false
@[go_sem] def c133 : SC J := .sq [0] (.reg [.p (.as 2 (.const (.int .i64 0)))])
 (.sq [0] (.sq [0, 5] (.reg [.p (.mv 3 (.tmp 0)), .p (.cm (some 4) 40 [true, false] [.tmp 3, .const (.int .i64 8)] [92, 3]), .p (.bn 5 .eql 3 (.tmp 4) (.const (.int .i64 0)) 3)])
   (.cond (.tmp 5)
    (.sq [2] (.reg [.p (.mv 6 (.tmp 0)), .p (.cm (some 7) 40 [true, false] [.tmp 6, .const (.int .i64 2)] [92, 3]), .p (.bn 8 .sub 3 (.const (.int .i64 256)) (.tmp 7) 3), .p (.as 2 (.tmp 8))])
     (.ret))
    (.skip)))
  (.sq [2] (.reg [.p (.mv 9 (.tmp 0)), .p (.cm (some 10) 40 [true, false] [.tmp 9, .const (.int .i64 30)] [92, 3]), .p (.as 2 (.tmp 10))])
   (.ret)))
theorem b133 : BodyOK Try.prog 133 c133 11 [.tmp 2] := ⟨Try.f133, by kernel_rfl, by kernel_rfl, by kernel_rfl, by kernel_rfl, by kernel_rfl⟩

@[go_sem] def c107 : SC J := .sq [0, 2] (.reg [.p (.al 2 45)])
 (.sq [0, 2, 3] (.reg [.p (.mv 7 (.tmp 0)), .p (.cm (some 8) 40 [true, false] [.tmp 7, .const (.int .i64 8)] [92, 3]), .p (.bn 9 .add 3 (.const (.int .i64 1)) (.tmp 8) 3), .p (.bd 10 45 [(0, .tmp 9)]), .p (.al 3 45), .p (.st 45 (.tmp 3) (.tmp 10))])
  (.sq [0, 2, 3, 4] (.reg [.p (.fa 11 45 (.tmp 3) 0), .p (.ld 12 3 (.tmp 11)), .p (.cl (some 13) 54 [.tmp 12] [3]), .p (.as 4 (.tmp 13))])
   (.sq [0, 2, 3, 4] (.sq [0, 2, 3, 4, 15] (.reg [.p (.mv 14 (.tmp 4)), .p (.cl (some 15) 56 [.tmp 14, .const (.int .u8 115)] [9, 5])])
     (.cond (.tmp 15)
      (.sq [0, 2, 3, 4] (.reg [.p (.mv 16 (.tmp 0)), .p (.cm (some 17) 40 [true, false] [.tmp 16, .const (.int .i64 5)] [92, 3]), .p (.bn 18 .add 3 (.const (.int .i64 1)) (.tmp 17) 3), .p (.fa 19 45 (.tmp 3) 1), .p (.st 3 (.tmp 19) (.tmp 18))])
       (.sq [0, 2, 3, 4, 22] (.reg [.p (.mv 20 (.tmp 0)), .p (.cm (some 21) 40 [true, false] [.tmp 20, .const (.int .i64 8)] [92, 3]), .p (.bn 22 .eql 3 (.tmp 21) (.const (.int .i64 0)) 3)])
        (.cond (.tmp 22)
         (.reg [.p (.mv 23 (.tmp 0)), .p (.cm (some 24) 40 [true, false] [.tmp 23, .const (.int .i64 2)] [92, 3]), .p (.bn 25 .sub 3 (.const (.int .i64 1000000)) (.tmp 24) 3), .p (.fa 26 45 (.tmp 3) 1), .p (.st 3 (.tmp 26) (.tmp 25))])
         (.skip))))
      (.skip)))
    (.sq [0, 2, 3, 4] (.sq [0, 2, 3, 4, 28] (.reg [.p (.mv 27 (.tmp 4)), .p (.cl (some 28) 56 [.tmp 27, .const (.int .u8 102)] [9, 5])])
      (.cond (.tmp 28)
       (.reg [.p (.mv 29 (.tmp 0)), .p (.cm (some 30) 133 [true] [.tmp 29] [92]), .p (.fa 31 45 (.tmp 3) 2), .p (.st 3 (.tmp 31) (.tmp 30))])
       (.skip)))
     (.sq [0, 2, 3, 4] (.sq [0, 2, 3, 4, 33] (.reg [.p (.mv 32 (.tmp 4)), .p (.cl (some 33) 56 [.tmp 32, .const (.int .u8 110)] [9, 5])])
       (.cond (.tmp 33)
        (.reg [.p (.mv 34 (.tmp 0)), .p (.cm (some 35) 133 [true] [.tmp 34] [92]), .p (.fa 36 45 (.tmp 3) 3), .p (.st 3 (.tmp 36) (.tmp 35))])
        (.skip)))
      (.sq [0, 2, 3, 4] (.sq [0, 2, 3, 4, 38] (.reg [.p (.mv 37 (.tmp 4)), .p (.cl (some 38) 56 [.tmp 37, .const (.int .u8 114)] [9, 5])])
        (.cond (.tmp 38)
         (.reg [.p (.mv 39 (.tmp 0)), .p (.cm (some 40) 97 [true] [.tmp 39] [92]), .p (.fa 41 45 (.tmp 3) 4), .p (.st 25 (.tmp 41) (.tmp 40))])
         (.skip)))
       (.sq [0, 2, 3, 4] (.sq [0, 2, 3, 4, 43] (.reg [.p (.mv 42 (.tmp 4)), .p (.cl (some 43) 56 [.tmp 42, .const (.int .u8 99)] [9, 5])])
         (.cond (.tmp 43)
          (.reg [.p (.mv 44 (.tmp 0)), .p (.cm (some 45) 40 [true, false] [.tmp 44, .const (.int .i64 8)] [92, 3]), .p (.bn 46 .add 3 (.const (.int .i64 1)) (.tmp 45) 3), .p (.fa 47 45 (.tmp 3) 5), .p (.st 3 (.tmp 47) (.tmp 46))])
          (.skip)))
        (.sq [0, 2, 3, 4] (.sq [0, 2, 3, 4, 49] (.reg [.p (.mv 48 (.tmp 4)), .p (.cl (some 49) 56 [.tmp 48, .const (.int .u8 112)] [9, 5])])
          (.cond (.tmp 49)
           (.sq [0, 2, 3, 4] (.sq [0, 2, 3, 4, 5] (.reg [.p (.mv 50 (.tmp 0)), .p (.cm (some 51) 40 [true, false] [.tmp 50, .const (.int .i64 5)] [92, 3]), .p (.as 5 (.tmp 51))])
             (.block 0 (.lp [0, 2, 3, 4, 5] (.sq [0, 2, 3, 4, 5] (.sq [0, 2, 3, 4, 5, 53] (.reg [.p (.mv 52 (.tmp 5)), .p (.bn 53 .gtr 3 (.tmp 52) (.const (.int .i64 0)) 3)])
                 (.cond (.tmp 53)
                  (.skip)
                  (.exit 0)))
                (.sq [0, 2, 3, 4, 5] (.block 1 (.dr (.pu 0 (.pu 1 (.pu 2 (.ef 3 [1] (.ef 4 [1] (.ef 5 [] (.pu 6 (.ef 7 [] (.nil))))))))) [[], [0], [], [2], [2, 3], [0, 1, 2, 3, 4], [0, 1, 2, 3, 4, 5], [0, 1, 2, 3, 4, 5, 6]] [.p (.fa 56 45 (.tmp 3) 6), .p (.ld 57 42 (.tmp 56)), .p (.mv 58 (.tmp 0)), .p (.cm (some 59) 97 [true] [.tmp 58] [92]), .p (.bs 60 42 1 [(0, .tmp 59)]), .p (.ap (some 61) 42 42 (.tmp 57) (.tmp 60)), .p (.fa 62 45 (.tmp 3) 6), .p (.st 42 (.tmp 62) (.tmp 61))] [[], [0], [], [2], [3], [1, 4, 3], [0, 1, 2, 3, 4, 5], [6, 5, 5, 0, 1, 2, 3, 4, 5]]))
                 (.reg [.p (.mv 54 (.tmp 5)), .p (.bn 55 .sub 3 (.tmp 54) (.const (.int .i64 1)) 3), .p (.as 5 (.tmp 55))]))))))
            (.sq [0, 2, 3, 4, 65] (.reg [.p (.mv 63 (.tmp 0)), .p (.cm (some 64) 40 [true, false] [.tmp 63, .const (.int .i64 12)] [92, 3]), .p (.bn 65 .eql 3 (.tmp 64) (.const (.int .i64 0)) 3)])
             (.cond (.tmp 65)
              (.block 2 (.lp [0, 2, 3, 4] (.sq [0, 2, 3, 4] (.sq [0, 2, 3, 4, 69] (.reg [.p (.fa 66 45 (.tmp 3) 6), .p (.ld 67 42 (.tmp 66)), .p (.ln 68 42 (.tmp 67)), .p (.bn 69 .lss 3 (.tmp 68) (.const (.int .i64 16)) 3)])
                  (.cond (.tmp 69)
                   (.skip)
                   (.exit 2)))
                 (.block 3 (.reg [.p (.fa 70 45 (.tmp 3) 6), .p (.ld 71 42 (.tmp 70)), .p (.bd 72 25 []), .p (.bs 73 42 1 [(0, .tmp 72)]), .p (.ap (some 74) 42 42 (.tmp 71) (.tmp 73)), .p (.fa 75 45 (.tmp 3) 6), .p (.st 42 (.tmp 75) (.tmp 74))])))))
              (.skip))))
           (.skip)))
         (.sq [2, 3] (.sq [0, 2, 3, 77] (.reg [.p (.mv 76 (.tmp 4)), .p (.cl (some 77) 56 [.tmp 76, .const (.int .u8 108)] [9, 5])])
           (.cond (.tmp 77)
            (.sq [0, 2, 3] (.sq [0, 2, 3, 6] (.reg [.p (.mv 78 (.tmp 0)), .p (.cm (some 79) 40 [true, false] [.tmp 78, .const (.int .i64 9)] [92, 3]), .p (.as 6 (.tmp 79))])
              (.block 4 (.lp [0, 2, 3, 6] (.sq [0, 2, 3, 6] (.sq [0, 2, 3, 6, 81] (.reg [.p (.mv 80 (.tmp 6)), .p (.bn 81 .gtr 3 (.tmp 80) (.const (.int .i64 0)) 3)])
                  (.cond (.tmp 81)
                   (.skip)
                   (.exit 4)))
                 (.sq [0, 2, 3, 6] (.block 5 (.dr (.pu 0 (.pu 1 (.pu 2 (.ef 3 [1] (.ef 4 [1] (.ef 5 [] (.pu 6 (.ef 7 [] (.nil))))))))) [[], [0], [], [2], [2, 3], [0, 1, 2, 3, 4], [0, 1, 2, 3, 4, 5], [0, 1, 2, 3, 4, 5, 6]] [.p (.fa 84 45 (.tmp 3) 7), .p (.ld 85 43 (.tmp 84)), .p (.mv 86 (.tmp 0)), .p (.cm (some 87) 108 [true, false] [.tmp 86, .const (.int .i64 4)] [92, 3]), .p (.bs 88 43 1 [(0, .tmp 87)]), .p (.ap (some 89) 43 43 (.tmp 85) (.tmp 88)), .p (.fa 90 45 (.tmp 3) 7), .p (.st 43 (.tmp 90) (.tmp 89))] [[], [0], [], [2], [3], [1, 4, 3], [0, 1, 2, 3, 4, 5], [6, 5, 5, 0, 1, 2, 3, 4, 5]]))
                  (.reg [.p (.mv 82 (.tmp 6)), .p (.bn 83 .sub 3 (.tmp 82) (.const (.int .i64 1)) 3), .p (.as 6 (.tmp 83))]))))))
             (.sq [2, 3, 99] (.reg [.p (.mv 91 (.tmp 0)), .p (.cm (some 92) 40 [true, false] [.tmp 91, .const (.int .i64 8)] [92, 3]), .p (.bn 93 .eql 3 (.tmp 92) (.const (.int .i64 0)) 3), .p (.mv 94 (.tmp 93)), .g 94 true (.fa 95 45 (.tmp 3) 7), .g 94 true (.ld 96 43 (.tmp 95)), .g 94 true (.ln 97 43 (.tmp 96)), .g 94 true (.bn 98 .gtr 3 (.tmp 97) (.const (.int .i64 0)) 3), .p (.pk 99 (.tmp 94) (.tmp 98) (.const (.bool false)))])
              (.cond (.tmp 99)
               (.dr (.pu 0 (.pu 1 (.ef 2 [1] (.pu 3 (.ef 4 [] (.nil)))))) [[], [0], [], [0, 1, 2], [0, 1, 2, 3]] [.p (.fa 100 45 (.tmp 3) 7), .p (.ld 101 43 (.tmp 100)), .p (.cl (some 102) 121 [.const (.string { data := #[107] }), .const (.int .i64 40)] [9, 3]), .p (.ia 103 43 (.tmp 101) (.const (.int .i64 0))), .p (.st 9 (.tmp 103) (.tmp 102))] [[], [0], [], [1, 0, 1, 2], [3, 2, 2, 0, 1, 2]])
               (.skip))))
            (.skip)))
          (.sq [2] (.reg [.p (.ld 104 45 (.tmp 3)), .p (.st 45 (.tmp 2) (.tmp 104))])
           (.ret)))))))))))
theorem b107 : BodyOK Try.prog 107 c107 105 [.cell 2 45] := ⟨Try.f107, by kernel_rfl, by kernel_rfl, by kernel_rfl, by kernel_rfl, by kernel_rfl⟩
set_option maxRecDepth 100000 in
@[go_sem] theorem k107_0 : chkT (.pu 0 (.pu 1 (.ef 2 [1] (.pu 3 (.ef 4 [] (.nil)))))) [[], [0], [], [0, 1, 2], [0, 1, 2, 3]] (soI [.p (.fa 100 45 (.tmp 3) 7), .p (.ld 101 43 (.tmp 100)), .p (.cl (some 102) 121 [.const (.string { data := #[107] }), .const (.int .i64 40)] [9, 3]), .p (.ia 103 43 (.tmp 101) (.const (.int .i64 0))), .p (.st 9 (.tmp 103) (.tmp 102))]) [[], [0], [], [1, 0, 1, 2], [3, 2, 2, 0, 1, 2]] = true := by kernel_rfl
set_option maxRecDepth 100000 in
@[go_sem] theorem k107_1 : chkT (.pu 0 (.pu 1 (.pu 2 (.ef 3 [1] (.ef 4 [1] (.ef 5 [] (.pu 6 (.ef 7 [] (.nil))))))))) [[], [0], [], [2], [2, 3], [0, 1, 2, 3, 4], [0, 1, 2, 3, 4, 5], [0, 1, 2, 3, 4, 5, 6]] (soI [.p (.fa 84 45 (.tmp 3) 7), .p (.ld 85 43 (.tmp 84)), .p (.mv 86 (.tmp 0)), .p (.cm (some 87) 108 [true, false] [.tmp 86, .const (.int .i64 4)] [92, 3]), .p (.bs 88 43 1 [(0, .tmp 87)]), .p (.ap (some 89) 43 43 (.tmp 85) (.tmp 88)), .p (.fa 90 45 (.tmp 3) 7), .p (.st 43 (.tmp 90) (.tmp 89))]) [[], [0], [], [2], [3], [1, 4, 3], [0, 1, 2, 3, 4, 5], [6, 5, 5, 0, 1, 2, 3, 4, 5]] = true := by kernel_rfl
set_option maxRecDepth 100000 in
@[go_sem] theorem k107_2 : chkT (.pu 0 (.pu 1 (.pu 2 (.ef 3 [1] (.ef 4 [1] (.ef 5 [] (.pu 6 (.ef 7 [] (.nil))))))))) [[], [0], [], [2], [2, 3], [0, 1, 2, 3, 4], [0, 1, 2, 3, 4, 5], [0, 1, 2, 3, 4, 5, 6]] (soI [.p (.fa 56 45 (.tmp 3) 6), .p (.ld 57 42 (.tmp 56)), .p (.mv 58 (.tmp 0)), .p (.cm (some 59) 97 [true] [.tmp 58] [92]), .p (.bs 60 42 1 [(0, .tmp 59)]), .p (.ap (some 61) 42 42 (.tmp 57) (.tmp 60)), .p (.fa 62 45 (.tmp 3) 6), .p (.st 42 (.tmp 62) (.tmp 61))]) [[], [0], [], [2], [3], [1, 4, 3], [0, 1, 2, 3, 4, 5], [6, 5, 5, 0, 1, 2, 3, 4, 5]] = true := by kernel_rfl

theorem Dr.ok.le {r : Dr} {a b : Nat} (h : r.ok a) (hb : a ≤ b) : r.ok b := ⟨h.1, Nat.le_trans h.2 hb⟩
theorem Dr.ok.adv {r : Dr} {a : Nat} (h : r.ok a) (i : Nat) : (r.adv i).ok (a + i) := ⟨h.1, Nat.add_le_add_right h.2 i⟩
theorem Dr.ok.nx {r : Dr} {a : Nat} (h : r.ok a) : r.nx.ok (a + 1) := ⟨h.1, Nat.add_le_add_right h.2 1⟩
theorem pick_lt {r : Dr} {n : Int} (h : r.ok 1000000000) (hn : 1 ≤ n) : 0 ≤ pk r n ∧ pk r n < n := by
  have := (pick_c r n h).1
  omega
theorem pickM {r : Dr} (n : Int) (h : r.ok 1000000000) : CallM Try.prog 40 r.row [vD, vI n] (vI (pk r n)) r.nx.row := (pick_c r n h).2
def szD (r : Dr) : Int × Dr := if pk r 8 = 0 then (256 - pk r.nx 2, r.nx.nx) else (pk r.nx 30, r.nx.nx)
theorem c133_c (r : Dr) (h : r.ok 900000000) : (0 ≤ (szD r).1 ∧ (szD r).1 ≤ 256) ∧ (szD r).2.ok 1000000000 ∧ (szD r).2.p = r.p + 2 ∧ CallM Try.prog 133 r.row [vD] (vI (szD r).1) (szD r).2.row := by
  have h0 := h.le (b := 1000000000) (by omega)
  have h1 := h.nx.le (b := 1000000000) (by omega)
  have h2 := h.nx.nx.le (b := 1000000000) (by omega)
  have p8 := pick_lt h0 (n := 8) (by omega)
  have p2 := pick_lt h1 (n := 2) (by omega)
  have p30 := pick_lt h1 (n := 30) (by omega)
  unfold szD
  by_cases k0 : pk r 8 = 0
  · rw [if_pos k0]
    refine ⟨⟨by show 0 ≤ 256 - pk r.nx 2; omega, by show 256 - pk r.nx 2 ≤ 256; omega⟩, h2, rfl, ?_⟩
    refine callM_of_jv b133 rfl ?_
    have k1 : (pk r 8 == 0) = true := by simpa using k0
    have w1 : IntKind.i64.wrap (256 - pk r.nx 2) = 256 - pk r.nx 2 := wrS (by omega)
    simp -implicitDefEqProofs only [go_sem]
    refine WantM.intro (pickM 8 h0) ?_
    simp -implicitDefEqProofs only [go_sem, k1, condJ_true]
    refine WantM.intro (pickM 2 h1) ?_
    simp -implicitDefEqProofs only [go_sem, w1]
  · rw [if_neg k0]
    refine ⟨⟨p30.1, by show pk r.nx 30 ≤ 256; omega⟩, h2, rfl, ?_⟩
    refine callM_of_jv b133 rfl ?_
    have k1 : (pk r 8 == 0) = false := by simpa using k0
    simp -implicitDefEqProofs only [go_sem]
    refine WantM.intro (pickM 8 h0) ?_
    simp -implicitDefEqProofs only [go_sem, k1, condJ_false]
    refine WantM.intro (pickM 30 h1) ?_
    simp -implicitDefEqProofs only [go_sem]
/-- A message in rows of its own, and the reader. -/
def MMsg.outD (m : MMsg) (r : Dr) : Sig := [(1000000, 0, one ⟨2, [r.cs], 0, false⟩), (0, 0, one ⟨4, m.proof.map MDig.cs, 2, false⟩), (1, 0, one ⟨1, m.leaves.map leafCs, 2, false⟩)]
attribute [go_sem] MMsg.outD
def PostMsg (r : Dr) (res : AV) (σ : Sig) : Prop := ∃ (m : MMsg) (r' : Dr), (res = m.avM ∧ σ = m.outD r') ∧ mWireOk m = true ∧ m.root.ok ∧ (∀ d ∈ m.proof, d.ok) ∧ r'.ok (r.p + 1000)
theorem tx_ok (r : Dr) (n : Int) {a : Nat} (h : r.ok a) (ha : a ≤ 900000000) (hn : 0 ≤ n) : (tx r n).2.ok (a + 1 + n.toNat) ∧ (tx r n).1.size ≤ n.toNat := by
  have hq := pick_lt (h.le (b := 1000000000) (by omega)) (n := n + 1) (by omega)
  refine ⟨⟨h.1, ?_⟩, ?_⟩
  · show r.p + 1 + (pk r (n + 1)).toNat ≤ _
    have := h.2
    omega
  · show (bA _).size ≤ _
    rw [bA_size, txL_len]
    omega
theorem many40 : CallR Try.prog 121 [vS ⟨#[107]⟩, vI 40] (vS (bA (rep [107] 40))) [] := c121_c [107] 40 (by omega) (by simp)
theorem leavesOk_set {l : List ByteArray} (h : leavesOk l = true) (i : Nat) {s : ByteArray} (hs : s.size ≤ 40) : leavesOk (l.set i s) = true := by
  simp only [leavesOk, List.all_eq_true, decide_eq_true_eq] at *
  intro x hx
  rcases List.mem_or_eq_of_mem_set hx with hx | rfl
  · exact h x hx
  · exact hs
attribute [go_sem] dig0
theorem c107_c (r : Dr) (h1 : r.ok 700000000) : ∃ res σ, PostMsg r res σ ∧ CallM Try.prog 107 r.row [vD] res σ := by
  refine callX_of_jv b107 rfl (PostMsg r) rfl ?_
  have hp := h1.2
  have ok : ∀ i, i ≤ 1000 → (r.adv i).ok 1000000000 := fun i hi => (h1.adv i).le (by omega)
  have h0 := h1.le (b := 1000000000) (by omega)
  have p8 := pick_lt h0 (n := 8) (by omega)
  have q2 := pick_lt (ok 3 (by omega)) (n := 2) (by omega)
  have q5 := pick_lt (ok 1 (by omega)) (n := 5) (by omega)
  have ws1 : IntKind.i64.wrap (1000000 - pk (r.adv 3) 2) = 1000000 - pk (r.adv 3) 2 := wrS (by omega)
  have ws2 : IntKind.i64.wrap (1 + pk (r.adv 1) 5) = 1 + pk (r.adv 1) 5 := wrS (by omega)
  have b1 : 1 ≤ 1000000 - pk (r.adv 3) 2 ∧ 1000000 - pk (r.adv 3) 2 ≤ 1000000 := by omega
  have b2 : 1 ≤ 1 + pk (r.adv 1) 5 ∧ 1 + pk (r.adv 1) 5 ≤ 1000000 := by omega
  have w1 : IntKind.i64.wrap (1 + pk r 8) = 1 + pk r 8 := wrS (by omega)
  simp -implicitDefEqProofs only [go_sem]
  refine WantM.intro (pickM 8 h0) ?_
  simp -implicitDefEqProofs only [go_sem, w1]
  refine Want.intro (c54_c _) ?_
  generalize hK : 1 + pk r 8 = K at *
  have hk8 : K = 1 ∨ K = 2 ∨ K = 3 ∨ K = 6 ∨ K = 4 ∨ K = 5 ∨ K = 7 ∨ K = 8 := by omega
  rcases hk8 with rfl | rfl | rfl | rfl | rfl | rfl | rfl | rfl
  all_goals simp -implicitDefEqProofs only [go_sem, condJ_true, condJ_false]
  all_goals repeat' first | (refine Want.intro (by first | exact c56_c _ 115 (by decide) | exact c56_c _ 102 (by decide) | exact c56_c _ 110 (by decide) | exact c56_c _ 114 (by decide) | exact c56_c _ 99 (by decide) | exact c56_c _ 112 (by decide) | exact c56_c _ 108 (by decide) | exact pickM _ (ok 1 (by omega)) | exact pickM _ (ok 2 (by omega)) | exact pickM _ (ok 3 (by omega))) ?_; try simp -implicitDefEqProofs only [go_sem, condJ_true, condJ_false, ws1, ws2]) | (refine WantM.intro (by first | exact c56_c _ 115 (by decide) | exact c56_c _ 102 (by decide) | exact c56_c _ 110 (by decide) | exact c56_c _ 114 (by decide) | exact c56_c _ 99 (by decide) | exact c56_c _ 112 (by decide) | exact c56_c _ 108 (by decide) | exact pickM _ (ok 1 (by omega)) | exact pickM _ (ok 2 (by omega)) | exact pickM _ (ok 3 (by omega))) ?_; try simp -implicitDefEqProofs only [go_sem, condJ_true, condJ_false, ws1, ws2]) | (refine guardP_intro (fun h => ?_) (fun h => ?_) <;> try simp -implicitDefEqProofs only [go_sem, condJ_true, condJ_false, ws1, ws2, h]) | (refine condJ_intro (fun h => ?_) (fun h => ?_) <;> try simp -implicitDefEqProofs only [go_sem, condJ_true, condJ_false, ws1, ws2, h])
  · refine RetAt.intro (MMsg.avM ⟨1, (1000000 - pk (r.adv 3) 2), 0, 0, dig0, 0, [], []⟩) (MMsg.outD ⟨1, (1000000 - pk (r.adv 3) 2), 0, 0, dig0, 0, [], []⟩ (r.adv 4)) ⟨⟨1, (1000000 - pk (r.adv 3) 2), 0, 0, dig0, 0, [], []⟩, (r.adv 4), ⟨rfl, rfl⟩, ok_s b1, dig0_ok, by simp, ⟨h0.1, by show r.p + 4 ≤ _; omega⟩⟩ ?_
    simp -implicitDefEqProofs only [go_sem]
    first | done | rfl | exact ⟨rfl, rfl⟩
  · refine RetAt.intro (MMsg.avM ⟨1, (1 + pk (r.adv 1) 5), 0, 0, dig0, 0, [], []⟩) (MMsg.outD ⟨1, (1 + pk (r.adv 1) 5), 0, 0, dig0, 0, [], []⟩ (r.adv 3)) ⟨⟨1, (1 + pk (r.adv 1) 5), 0, 0, dig0, 0, [], []⟩, (r.adv 3), ⟨rfl, rfl⟩, ok_s b2, dig0_ok, by simp, ⟨h0.1, by show r.p + 3 ≤ _; omega⟩⟩ ?_
    simp -implicitDefEqProofs only [go_sem]
    first | done | rfl | exact ⟨rfl, rfl⟩
  · have z := c133_c (r.adv 4) ((h1.adv 4).le (by omega))
    have zp := z.2.2.1
    rw [adv_p] at zp
    have zd := z.2.1
    have zk : (szD (r.adv 4)).2.ok (r.p + 4 + 2) := ⟨zd.1, by omega⟩
    refine WantM.intro z.2.2.2 ?_
    simp -implicitDefEqProofs only [go_sem]
    repeat' first | (refine Want.intro (by first | exact c56_c _ 115 (by decide) | exact c56_c _ 102 (by decide) | exact c56_c _ 110 (by decide) | exact c56_c _ 114 (by decide) | exact c56_c _ 99 (by decide) | exact c56_c _ 112 (by decide) | exact c56_c _ 108 (by decide)) ?_; try simp -implicitDefEqProofs only [go_sem, condJ_true, condJ_false]) | (refine WantM.intro (by first | exact c56_c _ 115 (by decide) | exact c56_c _ 102 (by decide) | exact c56_c _ 110 (by decide) | exact c56_c _ 114 (by decide) | exact c56_c _ 99 (by decide) | exact c56_c _ 112 (by decide) | exact c56_c _ 108 (by decide)) ?_; try simp -implicitDefEqProofs only [go_sem, condJ_true, condJ_false]) | (refine guardP_intro (fun h => ?_) (fun h => ?_) <;> try simp -implicitDefEqProofs only [go_sem, condJ_true, condJ_false, h]) | (refine condJ_intro (fun h => ?_) (fun h => ?_) <;> try simp -implicitDefEqProofs only [go_sem, condJ_true, condJ_false, h])
    refine WantM.intro (c97_c _ (zk.le (by omega))) ?_
    simp -implicitDefEqProofs only [go_sem]
    repeat' first | (refine Want.intro (by first | exact c56_c _ 115 (by decide) | exact c56_c _ 102 (by decide) | exact c56_c _ 110 (by decide) | exact c56_c _ 114 (by decide) | exact c56_c _ 99 (by decide) | exact c56_c _ 112 (by decide) | exact c56_c _ 108 (by decide)) ?_; try simp -implicitDefEqProofs only [go_sem, condJ_true, condJ_false]) | (refine WantM.intro (by first | exact c56_c _ 115 (by decide) | exact c56_c _ 102 (by decide) | exact c56_c _ 110 (by decide) | exact c56_c _ 114 (by decide) | exact c56_c _ 99 (by decide) | exact c56_c _ 112 (by decide) | exact c56_c _ 108 (by decide)) ?_; try simp -implicitDefEqProofs only [go_sem, condJ_true, condJ_false]) | (refine guardP_intro (fun h => ?_) (fun h => ?_) <;> try simp -implicitDefEqProofs only [go_sem, condJ_true, condJ_false, h]) | (refine condJ_intro (fun h => ?_) (fun h => ?_) <;> try simp -implicitDefEqProofs only [go_sem, condJ_true, condJ_false, h])
    refine RetAt.intro (MMsg.avM ⟨2, (1000000 - pk (r.adv 3) 2), 0, (szD (r.adv 4)).1, (dgR (szD (r.adv 4)).2).1, 0, [], []⟩) (MMsg.outD ⟨2, (1000000 - pk (r.adv 3) 2), 0, (szD (r.adv 4)).1, (dgR (szD (r.adv 4)).2).1, 0, [], []⟩ (dgR (szD (r.adv 4)).2).2) ⟨⟨2, (1000000 - pk (r.adv 3) 2), 0, (szD (r.adv 4)).1, (dgR (szD (r.adv 4)).2).1, 0, [], []⟩, (dgR (szD (r.adv 4)).2).2, ⟨rfl, rfl⟩, ok_szr2 b1 z.1, dgR_dig _ (zk.le (by omega)), by simp, (dgR_ok _ zk).1.le (by omega)⟩ ?_
    simp -implicitDefEqProofs only [go_sem]
    first | done | rfl | exact ⟨rfl, rfl⟩
  · have z := c133_c (r.adv 3) ((h1.adv 3).le (by omega))
    have zp := z.2.2.1
    rw [adv_p] at zp
    have zd := z.2.1
    have zk : (szD (r.adv 3)).2.ok (r.p + 3 + 2) := ⟨zd.1, by omega⟩
    refine WantM.intro z.2.2.2 ?_
    simp -implicitDefEqProofs only [go_sem]
    repeat' first | (refine Want.intro (by first | exact c56_c _ 115 (by decide) | exact c56_c _ 102 (by decide) | exact c56_c _ 110 (by decide) | exact c56_c _ 114 (by decide) | exact c56_c _ 99 (by decide) | exact c56_c _ 112 (by decide) | exact c56_c _ 108 (by decide)) ?_; try simp -implicitDefEqProofs only [go_sem, condJ_true, condJ_false]) | (refine WantM.intro (by first | exact c56_c _ 115 (by decide) | exact c56_c _ 102 (by decide) | exact c56_c _ 110 (by decide) | exact c56_c _ 114 (by decide) | exact c56_c _ 99 (by decide) | exact c56_c _ 112 (by decide) | exact c56_c _ 108 (by decide)) ?_; try simp -implicitDefEqProofs only [go_sem, condJ_true, condJ_false]) | (refine guardP_intro (fun h => ?_) (fun h => ?_) <;> try simp -implicitDefEqProofs only [go_sem, condJ_true, condJ_false, h]) | (refine condJ_intro (fun h => ?_) (fun h => ?_) <;> try simp -implicitDefEqProofs only [go_sem, condJ_true, condJ_false, h])
    refine WantM.intro (c97_c _ (zk.le (by omega))) ?_
    simp -implicitDefEqProofs only [go_sem]
    repeat' first | (refine Want.intro (by first | exact c56_c _ 115 (by decide) | exact c56_c _ 102 (by decide) | exact c56_c _ 110 (by decide) | exact c56_c _ 114 (by decide) | exact c56_c _ 99 (by decide) | exact c56_c _ 112 (by decide) | exact c56_c _ 108 (by decide)) ?_; try simp -implicitDefEqProofs only [go_sem, condJ_true, condJ_false]) | (refine WantM.intro (by first | exact c56_c _ 115 (by decide) | exact c56_c _ 102 (by decide) | exact c56_c _ 110 (by decide) | exact c56_c _ 114 (by decide) | exact c56_c _ 99 (by decide) | exact c56_c _ 112 (by decide) | exact c56_c _ 108 (by decide)) ?_; try simp -implicitDefEqProofs only [go_sem, condJ_true, condJ_false]) | (refine guardP_intro (fun h => ?_) (fun h => ?_) <;> try simp -implicitDefEqProofs only [go_sem, condJ_true, condJ_false, h]) | (refine condJ_intro (fun h => ?_) (fun h => ?_) <;> try simp -implicitDefEqProofs only [go_sem, condJ_true, condJ_false, h])
    refine RetAt.intro (MMsg.avM ⟨2, (1 + pk (r.adv 1) 5), 0, (szD (r.adv 3)).1, (dgR (szD (r.adv 3)).2).1, 0, [], []⟩) (MMsg.outD ⟨2, (1 + pk (r.adv 1) 5), 0, (szD (r.adv 3)).1, (dgR (szD (r.adv 3)).2).1, 0, [], []⟩ (dgR (szD (r.adv 3)).2).2) ⟨⟨2, (1 + pk (r.adv 1) 5), 0, (szD (r.adv 3)).1, (dgR (szD (r.adv 3)).2).1, 0, [], []⟩, (dgR (szD (r.adv 3)).2).2, ⟨rfl, rfl⟩, ok_szr2 b2 z.1, dgR_dig _ (zk.le (by omega)), by simp, (dgR_ok _ zk).1.le (by omega)⟩ ?_
    simp -implicitDefEqProofs only [go_sem]
    first | done | rfl | exact ⟨rfl, rfl⟩
  · have z := c133_c (r.adv 4) ((h1.adv 4).le (by omega))
    have zp := z.2.2.1
    rw [adv_p] at zp
    have zd := z.2.1
    have zk : (szD (r.adv 4)).2.ok (r.p + 4 + 2) := ⟨zd.1, by omega⟩
    refine WantM.intro z.2.2.2 ?_
    simp -implicitDefEqProofs only [go_sem]
    repeat' first | (refine Want.intro (by first | exact c56_c _ 115 (by decide) | exact c56_c _ 102 (by decide) | exact c56_c _ 110 (by decide) | exact c56_c _ 114 (by decide) | exact c56_c _ 99 (by decide) | exact c56_c _ 112 (by decide) | exact c56_c _ 108 (by decide)) ?_; try simp -implicitDefEqProofs only [go_sem, condJ_true, condJ_false]) | (refine WantM.intro (by first | exact c56_c _ 115 (by decide) | exact c56_c _ 102 (by decide) | exact c56_c _ 110 (by decide) | exact c56_c _ 114 (by decide) | exact c56_c _ 99 (by decide) | exact c56_c _ 112 (by decide) | exact c56_c _ 108 (by decide)) ?_; try simp -implicitDefEqProofs only [go_sem, condJ_true, condJ_false]) | (refine guardP_intro (fun h => ?_) (fun h => ?_) <;> try simp -implicitDefEqProofs only [go_sem, condJ_true, condJ_false, h]) | (refine condJ_intro (fun h => ?_) (fun h => ?_) <;> try simp -implicitDefEqProofs only [go_sem, condJ_true, condJ_false, h])
    refine WantM.intro (c97_c _ (zk.le (by omega))) ?_
    simp -implicitDefEqProofs only [go_sem]
    repeat' first | (refine Want.intro (by first | exact c56_c _ 115 (by decide) | exact c56_c _ 102 (by decide) | exact c56_c _ 110 (by decide) | exact c56_c _ 114 (by decide) | exact c56_c _ 99 (by decide) | exact c56_c _ 112 (by decide) | exact c56_c _ 108 (by decide)) ?_; try simp -implicitDefEqProofs only [go_sem, condJ_true, condJ_false]) | (refine WantM.intro (by first | exact c56_c _ 115 (by decide) | exact c56_c _ 102 (by decide) | exact c56_c _ 110 (by decide) | exact c56_c _ 114 (by decide) | exact c56_c _ 99 (by decide) | exact c56_c _ 112 (by decide) | exact c56_c _ 108 (by decide)) ?_; try simp -implicitDefEqProofs only [go_sem, condJ_true, condJ_false]) | (refine guardP_intro (fun h => ?_) (fun h => ?_) <;> try simp -implicitDefEqProofs only [go_sem, condJ_true, condJ_false, h]) | (refine condJ_intro (fun h => ?_) (fun h => ?_) <;> try simp -implicitDefEqProofs only [go_sem, condJ_true, condJ_false, h])
    refine RetAt.intro (MMsg.avM ⟨3, (1000000 - pk (r.adv 3) 2), 0, (szD (r.adv 4)).1, (dgR (szD (r.adv 4)).2).1, 0, [], []⟩) (MMsg.outD ⟨3, (1000000 - pk (r.adv 3) 2), 0, (szD (r.adv 4)).1, (dgR (szD (r.adv 4)).2).1, 0, [], []⟩ (dgR (szD (r.adv 4)).2).2) ⟨⟨3, (1000000 - pk (r.adv 3) 2), 0, (szD (r.adv 4)).1, (dgR (szD (r.adv 4)).2).1, 0, [], []⟩, (dgR (szD (r.adv 4)).2).2, ⟨rfl, rfl⟩, ok_szr3 b1 z.1, dgR_dig _ (zk.le (by omega)), by simp, (dgR_ok _ zk).1.le (by omega)⟩ ?_
    simp -implicitDefEqProofs only [go_sem]
    first | done | rfl | exact ⟨rfl, rfl⟩
  · have z := c133_c (r.adv 3) ((h1.adv 3).le (by omega))
    have zp := z.2.2.1
    rw [adv_p] at zp
    have zd := z.2.1
    have zk : (szD (r.adv 3)).2.ok (r.p + 3 + 2) := ⟨zd.1, by omega⟩
    refine WantM.intro z.2.2.2 ?_
    simp -implicitDefEqProofs only [go_sem]
    repeat' first | (refine Want.intro (by first | exact c56_c _ 115 (by decide) | exact c56_c _ 102 (by decide) | exact c56_c _ 110 (by decide) | exact c56_c _ 114 (by decide) | exact c56_c _ 99 (by decide) | exact c56_c _ 112 (by decide) | exact c56_c _ 108 (by decide)) ?_; try simp -implicitDefEqProofs only [go_sem, condJ_true, condJ_false]) | (refine WantM.intro (by first | exact c56_c _ 115 (by decide) | exact c56_c _ 102 (by decide) | exact c56_c _ 110 (by decide) | exact c56_c _ 114 (by decide) | exact c56_c _ 99 (by decide) | exact c56_c _ 112 (by decide) | exact c56_c _ 108 (by decide)) ?_; try simp -implicitDefEqProofs only [go_sem, condJ_true, condJ_false]) | (refine guardP_intro (fun h => ?_) (fun h => ?_) <;> try simp -implicitDefEqProofs only [go_sem, condJ_true, condJ_false, h]) | (refine condJ_intro (fun h => ?_) (fun h => ?_) <;> try simp -implicitDefEqProofs only [go_sem, condJ_true, condJ_false, h])
    refine WantM.intro (c97_c _ (zk.le (by omega))) ?_
    simp -implicitDefEqProofs only [go_sem]
    repeat' first | (refine Want.intro (by first | exact c56_c _ 115 (by decide) | exact c56_c _ 102 (by decide) | exact c56_c _ 110 (by decide) | exact c56_c _ 114 (by decide) | exact c56_c _ 99 (by decide) | exact c56_c _ 112 (by decide) | exact c56_c _ 108 (by decide)) ?_; try simp -implicitDefEqProofs only [go_sem, condJ_true, condJ_false]) | (refine WantM.intro (by first | exact c56_c _ 115 (by decide) | exact c56_c _ 102 (by decide) | exact c56_c _ 110 (by decide) | exact c56_c _ 114 (by decide) | exact c56_c _ 99 (by decide) | exact c56_c _ 112 (by decide) | exact c56_c _ 108 (by decide)) ?_; try simp -implicitDefEqProofs only [go_sem, condJ_true, condJ_false]) | (refine guardP_intro (fun h => ?_) (fun h => ?_) <;> try simp -implicitDefEqProofs only [go_sem, condJ_true, condJ_false, h]) | (refine condJ_intro (fun h => ?_) (fun h => ?_) <;> try simp -implicitDefEqProofs only [go_sem, condJ_true, condJ_false, h])
    refine RetAt.intro (MMsg.avM ⟨3, (1 + pk (r.adv 1) 5), 0, (szD (r.adv 3)).1, (dgR (szD (r.adv 3)).2).1, 0, [], []⟩) (MMsg.outD ⟨3, (1 + pk (r.adv 1) 5), 0, (szD (r.adv 3)).1, (dgR (szD (r.adv 3)).2).1, 0, [], []⟩ (dgR (szD (r.adv 3)).2).2) ⟨⟨3, (1 + pk (r.adv 1) 5), 0, (szD (r.adv 3)).1, (dgR (szD (r.adv 3)).2).1, 0, [], []⟩, (dgR (szD (r.adv 3)).2).2, ⟨rfl, rfl⟩, ok_szr3 b2 z.1, dgR_dig _ (zk.le (by omega)), by simp, (dgR_ok _ zk).1.le (by omega)⟩ ?_
    simp -implicitDefEqProofs only [go_sem]
    first | done | rfl | exact ⟨rfl, rfl⟩
  · have z := c133_c (r.adv 4) ((h1.adv 4).le (by omega))
    have zp := z.2.2.1
    rw [adv_p] at zp
    have zd := z.2.1
    have zk : (szD (r.adv 4)).2.ok (r.p + 4 + 2) := ⟨zd.1, by omega⟩
    refine WantM.intro z.2.2.2 ?_
    simp -implicitDefEqProofs only [go_sem]
    repeat' first | (refine Want.intro (by first | exact c56_c _ 115 (by decide) | exact c56_c _ 102 (by decide) | exact c56_c _ 110 (by decide) | exact c56_c _ 114 (by decide) | exact c56_c _ 99 (by decide) | exact c56_c _ 112 (by decide) | exact c56_c _ 108 (by decide)) ?_; try simp -implicitDefEqProofs only [go_sem, condJ_true, condJ_false]) | (refine WantM.intro (by first | exact c56_c _ 115 (by decide) | exact c56_c _ 102 (by decide) | exact c56_c _ 110 (by decide) | exact c56_c _ 114 (by decide) | exact c56_c _ 99 (by decide) | exact c56_c _ 112 (by decide) | exact c56_c _ 108 (by decide)) ?_; try simp -implicitDefEqProofs only [go_sem, condJ_true, condJ_false]) | (refine guardP_intro (fun h => ?_) (fun h => ?_) <;> try simp -implicitDefEqProofs only [go_sem, condJ_true, condJ_false, h]) | (refine condJ_intro (fun h => ?_) (fun h => ?_) <;> try simp -implicitDefEqProofs only [go_sem, condJ_true, condJ_false, h])
    refine WantM.intro (c97_c _ (zk.le (by omega))) ?_
    simp -implicitDefEqProofs only [go_sem]
    repeat' first | (refine Want.intro (by first | exact c56_c _ 115 (by decide) | exact c56_c _ 102 (by decide) | exact c56_c _ 110 (by decide) | exact c56_c _ 114 (by decide) | exact c56_c _ 99 (by decide) | exact c56_c _ 112 (by decide) | exact c56_c _ 108 (by decide)) ?_; try simp -implicitDefEqProofs only [go_sem, condJ_true, condJ_false]) | (refine WantM.intro (by first | exact c56_c _ 115 (by decide) | exact c56_c _ 102 (by decide) | exact c56_c _ 110 (by decide) | exact c56_c _ 114 (by decide) | exact c56_c _ 99 (by decide) | exact c56_c _ 112 (by decide) | exact c56_c _ 108 (by decide)) ?_; try simp -implicitDefEqProofs only [go_sem, condJ_true, condJ_false]) | (refine guardP_intro (fun h => ?_) (fun h => ?_) <;> try simp -implicitDefEqProofs only [go_sem, condJ_true, condJ_false, h]) | (refine condJ_intro (fun h => ?_) (fun h => ?_) <;> try simp -implicitDefEqProofs only [go_sem, condJ_true, condJ_false, h])
    refine RetAt.intro (MMsg.avM ⟨6, (1000000 - pk (r.adv 3) 2), 0, (szD (r.adv 4)).1, (dgR (szD (r.adv 4)).2).1, 0, [], []⟩) (MMsg.outD ⟨6, (1000000 - pk (r.adv 3) 2), 0, (szD (r.adv 4)).1, (dgR (szD (r.adv 4)).2).1, 0, [], []⟩ (dgR (szD (r.adv 4)).2).2) ⟨⟨6, (1000000 - pk (r.adv 3) 2), 0, (szD (r.adv 4)).1, (dgR (szD (r.adv 4)).2).1, 0, [], []⟩, (dgR (szD (r.adv 4)).2).2, ⟨rfl, rfl⟩, ok_szr6 b1 z.1, dgR_dig _ (zk.le (by omega)), by simp, (dgR_ok _ zk).1.le (by omega)⟩ ?_
    simp -implicitDefEqProofs only [go_sem]
    first | done | rfl | exact ⟨rfl, rfl⟩
  · have z := c133_c (r.adv 3) ((h1.adv 3).le (by omega))
    have zp := z.2.2.1
    rw [adv_p] at zp
    have zd := z.2.1
    have zk : (szD (r.adv 3)).2.ok (r.p + 3 + 2) := ⟨zd.1, by omega⟩
    refine WantM.intro z.2.2.2 ?_
    simp -implicitDefEqProofs only [go_sem]
    repeat' first | (refine Want.intro (by first | exact c56_c _ 115 (by decide) | exact c56_c _ 102 (by decide) | exact c56_c _ 110 (by decide) | exact c56_c _ 114 (by decide) | exact c56_c _ 99 (by decide) | exact c56_c _ 112 (by decide) | exact c56_c _ 108 (by decide)) ?_; try simp -implicitDefEqProofs only [go_sem, condJ_true, condJ_false]) | (refine WantM.intro (by first | exact c56_c _ 115 (by decide) | exact c56_c _ 102 (by decide) | exact c56_c _ 110 (by decide) | exact c56_c _ 114 (by decide) | exact c56_c _ 99 (by decide) | exact c56_c _ 112 (by decide) | exact c56_c _ 108 (by decide)) ?_; try simp -implicitDefEqProofs only [go_sem, condJ_true, condJ_false]) | (refine guardP_intro (fun h => ?_) (fun h => ?_) <;> try simp -implicitDefEqProofs only [go_sem, condJ_true, condJ_false, h]) | (refine condJ_intro (fun h => ?_) (fun h => ?_) <;> try simp -implicitDefEqProofs only [go_sem, condJ_true, condJ_false, h])
    refine WantM.intro (c97_c _ (zk.le (by omega))) ?_
    simp -implicitDefEqProofs only [go_sem]
    repeat' first | (refine Want.intro (by first | exact c56_c _ 115 (by decide) | exact c56_c _ 102 (by decide) | exact c56_c _ 110 (by decide) | exact c56_c _ 114 (by decide) | exact c56_c _ 99 (by decide) | exact c56_c _ 112 (by decide) | exact c56_c _ 108 (by decide)) ?_; try simp -implicitDefEqProofs only [go_sem, condJ_true, condJ_false]) | (refine WantM.intro (by first | exact c56_c _ 115 (by decide) | exact c56_c _ 102 (by decide) | exact c56_c _ 110 (by decide) | exact c56_c _ 114 (by decide) | exact c56_c _ 99 (by decide) | exact c56_c _ 112 (by decide) | exact c56_c _ 108 (by decide)) ?_; try simp -implicitDefEqProofs only [go_sem, condJ_true, condJ_false]) | (refine guardP_intro (fun h => ?_) (fun h => ?_) <;> try simp -implicitDefEqProofs only [go_sem, condJ_true, condJ_false, h]) | (refine condJ_intro (fun h => ?_) (fun h => ?_) <;> try simp -implicitDefEqProofs only [go_sem, condJ_true, condJ_false, h])
    refine RetAt.intro (MMsg.avM ⟨6, (1 + pk (r.adv 1) 5), 0, (szD (r.adv 3)).1, (dgR (szD (r.adv 3)).2).1, 0, [], []⟩) (MMsg.outD ⟨6, (1 + pk (r.adv 1) 5), 0, (szD (r.adv 3)).1, (dgR (szD (r.adv 3)).2).1, 0, [], []⟩ (dgR (szD (r.adv 3)).2).2) ⟨⟨6, (1 + pk (r.adv 1) 5), 0, (szD (r.adv 3)).1, (dgR (szD (r.adv 3)).2).1, 0, [], []⟩, (dgR (szD (r.adv 3)).2).2, ⟨rfl, rfl⟩, ok_szr6 b2 z.1, dgR_dig _ (zk.le (by omega)), by simp, (dgR_ok _ zk).1.le (by omega)⟩ ?_
    simp -implicitDefEqProofs only [go_sem]
    first | done | rfl | exact ⟨rfl, rfl⟩
  · have z := c133_c r.nx (h1.nx.le (by omega))
    have zp := z.2.2.1
    rw [nx_p] at zp
    have zd := z.2.1
    have zk : (szD r.nx).2.ok (r.p + 3) := ⟨zd.1, by omega⟩
    refine WantM.intro z.2.2.2 ?_
    simp -implicitDefEqProofs only [go_sem]
    repeat' first | (refine Want.intro (by first | exact c56_c _ 115 (by decide) | exact c56_c _ 102 (by decide) | exact c56_c _ 110 (by decide) | exact c56_c _ 114 (by decide) | exact c56_c _ 99 (by decide) | exact c56_c _ 112 (by decide) | exact c56_c _ 108 (by decide)) ?_; try simp -implicitDefEqProofs only [go_sem, condJ_true, condJ_false]) | (refine WantM.intro (by first | exact c56_c _ 115 (by decide) | exact c56_c _ 102 (by decide) | exact c56_c _ 110 (by decide) | exact c56_c _ 114 (by decide) | exact c56_c _ 99 (by decide) | exact c56_c _ 112 (by decide) | exact c56_c _ 108 (by decide)) ?_; try simp -implicitDefEqProofs only [go_sem, condJ_true, condJ_false]) | (refine guardP_intro (fun h => ?_) (fun h => ?_) <;> try simp -implicitDefEqProofs only [go_sem, condJ_true, condJ_false, h]) | (refine condJ_intro (fun h => ?_) (fun h => ?_) <;> try simp -implicitDefEqProofs only [go_sem, condJ_true, condJ_false, h])
    have y := c133_c (szD r.nx).2 (zk.le (by omega))
    have yd := y.2.1
    have yp := y.2.2.1
    have yk : (szD (szD r.nx).2).2.ok (r.p + 5) := ⟨yd.1, by omega⟩
    refine WantM.intro y.2.2.2 ?_
    simp -implicitDefEqProofs only [go_sem]
    repeat' first | (refine Want.intro (by first | exact c56_c _ 115 (by decide) | exact c56_c _ 102 (by decide) | exact c56_c _ 110 (by decide) | exact c56_c _ 114 (by decide) | exact c56_c _ 99 (by decide) | exact c56_c _ 112 (by decide) | exact c56_c _ 108 (by decide)) ?_; try simp -implicitDefEqProofs only [go_sem, condJ_true, condJ_false]) | (refine WantM.intro (by first | exact c56_c _ 115 (by decide) | exact c56_c _ 102 (by decide) | exact c56_c _ 110 (by decide) | exact c56_c _ 114 (by decide) | exact c56_c _ 99 (by decide) | exact c56_c _ 112 (by decide) | exact c56_c _ 108 (by decide)) ?_; try simp -implicitDefEqProofs only [go_sem, condJ_true, condJ_false]) | (refine guardP_intro (fun h => ?_) (fun h => ?_) <;> try simp -implicitDefEqProofs only [go_sem, condJ_true, condJ_false, h]) | (refine condJ_intro (fun h => ?_) (fun h => ?_) <;> try simp -implicitDefEqProofs only [go_sem, condJ_true, condJ_false, h])
    refine RetAt.intro (MMsg.avM ⟨4, 0, (szD r.nx).1, (szD (szD r.nx).2).1, dig0, 0, [], []⟩) (MMsg.outD ⟨4, 0, (szD r.nx).1, (szD (szD r.nx).2).1, dig0, 0, [], []⟩ (szD (szD r.nx).2).2) ⟨⟨4, 0, (szD r.nx).1, (szD (szD r.nx).2).1, dig0, 0, [], []⟩, (szD (szD r.nx).2).2, ⟨rfl, rfl⟩, ok_fz z.1 y.1, dig0_ok, by simp, yk.le (by omega)⟩ ?_
    simp -implicitDefEqProofs only [go_sem]
    first | done | rfl | exact ⟨rfl, rfl⟩
  · have z := c133_c r.nx (h1.nx.le (by omega))
    have zp := z.2.2.1
    rw [nx_p] at zp
    have zd := z.2.1
    have zk : (szD r.nx).2.ok (r.p + 3) := ⟨zd.1, by omega⟩
    refine WantM.intro z.2.2.2 ?_
    simp -implicitDefEqProofs only [go_sem]
    repeat' first | (refine Want.intro (by first | exact c56_c _ 115 (by decide) | exact c56_c _ 102 (by decide) | exact c56_c _ 110 (by decide) | exact c56_c _ 114 (by decide) | exact c56_c _ 99 (by decide) | exact c56_c _ 112 (by decide) | exact c56_c _ 108 (by decide)) ?_; try simp -implicitDefEqProofs only [go_sem, condJ_true, condJ_false]) | (refine WantM.intro (by first | exact c56_c _ 115 (by decide) | exact c56_c _ 102 (by decide) | exact c56_c _ 110 (by decide) | exact c56_c _ 114 (by decide) | exact c56_c _ 99 (by decide) | exact c56_c _ 112 (by decide) | exact c56_c _ 108 (by decide)) ?_; try simp -implicitDefEqProofs only [go_sem, condJ_true, condJ_false]) | (refine guardP_intro (fun h => ?_) (fun h => ?_) <;> try simp -implicitDefEqProofs only [go_sem, condJ_true, condJ_false, h]) | (refine condJ_intro (fun h => ?_) (fun h => ?_) <;> try simp -implicitDefEqProofs only [go_sem, condJ_true, condJ_false, h])
    have y := c133_c (szD r.nx).2 (zk.le (by omega))
    have yd := y.2.1
    have yp := y.2.2.1
    have yk : (szD (szD r.nx).2).2.ok (r.p + 5) := ⟨yd.1, by omega⟩
    refine WantM.intro y.2.2.2 ?_
    simp -implicitDefEqProofs only [go_sem]
    repeat' first | (refine Want.intro (by first | exact c56_c _ 115 (by decide) | exact c56_c _ 102 (by decide) | exact c56_c _ 110 (by decide) | exact c56_c _ 114 (by decide) | exact c56_c _ 99 (by decide) | exact c56_c _ 112 (by decide) | exact c56_c _ 108 (by decide)) ?_; try simp -implicitDefEqProofs only [go_sem, condJ_true, condJ_false]) | (refine WantM.intro (by first | exact c56_c _ 115 (by decide) | exact c56_c _ 102 (by decide) | exact c56_c _ 110 (by decide) | exact c56_c _ 114 (by decide) | exact c56_c _ 99 (by decide) | exact c56_c _ 112 (by decide) | exact c56_c _ 108 (by decide)) ?_; try simp -implicitDefEqProofs only [go_sem, condJ_true, condJ_false]) | (refine guardP_intro (fun h => ?_) (fun h => ?_) <;> try simp -implicitDefEqProofs only [go_sem, condJ_true, condJ_false, h]) | (refine condJ_intro (fun h => ?_) (fun h => ?_) <;> try simp -implicitDefEqProofs only [go_sem, condJ_true, condJ_false, h])
    generalize (szD (szD r.nx).2).2 = R at *
    generalize (szD (szD r.nx).2).1 = ZZ at *
    generalize (szD r.nx).1 = FF at *
    have hq := pick_lt (yk.le (b := 1000000000) (by omega)) (n := 5) (by omega)
    refine WantM.intro (pickM 5 (yk.le (by omega))) ?_
    simp -implicitDefEqProofs only [go_sem]
    obtain ⟨K, hK⟩ : ∃ K : Nat, pk R 5 = K := ⟨(pk R 5).toNat, by omega⟩
    have hK4 : K ≤ 4 := by omega
    rw [hK]
    refine jv_lpN [(10003, 4)] (fun m s => ∃ (i : Nat) (l : List MDig) (Q : Dr), i ≤ K ∧ m = K - i ∧ l.length = i ∧ (∀ d ∈ l, d.ok) ∧ Q.ok (r.p + 6 + 36 * i) ∧ s = ⟨105, [(0, vD), (2, .ptr 2 0 [] 11 0 0), (3, .ptr 3 0 [] 11 0 0), (4, vS ⟨#[102, 110, 112]⟩), (5, vI ((K - i : Nat) : Int))], [(1000000, 0, one ⟨2, [Q.cs], 0, false⟩), (2, 0, one ⟨11, [zRow], 0, false⟩), (3, 0, one ⟨11, [[vI 5, vI 0, vI FF, vI ZZ, vU 0, vU 0, vU 0, vU 0, vI 0, .blk 10003 0 [] 4 0 l.length, .nilS]], 0, false⟩), (10003, 0, one ⟨4, l.map MDig.cs, 2, false⟩)], 1⟩) K ?_ ?_
    · simp -implicitDefEqProofs only [go_sem]
      exact ⟨0, [], R.nx, by omega, rfl, rfl, by simp, yk.nx, rfl⟩
    · rintro m s ⟨i, l, Q, hi, rfl, hl, hd, hQ, rfl⟩
      rcases Nat.lt_or_ge i K with hlt | hge
      · have hlt' : ((K - i : Nat) : Int) > 0 := by omega
        have w4 : IntKind.i64.wrap (((K - i : Nat) : Int) - 1) = ((K - (i + 1) : Nat) : Int) := by rw [wrS (by omega)]; omega
        have ha : ∀ x, _ := fun x => app_ok (E := MDig.cs) (l := l) (xs := [x]) (b := 32) (n := 100) (by simp; omega) (by omega) (by omega)
        simp -implicitDefEqProofs only [go_sem, hlt']
        refine WantM.intro (c97_c Q (hQ.le (by omega))) ?_
        simp -implicitDefEqProofs only [go_sem, ha, w4]
        refine ⟨_, by omega, i + 1, l ++ [(dgR Q).1], (dgR Q).2, hlt, rfl, by simp [hl], ?_, ((dgR_ok Q hQ).1.le (by omega)), ?_⟩
        · intro d hdm
          rcases List.mem_append.1 hdm with hdm | hdm
          · exact hd d hdm
          · rw [List.mem_singleton.1 hdm]
            exact dgR_dig Q (hQ.le (by omega))
        · simp [MDig.cs, Dr.cs]
      · have hiK : i = K := by omega
        subst hiK
        have hlt' : ¬ (((i - i : Nat) : Int) > 0) := by omega
        have hq2 := pick_lt (hQ.le (b := 1000000000) (by omega)) (n := 12) (by omega)
        simp -implicitDefEqProofs only [go_sem, hlt']
        refine WantM.intro (pickM 12 (hQ.le (by omega))) ?_
        simp -implicitDefEqProofs only [go_sem]
        refine condJ_intro (fun h => ?_) (fun h => ?_)
        · simp -implicitDefEqProofs only [go_sem, h]
          clear hK hq
          refine jv_lp (fun m s => ∃ (n : Nat) (l : List MDig), l.length = n ∧ n ≤ 16 ∧ m = 16 - n ∧ (∀ d ∈ l, d.ok) ∧ s = ⟨105, [(0, vD), (2, .ptr 2 0 [] 11 0 0), (3, .ptr 3 0 [] 11 0 0), (4, vS ⟨#[102, 110, 112]⟩)], [(1000000, 0, one ⟨2, [Q.nx.cs], 0, false⟩), (2, 0, one ⟨11, [zRow], 0, false⟩), (3, 0, one ⟨11, [[vI 5, vI 0, vI FF, vI ZZ, vU 0, vU 0, vU 0, vU 0, vI 0, .blk 10003 0 [] 4 0 l.length, .nilS]], 0, false⟩), (10003, 0, one ⟨4, l.map MDig.cs, 2, false⟩)], 1⟩) (16 - l.length) ?_ ?_
          · simp -implicitDefEqProofs only [go_sem]
            exact ⟨l.length, l, rfl, by omega, rfl, hd, rfl⟩
          · rintro m s ⟨n, l, rfl, hn, rfl, hd, rfl⟩
            rcases Nat.lt_or_ge l.length 16 with hlt | hge
            · have hlt' : (l.length : Int) < 16 := by omega
              have ha : ∀ x, _ := fun x => app_ok (E := MDig.cs) (l := l) (xs := [x]) (b := 32) (n := 100) (by simp; omega) (by omega) (by omega)
              simp -implicitDefEqProofs only [go_sem, hlt', ha]
              refine ⟨_, ?_, (l ++ [dig0]).length, l ++ [dig0], rfl, by simp; omega, rfl, ?_, ?_⟩
              · simp; omega
              · intro d hdm
                rcases List.mem_append.1 hdm with hdm | hdm
                · exact hd d hdm
                · rw [List.mem_singleton.1 hdm]
                  exact dig0_ok
              · simp [MDig.cs, dig0]
                rfl
            · have hlt' : ¬ (l.length : Int) < 16 := by omega
              simp -implicitDefEqProofs only [go_sem, hlt']
              repeat' first | (refine Want.intro (by first | exact c56_c _ 115 (by decide) | exact c56_c _ 102 (by decide) | exact c56_c _ 110 (by decide) | exact c56_c _ 114 (by decide) | exact c56_c _ 99 (by decide) | exact c56_c _ 112 (by decide) | exact c56_c _ 108 (by decide)) ?_; try simp -implicitDefEqProofs only [go_sem, condJ_true, condJ_false]) | (refine WantM.intro (by first | exact c56_c _ 115 (by decide) | exact c56_c _ 102 (by decide) | exact c56_c _ 110 (by decide) | exact c56_c _ 114 (by decide) | exact c56_c _ 99 (by decide) | exact c56_c _ 112 (by decide) | exact c56_c _ 108 (by decide)) ?_; try simp -implicitDefEqProofs only [go_sem, condJ_true, condJ_false]) | (refine guardP_intro (fun h => ?_) (fun h => ?_) <;> try simp -implicitDefEqProofs only [go_sem, condJ_true, condJ_false, h]) | (refine condJ_intro (fun h => ?_) (fun h => ?_) <;> try simp -implicitDefEqProofs only [go_sem, condJ_true, condJ_false, h])
              refine RetAt.intro (MMsg.avM ⟨5, 0, FF, ZZ, dig0, 0, l, []⟩) (MMsg.outD ⟨5, 0, FF, ZZ, dig0, 0, l, []⟩ Q.nx) ⟨⟨5, 0, FF, ZZ, dig0, 0, l, []⟩, Q.nx, ⟨rfl, rfl⟩, ok_fzp z.1 y.1 hn, dig0_ok, hd, hQ.nx.le (by omega)⟩ ?_
              simp -implicitDefEqProofs only [go_sem]
              first | done | rfl | exact ⟨rfl, rfl⟩
        · simp -implicitDefEqProofs only [go_sem, h]
          repeat' first | (refine Want.intro (by first | exact c56_c _ 115 (by decide) | exact c56_c _ 102 (by decide) | exact c56_c _ 110 (by decide) | exact c56_c _ 114 (by decide) | exact c56_c _ 99 (by decide) | exact c56_c _ 112 (by decide) | exact c56_c _ 108 (by decide)) ?_; try simp -implicitDefEqProofs only [go_sem, condJ_true, condJ_false]) | (refine WantM.intro (by first | exact c56_c _ 115 (by decide) | exact c56_c _ 102 (by decide) | exact c56_c _ 110 (by decide) | exact c56_c _ 114 (by decide) | exact c56_c _ 99 (by decide) | exact c56_c _ 112 (by decide) | exact c56_c _ 108 (by decide)) ?_; try simp -implicitDefEqProofs only [go_sem, condJ_true, condJ_false]) | (refine guardP_intro (fun h => ?_) (fun h => ?_) <;> try simp -implicitDefEqProofs only [go_sem, condJ_true, condJ_false, h]) | (refine condJ_intro (fun h => ?_) (fun h => ?_) <;> try simp -implicitDefEqProofs only [go_sem, condJ_true, condJ_false, h])
          refine RetAt.intro (MMsg.avM ⟨5, 0, FF, ZZ, dig0, 0, l, []⟩) (MMsg.outD ⟨5, 0, FF, ZZ, dig0, 0, l, []⟩ Q.nx) ⟨⟨5, 0, FF, ZZ, dig0, 0, l, []⟩, Q.nx, ⟨rfl, rfl⟩, ok_fzp z.1 y.1 (by omega), dig0_ok, hd, hQ.nx.le (by omega)⟩ ?_
          simp -implicitDefEqProofs only [go_sem]
          first | done | rfl | exact ⟨rfl, rfl⟩
  · have z := c133_c r.nx (h1.nx.le (by omega))
    have zp := z.2.2.1
    rw [nx_p] at zp
    have zd := z.2.1
    have zk : (szD r.nx).2.ok (r.p + 3) := ⟨zd.1, by omega⟩
    refine WantM.intro z.2.2.2 ?_
    simp -implicitDefEqProofs only [go_sem]
    repeat' first | (refine Want.intro (by first | exact c56_c _ 115 (by decide) | exact c56_c _ 102 (by decide) | exact c56_c _ 110 (by decide) | exact c56_c _ 114 (by decide) | exact c56_c _ 99 (by decide) | exact c56_c _ 112 (by decide) | exact c56_c _ 108 (by decide)) ?_; try simp -implicitDefEqProofs only [go_sem, condJ_true, condJ_false]) | (refine WantM.intro (by first | exact c56_c _ 115 (by decide) | exact c56_c _ 102 (by decide) | exact c56_c _ 110 (by decide) | exact c56_c _ 114 (by decide) | exact c56_c _ 99 (by decide) | exact c56_c _ 112 (by decide) | exact c56_c _ 108 (by decide)) ?_; try simp -implicitDefEqProofs only [go_sem, condJ_true, condJ_false]) | (refine guardP_intro (fun h => ?_) (fun h => ?_) <;> try simp -implicitDefEqProofs only [go_sem, condJ_true, condJ_false, h]) | (refine condJ_intro (fun h => ?_) (fun h => ?_) <;> try simp -implicitDefEqProofs only [go_sem, condJ_true, condJ_false, h])
    have q8 := pick_lt (zk.le (b := 1000000000) (by omega)) (n := 8) (by omega)
    have w8 : IntKind.i64.wrap (1 + pk (szD r.nx).2 8) = 1 + pk (szD r.nx).2 8 := wrS (by omega)
    refine WantM.intro (pickM 8 (zk.le (by omega))) ?_
    simp -implicitDefEqProofs only [go_sem, w8]
    repeat' first | (refine Want.intro (by first | exact c56_c _ 115 (by decide) | exact c56_c _ 102 (by decide) | exact c56_c _ 110 (by decide) | exact c56_c _ 114 (by decide) | exact c56_c _ 99 (by decide) | exact c56_c _ 112 (by decide) | exact c56_c _ 108 (by decide)) ?_; try simp -implicitDefEqProofs only [go_sem, condJ_true, condJ_false]) | (refine WantM.intro (by first | exact c56_c _ 115 (by decide) | exact c56_c _ 102 (by decide) | exact c56_c _ 110 (by decide) | exact c56_c _ 114 (by decide) | exact c56_c _ 99 (by decide) | exact c56_c _ 112 (by decide) | exact c56_c _ 108 (by decide)) ?_; try simp -implicitDefEqProofs only [go_sem, condJ_true, condJ_false]) | (refine guardP_intro (fun h => ?_) (fun h => ?_) <;> try simp -implicitDefEqProofs only [go_sem, condJ_true, condJ_false, h]) | (refine condJ_intro (fun h => ?_) (fun h => ?_) <;> try simp -implicitDefEqProofs only [go_sem, condJ_true, condJ_false, h])
    refine RetAt.intro (MMsg.avM ⟨7, 0, (szD r.nx).1, 0, dig0, 1 + pk (szD r.nx).2 8, [], []⟩) (MMsg.outD ⟨7, 0, (szD r.nx).1, 0, dig0, 1 + pk (szD r.nx).2 8, [], []⟩ (szD r.nx).2.nx) ⟨⟨7, 0, (szD r.nx).1, 0, dig0, 1 + pk (szD r.nx).2 8, [], []⟩, (szD r.nx).2.nx, ⟨rfl, rfl⟩, ok_fc z.1 (by omega), dig0_ok, by simp, zk.nx.le (by omega)⟩ ?_
    simp -implicitDefEqProofs only [go_sem]
    first | done | rfl | exact ⟨rfl, rfl⟩
  · have z := c133_c r.nx (h1.nx.le (by omega))
    have zp := z.2.2.1
    rw [nx_p] at zp
    have zd := z.2.1
    have zk : (szD r.nx).2.ok (r.p + 3) := ⟨zd.1, by omega⟩
    refine WantM.intro z.2.2.2 ?_
    simp -implicitDefEqProofs only [go_sem]
    repeat' first | (refine Want.intro (by first | exact c56_c _ 115 (by decide) | exact c56_c _ 102 (by decide) | exact c56_c _ 110 (by decide) | exact c56_c _ 114 (by decide) | exact c56_c _ 99 (by decide) | exact c56_c _ 112 (by decide) | exact c56_c _ 108 (by decide)) ?_; try simp -implicitDefEqProofs only [go_sem, condJ_true, condJ_false]) | (refine WantM.intro (by first | exact c56_c _ 115 (by decide) | exact c56_c _ 102 (by decide) | exact c56_c _ 110 (by decide) | exact c56_c _ 114 (by decide) | exact c56_c _ 99 (by decide) | exact c56_c _ 112 (by decide) | exact c56_c _ 108 (by decide)) ?_; try simp -implicitDefEqProofs only [go_sem, condJ_true, condJ_false]) | (refine guardP_intro (fun h => ?_) (fun h => ?_) <;> try simp -implicitDefEqProofs only [go_sem, condJ_true, condJ_false, h]) | (refine condJ_intro (fun h => ?_) (fun h => ?_) <;> try simp -implicitDefEqProofs only [go_sem, condJ_true, condJ_false, h])
    generalize (szD r.nx).2 = R at *
    generalize (szD r.nx).1 = FF at *
    have hq := pick_lt (zk.le (b := 1000000000) (by omega)) (n := 9) (by omega)
    refine WantM.intro (pickM 9 (zk.le (by omega))) ?_
    simp -implicitDefEqProofs only [go_sem]
    obtain ⟨K, hK⟩ : ∃ K : Nat, pk R 9 = K := ⟨(pk R 9).toNat, by omega⟩
    have hK8 : K ≤ 8 := by omega
    rw [hK]
    refine jv_lpN [(11003, 1)] (fun m s => ∃ (i : Nat) (l : List ByteArray) (Q : Dr), i ≤ K ∧ m = K - i ∧ l.length = i ∧ leavesOk l = true ∧ Q.ok (r.p + 4 + 10 * i) ∧ s = ⟨105, [(0, vD), (2, .ptr 2 0 [] 11 0 0), (3, .ptr 3 0 [] 11 0 0), (6, vI ((K - i : Nat) : Int))], [(1000000, 0, one ⟨2, [Q.cs], 0, false⟩), (2, 0, one ⟨11, [zRow], 0, false⟩), (3, 0, one ⟨11, [[vI 8, vI 0, vI FF, vI 0, vU 0, vU 0, vU 0, vU 0, vI 0, .nilS, .blk 10003 0 [] 1 0 l.length]], 0, false⟩), (10003, 0, one ⟨1, l.map leafCs, 2, false⟩)], 1⟩) K ?_ ?_
    · simp -implicitDefEqProofs only [go_sem]
      exact ⟨0, [], R.nx, by omega, rfl, rfl, rfl, zk.nx, rfl⟩
    · rintro m s ⟨i, l, Q, hi, rfl, hl, hd, hQ, rfl⟩
      rcases Nat.lt_or_ge i K with hlt | hge
      · have hlt' : ((K - i : Nat) : Int) > 0 := by omega
        have w4 : IntKind.i64.wrap (((K - i : Nat) : Int) - 1) = ((K - (i + 1) : Nat) : Int) := by rw [wrS (by omega)]; omega
        have ha : ∀ x, _ := fun x => app_ok (E := leafCs) (l := l) (xs := [x]) (b := 16) (n := 100) (by simp; omega) (by omega) (by omega)
        have ht := tx_ok Q 4 hQ (by omega) (by omega)
        simp -implicitDefEqProofs only [go_sem, hlt']
        refine WantM.intro (c108_c Q 4 (hQ.le (by omega)) (by omega)) ?_
        simp -implicitDefEqProofs only [go_sem, ha, w4]
        refine ⟨_, by omega, i + 1, l ++ [(tx Q 4).1], (tx Q 4).2, hlt, rfl, by simp [hl], ?_, ht.1.le (by omega), ?_⟩
        · have h4 := ht.2
          simp only [leavesOk, List.all_append, List.all_cons, List.all_nil, Bool.and_true, Bool.and_eq_true, decide_eq_true_eq] at hd ⊢
          exact ⟨hd, by omega⟩
        · simp [leafCs, Dr.cs]
      · have hiK : i = K := by omega
        subst hiK
        have hlt' : ¬ (((i - i : Nat) : Int) > 0) := by omega
        have hq2 := pick_lt (hQ.le (b := 1000000000) (by omega)) (n := 8) (by omega)
        simp -implicitDefEqProofs only [go_sem, hlt']
        refine WantM.intro (pickM 8 (hQ.le (by omega))) ?_
        simp -implicitDefEqProofs only [go_sem]
        refine guardP_intro (fun h => ?_) (fun h => ?_)
        · simp -implicitDefEqProofs only [go_sem, h]
          refine condJ_intro (fun h => ?_) (fun h => ?_)
          · have hpos : 0 < l.length := by have := of_decide_eq_true h; omega
            have hpos' : (0 : Int) < (l.length : Int) := by omega
            have hg : l[0]? = some l[0] := List.getElem?_eq_getElem hpos
            simp -implicitDefEqProofs only [go_sem, h]
            refine Want.intro many40 ?_
            simp -implicitDefEqProofs only [go_sem, hpos', hg]
            refine RetAt.intro (MMsg.avM ⟨8, 0, FF, 0, dig0, 0, [], l.set 0 (bA (rep [107] 40))⟩) (MMsg.outD ⟨8, 0, FF, 0, dig0, 0, [], l.set 0 (bA (rep [107] 40))⟩ Q.nx) ⟨⟨8, 0, FF, 0, dig0, 0, [], l.set 0 (bA (rep [107] 40))⟩, Q.nx, ⟨rfl, rfl⟩, ok_fl z.1 (by simp; omega) (leavesOk_set hd 0 (by rw [bA_size, rep_len]; decide)), dig0_ok, by simp, hQ.nx.le (by omega)⟩ ?_
            simp -implicitDefEqProofs only [go_sem, List.map_set]
            first | done | rfl | exact ⟨rfl, rfl⟩ | trace_state
          · simp -implicitDefEqProofs only [go_sem, h]
            refine RetAt.intro (MMsg.avM ⟨8, 0, FF, 0, dig0, 0, [], l⟩) (MMsg.outD ⟨8, 0, FF, 0, dig0, 0, [], l⟩ Q.nx) ⟨⟨8, 0, FF, 0, dig0, 0, [], l⟩, Q.nx, ⟨rfl, rfl⟩, ok_fl z.1 (by omega) hd, dig0_ok, by simp, hQ.nx.le (by omega)⟩ ?_
            simp -implicitDefEqProofs only [go_sem]
            first | done | rfl | exact ⟨rfl, rfl⟩
        · simp -implicitDefEqProofs only [go_sem, h, condJ_false]
          refine RetAt.intro (MMsg.avM ⟨8, 0, FF, 0, dig0, 0, [], l⟩) (MMsg.outD ⟨8, 0, FF, 0, dig0, 0, [], l⟩ Q.nx) ⟨⟨8, 0, FF, 0, dig0, 0, [], l⟩, Q.nx, ⟨rfl, rfl⟩, ok_fl z.1 (by omega) hd, dig0_ok, by simp, hQ.nx.le (by omega)⟩ ?_
          simp -implicitDefEqProofs only [go_sem]
          first | done | rfl | exact ⟨rfl, rfl⟩
end Go.Proofs.Ytkhemolkhegppaa.E
