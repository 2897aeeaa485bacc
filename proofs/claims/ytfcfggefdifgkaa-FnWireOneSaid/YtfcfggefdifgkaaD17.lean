/-
  Contracts: what is drawn for the laws of the wire.
-/
import Derived.Test.YtfcfggefdifgkaaD16
namespace Go.Proofs.Ytfcfggefdifgkaa.E
open Go Go.RowKit
set_option maxHeartbeats 4000000
set_option maxRecDepth 10000
set_option linter.unusedSimpArgs false
set_option linter.unusedVariables false
set_option linter.unusedSectionVars false
@[go_sem] def c17 : SC J := .sq [0, 2] (.reg [.p (.al 2 28)])
 (.sq [2, 3] (.reg [.p (.mv 5 (.tmp 0)), .p (.cm (some 6) 68 [false] [.tmp 5] [37]), .p (.as 3 (.tmp 6))])
  (.sq [2, 3, 4] (.reg [.p (.mv 7 (.tmp 3)), .p (.cm (some 8) 69 [true] [.tmp 7] [109]), .p (.al 4 28), .p (.st 28 (.tmp 4) (.tmp 8))])
   (.sq [2, 4] (.sq [2, 3, 4, 11] (.reg [.p (.mv 9 (.tmp 3)), .p (.cm (some 10) 70 [true, false] [.tmp 9, .const (.int .i64 10)] [109, 3]), .p (.bn 11 .eql 3 (.tmp 10) (.const (.int .i64 0)) 3)])
     (.cond (.tmp 11)
      (.sq [2] (.reg [.p (.mv 12 (.tmp 3)), .p (.ld 13 28 (.tmp 4)), .p (.cm (some 14) 71 [true, true] [.tmp 12, .tmp 13] [109, 28]), .p (.st 28 (.tmp 2) (.tmp 14))])
       (.ret))
      (.skip)))
    (.sq [2] (.reg [.p (.ld 15 28 (.tmp 4)), .p (.st 28 (.tmp 2) (.tmp 15))])
     (.ret)))))
theorem b17 : BodyOK Try.prog 17 c17 16 [.cell 2 28] := ⟨Try.f17, by kernel_rfl, by kernel_rfl, by kernel_rfl, by kernel_rfl, by kernel_rfl⟩

@[go_sem] def c30 : SC J := .sq [0] (.reg [.p (.as 2 (.const (.string { data := #[] })))])
 (.sq [3] (.reg [.p (.mv 7 (.tmp 0)), .p (.cm (some 8) 68 [false] [.tmp 7] [37]), .p (.as 3 (.tmp 8))])
  (.sq [3, 4] (.reg [.p (.mv 9 (.tmp 3)), .p (.cm (some 10) 69 [true] [.tmp 9] [109]), .p (.cl (some 11) 26 [.tmp 10] [28]), .p (.as 4 (.tmp 11))])
   (.sq [3, 4, 5] (.reg [.p (.mv 12 (.tmp 3)), .p (.cm (some 13) 70 [true, false] [.tmp 12, .const (.int .i64 7)] [109, 3]), .p (.as 5 (.tmp 13))])
    (.sq [3, 4, 5] (.sq [3, 4, 5, 15] (.reg [.p (.mv 14 (.tmp 5)), .p (.bn 15 .eql 3 (.tmp 14) (.const (.int .i64 0)) 3)])
      (.cond (.tmp 15)
       (.sq [2] (.reg [.p (.mv 16 (.tmp 4)), .p (.mv 17 (.tmp 3)), .p (.mv 18 (.tmp 4)), .p (.ln 19 9 (.tmp 18)), .p (.bn 20 .add 3 (.tmp 19) (.const (.int .i64 1)) 3), .p (.cm (some 21) 70 [true, false] [.tmp 17, .tmp 20] [109, 3]), .p (.sl 22 9 (.tmp 16) none (some (.tmp 21)) none), .p (.as 2 (.tmp 22))])
        (.ret))
       (.skip)))
     (.sq [3, 4, 5] (.sq [3, 4, 5, 24] (.reg [.p (.mv 23 (.tmp 5)), .p (.bn 24 .eql 3 (.tmp 23) (.const (.int .i64 1)) 3)])
       (.cond (.tmp 24)
        (.sq [2] (.reg [.p (.mv 25 (.tmp 4)), .p (.mv 26 (.tmp 3)), .p (.cm (some 27) 91 [true, false] [.tmp 26, .const (.int .i64 2)] [109, 3]), .p (.bn 28 .add 9 (.tmp 25) (.tmp 27) 9), .p (.as 2 (.tmp 28))])
         (.ret))
        (.skip)))
      (.sq [3, 4, 5] (.sq [3, 4, 5, 30] (.reg [.p (.mv 29 (.tmp 5)), .p (.bn 30 .eql 3 (.tmp 29) (.const (.int .i64 2)) 3)])
        (.cond (.tmp 30)
         (.sq [3, 4, 6] (.reg [.p (.mv 31 (.tmp 3)), .p (.mv 32 (.tmp 4)), .p (.ln 33 9 (.tmp 32)), .p (.cm (some 34) 70 [true, false] [.tmp 31, .tmp 33] [109, 3]), .p (.as 6 (.tmp 34))])
          (.sq [3, 4, 6] (.sq [3, 4, 6, 37] (.reg [.p (.mv 35 (.tmp 3)), .p (.cm (some 36) 70 [true, false] [.tmp 35, .const (.int .i64 2)] [109, 3]), .p (.bn 37 .eql 3 (.tmp 36) (.const (.int .i64 0)) 3)])
            (.cond (.tmp 37)
             (.reg [.p (.mv 38 (.tmp 3)), .p (.cm (some 39) 70 [true, false] [.tmp 38, .const (.int .i64 7)] [109, 3]), .p (.mv 40 (.tmp 4)), .p (.ln 41 9 (.tmp 40)), .p (.bn 42 .rem 3 (.tmp 39) (.tmp 41) 3), .p (.as 6 (.tmp 42))])
             (.skip)))
           (.sq [2] (.dr (.pu 0 (.pu 1 (.pu 2 (.pu 3 (.pu 9 (.pu 10 (.pu 11 (.pu 12 (.ef 4 [] (.pu 5 (.ef 6 [] (.pu 7 (.pu 8 (.pu 13 (.pu 14 (.nil)))))))))))))))) [[], [], [0, 1], [], [3], [3, 4], [3, 4, 5], [3, 4, 5, 6], [0, 1, 2, 3, 4, 5, 6, 7], [], [], [10], [9, 10, 11], [0, 1, 2, 3, 4, 5, 6, 7, 8, 9, 10, 11, 12], [0, 1, 2, 3, 4, 5, 6, 7, 8, 9, 10, 11, 12, 13]] [.p (.mv 43 (.tmp 4)), .p (.mv 44 (.tmp 6)), .p (.sl 45 9 (.tmp 43) none (some (.tmp 44)) none), .p (.mv 46 (.tmp 3)), .p (.cm (some 47) 70 [true, false] [.tmp 46, .const (.int .i64 256)] [109, 3]), .p (.cv 48 3 5 (.tmp 47)), .p (.bs 49 37 1 [(0, .tmp 48)]), .p (.cv 50 37 9 (.tmp 49)), .p (.bn 51 .add 9 (.tmp 45) (.tmp 50) 9), .p (.mv 52 (.tmp 4)), .p (.mv 53 (.tmp 6)), .p (.bn 54 .add 3 (.tmp 53) (.const (.int .i64 1)) 3), .p (.sl 55 9 (.tmp 52) (some (.tmp 54)) none none), .p (.bn 56 .add 9 (.tmp 51) (.tmp 55) 9), .p (.as 2 (.tmp 56))] [[], [], [0, 1], [], [3], [4], [5], [6], [2, 7], [], [], [10], [9, 11], [8, 12], [13, 4, 0, 1, 2, 3, 4, 5, 6, 7, 8, 9, 10, 11, 12, 13]])
            (.ret))))
         (.skip)))
       (.sq [4] (.sq [3, 4, 58] (.reg [.p (.mv 57 (.tmp 5)), .p (.bn 58 .eql 3 (.tmp 57) (.const (.int .i64 3)) 3)])
         (.cond (.tmp 58)
          (.sq [2] (.reg [.p (.mv 59 (.tmp 3)), .p (.cm (some 60) 91 [true, false] [.tmp 59, .const (.int .i64 9)] [109, 3]), .p (.as 2 (.tmp 60))])
           (.ret))
          (.skip)))
        (.sq [2] (.reg [.p (.mv 61 (.tmp 4)), .p (.as 2 (.tmp 61))])
         (.ret)))))))))
theorem b30 : BodyOK Try.prog 30 c30 62 [.tmp 2] := ⟨Try.f30, by kernel_rfl, by kernel_rfl, by kernel_rfl, by kernel_rfl, by kernel_rfl⟩
set_option maxRecDepth 100000 in
@[go_sem] theorem k30_0 : chkT (.pu 0 (.pu 1 (.pu 2 (.pu 3 (.pu 9 (.pu 10 (.pu 11 (.pu 12 (.ef 4 [] (.pu 5 (.ef 6 [] (.pu 7 (.pu 8 (.pu 13 (.pu 14 (.nil)))))))))))))))) [[], [], [0, 1], [], [3], [3, 4], [3, 4, 5], [3, 4, 5, 6], [0, 1, 2, 3, 4, 5, 6, 7], [], [], [10], [9, 10, 11], [0, 1, 2, 3, 4, 5, 6, 7, 8, 9, 10, 11, 12], [0, 1, 2, 3, 4, 5, 6, 7, 8, 9, 10, 11, 12, 13]] (soI [.p (.mv 43 (.tmp 4)), .p (.mv 44 (.tmp 6)), .p (.sl 45 9 (.tmp 43) none (some (.tmp 44)) none), .p (.mv 46 (.tmp 3)), .p (.cm (some 47) 70 [true, false] [.tmp 46, .const (.int .i64 256)] [109, 3]), .p (.cv 48 3 5 (.tmp 47)), .p (.bs 49 37 1 [(0, .tmp 48)]), .p (.cv 50 37 9 (.tmp 49)), .p (.bn 51 .add 9 (.tmp 45) (.tmp 50) 9), .p (.mv 52 (.tmp 4)), .p (.mv 53 (.tmp 6)), .p (.bn 54 .add 3 (.tmp 53) (.const (.int .i64 1)) 3), .p (.sl 55 9 (.tmp 52) (some (.tmp 54)) none none), .p (.bn 56 .add 9 (.tmp 51) (.tmp 55) 9), .p (.as 2 (.tmp 56))]) [[], [], [0, 1], [], [3], [4], [5], [6], [2, 7], [], [], [10], [9, 11], [8, 12], [13, 4, 0, 1, 2, 3, 4, 5, 6, 7, 8, 9, 10, 11, 12, 13]] = true := by kernel_rfl

theorem WOk.dmsg {m : MMsg} (h : WOk m) (hr : m.root.ok) (hd : ∀ d ∈ m.proof, d.ok) : DMsg m := ⟨hr, hd, by have := h.p; omega, by have := h.l; omega, fun s hs => by
  have := h.lo
  simp only [leavesOk, List.all_eq_true, decide_eq_true_eq] at this
  have := this s hs
  omega⟩
def PostDM (res : AV) (σ : Sig) : Prop := ∃ m : MMsg, (res = m.avM ∧ σ = m.out) ∧ DMsg m
theorem c17_c (l : List UInt8) (hl : l.length ≤ maxLen) : ∃ res σ, PostDM res σ ∧ CallM Try.prog 17 [] [.ro 1 (l.map byteC)] res σ := by
  refine callX_of_jv b17 rfl PostDM rfl ?_
  have h0 : (Dr.mk (l.take 2000) 0).ok 0 := ⟨List.length_take_le _ _, Nat.le_refl _⟩
  simp -implicitDefEqProofs only [go_sem, Nat.reduceBEq, Nat.reduceAdd, Nat.reduceSub, Nat.reduceMul, Nat.reduceMod, Nat.reduceDiv, Nat.reduceLT, Nat.reduceLeDiff, Int.reduceEq, Int.reduceLT, Int.reduceLE, Int.reduceToNat, Int.reduceBNe, Int.reduceBEq, reduceCtorEq]
  refine WantM.intro (c68_c l hl) ?_
  simp -implicitDefEqProofs only [go_sem, Nat.reduceBEq, Nat.reduceAdd, Nat.reduceSub, Nat.reduceMul, Nat.reduceMod, Nat.reduceDiv, Nat.reduceLT, Nat.reduceLeDiff, Int.reduceEq, Int.reduceLT, Int.reduceLE, Int.reduceToNat, Int.reduceBNe, Int.reduceBEq, reduceCtorEq]
  obtain ⟨res, σ, ⟨m, r, ⟨rfl, rfl⟩, hok, hr, hd, hro⟩, hc⟩ := c69_c ⟨l.take 2000, 0⟩ (h0.le (by omega))
  refine WantM.intro hc ?_
  have hw := WOk.of hok
  have hro' := hro.le (b := 1000000000) (by show 0 + 1000 ≤ _; omega)
  simp -implicitDefEqProofs only [go_sem, Nat.reduceBEq, Nat.reduceAdd, Nat.reduceSub, Nat.reduceMul, Nat.reduceMod, Nat.reduceDiv, Nat.reduceLT, Nat.reduceLeDiff, Int.reduceEq, Int.reduceLT, Int.reduceLE, Int.reduceToNat, Int.reduceBNe, Int.reduceBEq, reduceCtorEq]
  refine WantM.intro (pickM 10 hro') ?_
  simp -implicitDefEqProofs only [go_sem, Nat.reduceBEq, Nat.reduceAdd, Nat.reduceSub, Nat.reduceMul, Nat.reduceMod, Nat.reduceDiv, Nat.reduceLT, Nat.reduceLeDiff, Int.reduceEq, Int.reduceLT, Int.reduceLE, Int.reduceToNat, Int.reduceBNe, Int.reduceBEq, reduceCtorEq]
  refine condJ_intro (fun h => ?_) (fun h => ?_)
  · simp -implicitDefEqProofs only [go_sem, Nat.reduceBEq, Nat.reduceAdd, Nat.reduceSub, Nat.reduceMul, Nat.reduceMod, Nat.reduceDiv, Nat.reduceLT, Nat.reduceLeDiff, Int.reduceEq, Int.reduceLT, Int.reduceLE, Int.reduceToNat, Int.reduceBNe, Int.reduceBEq, reduceCtorEq, h]
    obtain ⟨res, σ, ⟨m', r', hf, hm', hr'⟩, hc⟩ := c71_c r.nx m (hro.nx.le (by show 0 + 1000 + 1 ≤ _; omega)) (hw.dmsg hr hd) hw.p hw.l
    refine WantM.intro hc ?_
    cases hf
    all_goals simp -implicitDefEqProofs only [go_sem, Nat.reduceBEq, Nat.reduceAdd, Nat.reduceSub, Nat.reduceMul, Nat.reduceMod, Nat.reduceDiv, Nat.reduceLT, Nat.reduceLeDiff, Int.reduceEq, Int.reduceLT, Int.reduceLE, Int.reduceToNat, Int.reduceBNe, Int.reduceBEq, reduceCtorEq]
    all_goals refine RetAt.intro m'.avM m'.out ⟨m', ⟨rfl, rfl⟩, hm'⟩ ?_
    all_goals simp -implicitDefEqProofs only [go_sem, Nat.reduceBEq, Nat.reduceAdd, Nat.reduceSub, Nat.reduceMul, Nat.reduceMod, Nat.reduceDiv, Nat.reduceLT, Nat.reduceLeDiff, Int.reduceEq, Int.reduceLT, Int.reduceLE, Int.reduceToNat, Int.reduceBNe, Int.reduceBEq, reduceCtorEq]
    all_goals first | done | rfl | exact ⟨rfl, rfl⟩ | trace_state
  · simp -implicitDefEqProofs only [go_sem, Nat.reduceBEq, Nat.reduceAdd, Nat.reduceSub, Nat.reduceMul, Nat.reduceMod, Nat.reduceDiv, Nat.reduceLT, Nat.reduceLeDiff, Int.reduceEq, Int.reduceLT, Int.reduceLE, Int.reduceToNat, Int.reduceBNe, Int.reduceBEq, reduceCtorEq, h]
    refine RetAt.intro m.avM m.out ⟨m, ⟨rfl, rfl⟩, hw.dmsg hr hd⟩ ?_
    simp -implicitDefEqProofs only [go_sem, Nat.reduceBEq, Nat.reduceAdd, Nat.reduceSub, Nat.reduceMul, Nat.reduceMod, Nat.reduceDiv, Nat.reduceLT, Nat.reduceLeDiff, Int.reduceEq, Int.reduceLT, Int.reduceLE, Int.reduceToNat, Int.reduceBNe, Int.reduceBEq, reduceCtorEq]
    first | done | rfl | exact ⟨rfl, rfl⟩ | trace_state
theorem wbL_len {m : MMsg} (h : WOk m) : 1 ≤ (wbL m).length ∧ (wbL m).length ≤ 600 := by
  have h1 := digsL_len m.proof
  have h2 := leafsL_len m.leaves h.lo
  have h3 := h.p
  have h4 := h.l
  unfold wbL
  repeat' split
  all_goals simp only [bK, bS, bF, bZ, bC, bP, bL_, low_len, bl_len, List.length_append]
  all_goals omega
def PostDS (res : AV) (σ : Sig) : Prop := ∃ s : ByteArray, (res = vS s ∧ σ = []) ∧ s.size ≤ 1000
theorem c30_c (l : List UInt8) (hl : l.length ≤ maxLen) : ∃ res σ, PostDS res σ ∧ CallM Try.prog 30 [] [.ro 1 (l.map byteC)] res σ := by
  refine callX_of_jv b30 rfl PostDS rfl ?_
  have h0 : (Dr.mk (l.take 2000) 0).ok 0 := ⟨List.length_take_le _ _, Nat.le_refl _⟩
  simp -implicitDefEqProofs only [go_sem, Nat.reduceBEq, Nat.reduceAdd, Nat.reduceSub, Nat.reduceMul, Nat.reduceMod, Nat.reduceDiv, Nat.reduceLT, Nat.reduceLeDiff, Int.reduceEq, Int.reduceLT, Int.reduceLE, Int.reduceToNat, Int.reduceBNe, Int.reduceBEq, reduceCtorEq]
  refine WantM.intro (c68_c l hl) ?_
  simp -implicitDefEqProofs only [go_sem, Nat.reduceBEq, Nat.reduceAdd, Nat.reduceSub, Nat.reduceMul, Nat.reduceMod, Nat.reduceDiv, Nat.reduceLT, Nat.reduceLeDiff, Int.reduceEq, Int.reduceLT, Int.reduceLE, Int.reduceToNat, Int.reduceBNe, Int.reduceBEq, reduceCtorEq]
  obtain ⟨res, σ, ⟨m, r, ⟨rfl, rfl⟩, hok, hr, hd, hro⟩, hc⟩ := c69_c ⟨l.take 2000, 0⟩ (h0.le (by omega))
  refine WantM.intro hc ?_
  have hw := WOk.of hok
  have hro' := hro.le (b := 10000) (by show 0 + 1000 ≤ _; omega)
  simp -implicitDefEqProofs only [go_sem, Nat.reduceBEq, Nat.reduceAdd, Nat.reduceSub, Nat.reduceMul, Nat.reduceMod, Nat.reduceDiv, Nat.reduceLT, Nat.reduceLeDiff, Int.reduceEq, Int.reduceLT, Int.reduceLE, Int.reduceToNat, Int.reduceBNe, Int.reduceBEq, reduceCtorEq]
  refine Want.intro (c26_c m (by have := hw.p; unfold maxLen; omega) (by have := hw.l; unfold maxLen; omega) hr hd) ?_
  have hlen := wbL_len hw
  rw [mWireBytes, if_pos hok]
  generalize wbL m = B at *
  simp -implicitDefEqProofs only [go_sem, Nat.reduceBEq, Nat.reduceAdd, Nat.reduceSub, Nat.reduceMul, Nat.reduceMod, Nat.reduceDiv, Nat.reduceLT, Nat.reduceLeDiff, Int.reduceEq, Int.reduceLT, Int.reduceLE, Int.reduceToNat, Int.reduceBNe, Int.reduceBEq, reduceCtorEq]
  have okr : ∀ i, i ≤ 1000 → (r.adv i).ok 1000000000 := fun i hi => (hro'.adv i).le (by omega)
  have p7 := pick_lt (hro'.le (b := 1000000000) (by omega)) (n := 7) (by omega)
  refine WantM.intro (pickM 7 (hro'.le (by omega))) ?_
  simp -implicitDefEqProofs only [go_sem, Nat.reduceBEq, Nat.reduceAdd, Nat.reduceSub, Nat.reduceMul, Nat.reduceMod, Nat.reduceDiv, Nat.reduceLT, Nat.reduceLeDiff, Int.reduceEq, Int.reduceLT, Int.reduceLE, Int.reduceToNat, Int.reduceBNe, Int.reduceBEq, reduceCtorEq]
  generalize hK : pk r 7 = K at *
  have hk7 : K = 0 ∨ K = 1 ∨ K = 2 ∨ K = 3 ∨ (¬ K = 0 ∧ ¬ K = 1 ∧ ¬ K = 2 ∧ ¬ K = 3) := by omega
  rcases hk7 with rfl | rfl | rfl | rfl | ⟨k0, k1, k2, k3⟩
  · have q := pick_lt (okr 1 (by omega)) (n := (B.length : Int) + 1) (by omega)
    obtain ⟨v, hv⟩ : ∃ v : Nat, pk (r.adv 1) ((B.length : Int) + 1) = v := ⟨(pk (r.adv 1) ((B.length : Int) + 1)).toNat, by omega⟩
    have w1 : IntKind.i64.wrap ((B.length : Int) + 1) = (B.length : Int) + 1 := wrS (by omega)
    have hle : (0 : Int) ≤ (v : Int) ∧ (v : Int) ≤ (B.length : Int) := by omega
    simp -implicitDefEqProofs only [go_sem, Nat.reduceBEq, Nat.reduceAdd, Nat.reduceSub, Nat.reduceMul, Nat.reduceMod, Nat.reduceDiv, Nat.reduceLT, Nat.reduceLeDiff, Int.reduceEq, Int.reduceLT, Int.reduceLE, Int.reduceToNat, Int.reduceBNe, Int.reduceBEq, reduceCtorEq, condJ_true, condJ_false, w1]
    refine WantM.intro (pickM _ (okr 1 (by omega))) ?_
    rw [hv]
    simp -implicitDefEqProofs only [go_sem, Nat.reduceBEq, Nat.reduceAdd, Nat.reduceSub, Nat.reduceMul, Nat.reduceMod, Nat.reduceDiv, Nat.reduceLT, Nat.reduceLeDiff, Int.reduceEq, Int.reduceLT, Int.reduceLE, Int.reduceToNat, Int.reduceBNe, Int.reduceBEq, reduceCtorEq, hle]
    refine RetAt.intro (vS ((bA B).extract 0 v)) [] ⟨_, ⟨rfl, rfl⟩, by rw [ByteArray.size_extract, bA_size]; omega⟩ ?_
    simp -implicitDefEqProofs only [go_sem, Nat.reduceBEq, Nat.reduceAdd, Nat.reduceSub, Nat.reduceMul, Nat.reduceMod, Nat.reduceDiv, Nat.reduceLT, Nat.reduceLeDiff, Int.reduceEq, Int.reduceLT, Int.reduceLE, Int.reduceToNat, Int.reduceBNe, Int.reduceBEq, reduceCtorEq]
    first | done | rfl | exact ⟨rfl, rfl⟩ | trace_state
  · have ht := tx_ok (r.adv 1) 2 (hro'.adv 1) (by omega) (by omega)
    have hsz : ¬ (((B.length + (tx (r.adv 1) 2).1.size : Nat) : Int) > 9223372036854775807) := by omega
    simp -implicitDefEqProofs only [go_sem, Nat.reduceBEq, Nat.reduceAdd, Nat.reduceSub, Nat.reduceMul, Nat.reduceMod, Nat.reduceDiv, Nat.reduceLT, Nat.reduceLeDiff, Int.reduceEq, Int.reduceLT, Int.reduceLE, Int.reduceToNat, Int.reduceBNe, Int.reduceBEq, reduceCtorEq, condJ_true, condJ_false]
    refine WantM.intro (c91_c (r.adv 1) 2 ((hro'.adv 1).le (by omega)) (by omega)) ?_
    simp -implicitDefEqProofs only [go_sem, Nat.reduceBEq, Nat.reduceAdd, Nat.reduceSub, Nat.reduceMul, Nat.reduceMod, Nat.reduceDiv, Nat.reduceLT, Nat.reduceLeDiff, Int.reduceEq, Int.reduceLT, Int.reduceLE, Int.reduceToNat, Int.reduceBNe, Int.reduceBEq, reduceCtorEq, hsz]
    refine RetAt.intro (vS (bA B ++ (tx (r.adv 1) 2).1)) [] ⟨_, ⟨rfl, rfl⟩, by rw [ByteArray.size_append, bA_size]; omega⟩ ?_
    simp -implicitDefEqProofs only [go_sem, Nat.reduceBEq, Nat.reduceAdd, Nat.reduceSub, Nat.reduceMul, Nat.reduceMod, Nat.reduceDiv, Nat.reduceLT, Nat.reduceLeDiff, Int.reduceEq, Int.reduceLT, Int.reduceLE, Int.reduceToNat, Int.reduceBNe, Int.reduceBEq, reduceCtorEq]
    first | done | rfl | exact ⟨rfl, rfl⟩ | trace_state
  · have q := pick_lt (okr 1 (by omega)) (n := (B.length : Int)) (by omega)
    obtain ⟨v, hv⟩ : ∃ v : Nat, pk (r.adv 1) (B.length : Int) = v := ⟨(pk (r.adv 1) (B.length : Int)).toNat, by omega⟩
    have q2 := pick_lt (okr 2 (by omega)) (n := 2) (by omega)
    have q3 := pick_lt (okr 3 (by omega)) (n := 7) (by omega)
    have step : ∀ (v i : Nat), v < B.length → (0 : Int) ≤ (v : Int) ∧ (v : Int) ≤ (B.length : Int) ∧ IntKind.i64.wrap ((v : Int) + 1) = ((v + 1 : Nat) : Int) ∧ ((v + 1 : Nat) : Int) ≤ (B.length : Int) := fun v i h => ⟨by omega, by omega, by rw [wrS (by omega)]; omega, by omega⟩
    simp -implicitDefEqProofs only [go_sem, Nat.reduceBEq, Nat.reduceAdd, Nat.reduceSub, Nat.reduceMul, Nat.reduceMod, Nat.reduceDiv, Nat.reduceLT, Nat.reduceLeDiff, Int.reduceEq, Int.reduceLT, Int.reduceLE, Int.reduceToNat, Int.reduceBNe, Int.reduceBEq, reduceCtorEq, condJ_true, condJ_false]
    refine WantM.intro (pickM _ (okr 1 (by omega))) ?_
    rw [hv]
    simp -implicitDefEqProofs only [go_sem, Nat.reduceBEq, Nat.reduceAdd, Nat.reduceSub, Nat.reduceMul, Nat.reduceMod, Nat.reduceDiv, Nat.reduceLT, Nat.reduceLeDiff, Int.reduceEq, Int.reduceLT, Int.reduceLE, Int.reduceToNat, Int.reduceBNe, Int.reduceBEq, reduceCtorEq]
    refine WantM.intro (pickM _ (okr 2 (by omega))) ?_
    simp -implicitDefEqProofs only [go_sem, Nat.reduceBEq, Nat.reduceAdd, Nat.reduceSub, Nat.reduceMul, Nat.reduceMod, Nat.reduceDiv, Nat.reduceLT, Nat.reduceLeDiff, Int.reduceEq, Int.reduceLT, Int.reduceLE, Int.reduceToNat, Int.reduceBNe, Int.reduceBEq, reduceCtorEq]
    refine condJ_intro (fun h => ?_) (fun h => ?_)
    · obtain ⟨u, hu⟩ : ∃ u : Nat, pk (r.adv 3) 7 = u := ⟨(pk (r.adv 3) 7).toNat, by omega⟩
      have htm : (u : Int).tmod (B.length : Int) = ((u % B.length : Nat) : Int) := by rw [Int.tmod_eq_emod_of_nonneg (by omega)]; rfl
      have hnz : ¬ ((B.length : Int) = 0) := by omega
      simp -implicitDefEqProofs only [go_sem, Nat.reduceBEq, Nat.reduceAdd, Nat.reduceSub, Nat.reduceMul, Nat.reduceMod, Nat.reduceDiv, Nat.reduceLT, Nat.reduceLeDiff, Int.reduceEq, Int.reduceLT, Int.reduceLE, Int.reduceToNat, Int.reduceBNe, Int.reduceBEq, reduceCtorEq, h]
      refine WantM.intro (pickM _ (okr 3 (by omega))) ?_
      rw [hu]
      simp -implicitDefEqProofs only [go_sem, Nat.reduceBEq, Nat.reduceAdd, Nat.reduceSub, Nat.reduceMul, Nat.reduceMod, Nat.reduceDiv, Nat.reduceLT, Nat.reduceLeDiff, Int.reduceEq, Int.reduceLT, Int.reduceLE, Int.reduceToNat, Int.reduceBNe, Int.reduceBEq, reduceCtorEq, htm, hnz]
      have hi : u % B.length < B.length := by first | omega | exact Nat.mod_lt _ (by omega)
      generalize u % B.length = w at *
      have g1 : (w : Int) ≤ (B.length : Int) := by omega
      have g2 : IntKind.i64.wrap ((w : Int) + 1) = ((w + 1 : Nat) : Int) := by rw [wrS (by omega)]; omega
      have g3 : ((w + 1 : Nat) : Int) ≤ (B.length : Int) := by omega
      simp -implicitDefEqProofs only [go_sem, Nat.reduceBEq, Nat.reduceAdd, Nat.reduceSub, Nat.reduceMul, Nat.reduceMod, Nat.reduceDiv, Nat.reduceLT, Nat.reduceLeDiff, Int.reduceEq, Int.reduceLT, Int.reduceLE, Int.reduceToNat, Int.reduceBNe, Int.reduceBEq, reduceCtorEq, g1, g2, g3]
      refine WantM.intro (pickM _ (okr 4 (by omega))) ?_
      generalize hx : UInt8.ofNat (IntKind.u8.wrap (pk (r.adv 4) 256)).toNat = x
      have s1 : ((bA B).extract 0 w).size = w := by rw [ByteArray.size_extract, bA_size]; omega
      have s2 : ((bA B).extract (w + 1) B.length).size = B.length - (w + 1) := by rw [ByteArray.size_extract, bA_size]; omega
      have s3 : ∀ x : UInt8, (#[x] : Array UInt8).size = 1 := fun _ => rfl
      have z1 : ¬ (((w + 1 : Nat) : Int) > 9223372036854775807) := by omega
      have z2 : ¬ (((w + 1 + (B.length - (w + 1)) : Nat) : Int) > 9223372036854775807) := by omega
      simp -implicitDefEqProofs only [go_sem, Nat.reduceBEq, Nat.reduceAdd, Nat.reduceSub, Nat.reduceMul, Nat.reduceMod, Nat.reduceDiv, Nat.reduceLT, Nat.reduceLeDiff, Int.reduceEq, Int.reduceLT, Int.reduceLE, Int.reduceToNat, Int.reduceBNe, Int.reduceBEq, reduceCtorEq, g1, g2, g3, s1, s2, s3, hx, z1, z2]
      refine RetAt.intro (vS ((bA B).extract 0 w ++ ⟨#[x]⟩ ++ (bA B).extract (w + 1) B.length)) [] ⟨_, ⟨rfl, rfl⟩, by rw [ByteArray.size_append, ByteArray.size_append, s1, s2]; show w + 1 + _ ≤ _; omega⟩ ?_
      simp -implicitDefEqProofs only [go_sem, Nat.reduceBEq, Nat.reduceAdd, Nat.reduceSub, Nat.reduceMul, Nat.reduceMod, Nat.reduceDiv, Nat.reduceLT, Nat.reduceLeDiff, Int.reduceEq, Int.reduceLT, Int.reduceLE, Int.reduceToNat, Int.reduceBNe, Int.reduceBEq, reduceCtorEq]
      first | done | rfl | exact ⟨rfl, rfl⟩ | trace_state
    · simp -implicitDefEqProofs only [go_sem, Nat.reduceBEq, Nat.reduceAdd, Nat.reduceSub, Nat.reduceMul, Nat.reduceMod, Nat.reduceDiv, Nat.reduceLT, Nat.reduceLeDiff, Int.reduceEq, Int.reduceLT, Int.reduceLE, Int.reduceToNat, Int.reduceBNe, Int.reduceBEq, reduceCtorEq, h]
      have hi : v < B.length := by first | omega | exact Nat.mod_lt _ (by omega)
      generalize v = w at *
      have g1 : (w : Int) ≤ (B.length : Int) := by omega
      have g2 : IntKind.i64.wrap ((w : Int) + 1) = ((w + 1 : Nat) : Int) := by rw [wrS (by omega)]; omega
      have g3 : ((w + 1 : Nat) : Int) ≤ (B.length : Int) := by omega
      simp -implicitDefEqProofs only [go_sem, Nat.reduceBEq, Nat.reduceAdd, Nat.reduceSub, Nat.reduceMul, Nat.reduceMod, Nat.reduceDiv, Nat.reduceLT, Nat.reduceLeDiff, Int.reduceEq, Int.reduceLT, Int.reduceLE, Int.reduceToNat, Int.reduceBNe, Int.reduceBEq, reduceCtorEq, g1, g2, g3]
      refine WantM.intro (pickM _ (okr 3 (by omega))) ?_
      generalize hx : UInt8.ofNat (IntKind.u8.wrap (pk (r.adv 3) 256)).toNat = x
      have s1 : ((bA B).extract 0 w).size = w := by rw [ByteArray.size_extract, bA_size]; omega
      have s2 : ((bA B).extract (w + 1) B.length).size = B.length - (w + 1) := by rw [ByteArray.size_extract, bA_size]; omega
      have s3 : ∀ x : UInt8, (#[x] : Array UInt8).size = 1 := fun _ => rfl
      have z1 : ¬ (((w + 1 : Nat) : Int) > 9223372036854775807) := by omega
      have z2 : ¬ (((w + 1 + (B.length - (w + 1)) : Nat) : Int) > 9223372036854775807) := by omega
      simp -implicitDefEqProofs only [go_sem, Nat.reduceBEq, Nat.reduceAdd, Nat.reduceSub, Nat.reduceMul, Nat.reduceMod, Nat.reduceDiv, Nat.reduceLT, Nat.reduceLeDiff, Int.reduceEq, Int.reduceLT, Int.reduceLE, Int.reduceToNat, Int.reduceBNe, Int.reduceBEq, reduceCtorEq, g1, g2, g3, s1, s2, s3, hx, z1, z2]
      refine RetAt.intro (vS ((bA B).extract 0 w ++ ⟨#[x]⟩ ++ (bA B).extract (w + 1) B.length)) [] ⟨_, ⟨rfl, rfl⟩, by rw [ByteArray.size_append, ByteArray.size_append, s1, s2]; show w + 1 + _ ≤ _; omega⟩ ?_
      simp -implicitDefEqProofs only [go_sem, Nat.reduceBEq, Nat.reduceAdd, Nat.reduceSub, Nat.reduceMul, Nat.reduceMod, Nat.reduceDiv, Nat.reduceLT, Nat.reduceLeDiff, Int.reduceEq, Int.reduceLT, Int.reduceLE, Int.reduceToNat, Int.reduceBNe, Int.reduceBEq, reduceCtorEq]
      first | done | rfl | exact ⟨rfl, rfl⟩ | trace_state
  · have ht := tx_ok (r.adv 1) 9 (hro'.adv 1) (by omega) (by omega)
    simp -implicitDefEqProofs only [go_sem, Nat.reduceBEq, Nat.reduceAdd, Nat.reduceSub, Nat.reduceMul, Nat.reduceMod, Nat.reduceDiv, Nat.reduceLT, Nat.reduceLeDiff, Int.reduceEq, Int.reduceLT, Int.reduceLE, Int.reduceToNat, Int.reduceBNe, Int.reduceBEq, reduceCtorEq, condJ_true, condJ_false]
    refine WantM.intro (c91_c (r.adv 1) 9 ((hro'.adv 1).le (by omega)) (by omega)) ?_
    simp -implicitDefEqProofs only [go_sem, Nat.reduceBEq, Nat.reduceAdd, Nat.reduceSub, Nat.reduceMul, Nat.reduceMod, Nat.reduceDiv, Nat.reduceLT, Nat.reduceLeDiff, Int.reduceEq, Int.reduceLT, Int.reduceLE, Int.reduceToNat, Int.reduceBNe, Int.reduceBEq, reduceCtorEq]
    refine RetAt.intro (vS (tx (r.adv 1) 9).1) [] ⟨_, ⟨rfl, rfl⟩, by omega⟩ ?_
    simp -implicitDefEqProofs only [go_sem, Nat.reduceBEq, Nat.reduceAdd, Nat.reduceSub, Nat.reduceMul, Nat.reduceMod, Nat.reduceDiv, Nat.reduceLT, Nat.reduceLeDiff, Int.reduceEq, Int.reduceLT, Int.reduceLE, Int.reduceToNat, Int.reduceBNe, Int.reduceBEq, reduceCtorEq]
    first | done | rfl | exact ⟨rfl, rfl⟩ | trace_state
  · have j0 : (K == 0) = false := by simpa using k0
    have j1 : (K == 1) = false := by simpa using k1
    have j2 : (K == 2) = false := by simpa using k2
    have j3 : (K == 3) = false := by simpa using k3
    simp -implicitDefEqProofs only [go_sem, Nat.reduceBEq, Nat.reduceAdd, Nat.reduceSub, Nat.reduceMul, Nat.reduceMod, Nat.reduceDiv, Nat.reduceLT, Nat.reduceLeDiff, Int.reduceEq, Int.reduceLT, Int.reduceLE, Int.reduceToNat, Int.reduceBNe, Int.reduceBEq, reduceCtorEq, j0, j1, j2, j3, condJ_true, condJ_false]
    refine RetAt.intro (vS (bA B)) [] ⟨_, ⟨rfl, rfl⟩, by rw [bA_size]; omega⟩ ?_
    simp -implicitDefEqProofs only [go_sem, Nat.reduceBEq, Nat.reduceAdd, Nat.reduceSub, Nat.reduceMul, Nat.reduceMod, Nat.reduceDiv, Nat.reduceLT, Nat.reduceLeDiff, Int.reduceEq, Int.reduceLT, Int.reduceLE, Int.reduceToNat, Int.reduceBNe, Int.reduceBEq, reduceCtorEq]
    first | done | rfl | exact ⟨rfl, rfl⟩ | trace_state
end Go.Proofs.Ytfcfggefdifgkaa.E
