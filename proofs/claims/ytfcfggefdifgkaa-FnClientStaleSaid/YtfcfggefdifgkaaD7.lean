/-
  Contracts: messages that are the same, marked, held; the law of WireRead.
-/
import Derived.Test.YtfcfggefdifgkaaD6
namespace Go.Proofs.Ytfcfggefdifgkaa.E
open Go Go.RowKit
set_option maxHeartbeats 4000000
set_option maxRecDepth 10000
set_option linter.unusedSimpArgs false
set_option linter.unusedVariables false
set_option linter.unusedSectionVars false
@[go_sem] def c13 : SC J := .sq [2, 3] (.reg [.p (.bx 2 28 (.tmp 0)), .p (.bx 3 28 (.tmp 1)), .p (.as 4 (.const (.bool false)))])
 (.sq [2, 3] (.sq [2, 3, 9] (.reg [.p (.fa 5 28 (.tmp 2) 0), .p (.ld 6 3 (.tmp 5)), .p (.fa 7 28 (.tmp 3) 0), .p (.ld 8 3 (.tmp 7)), .p (.bn 9 .neq 3 (.tmp 6) (.tmp 8) 3)])
   (.cond (.tmp 9)
    (.sq [4] (.reg [.p (.as 4 (.const (.bool false)))])
     (.ret))
    (.skip)))
  (.sq [2, 3] (.sq [2, 3, 14] (.reg [.p (.fa 10 28 (.tmp 2) 1), .p (.ld 11 3 (.tmp 10)), .p (.fa 12 28 (.tmp 3) 1), .p (.ld 13 3 (.tmp 12)), .p (.bn 14 .neq 3 (.tmp 11) (.tmp 13) 3)])
    (.cond (.tmp 14)
     (.sq [4] (.reg [.p (.as 4 (.const (.bool false)))])
      (.ret))
     (.skip)))
   (.sq [2, 3] (.sq [2, 3, 19] (.reg [.p (.fa 15 28 (.tmp 2) 2), .p (.ld 16 3 (.tmp 15)), .p (.fa 17 28 (.tmp 3) 2), .p (.ld 18 3 (.tmp 17)), .p (.bn 19 .neq 3 (.tmp 16) (.tmp 18) 3)])
     (.cond (.tmp 19)
      (.sq [4] (.reg [.p (.as 4 (.const (.bool false)))])
       (.ret))
      (.skip)))
    (.sq [2, 3] (.sq [2, 3, 24] (.reg [.p (.fa 20 28 (.tmp 2) 3), .p (.ld 21 3 (.tmp 20)), .p (.fa 22 28 (.tmp 3) 3), .p (.ld 23 3 (.tmp 22)), .p (.bn 24 .neq 3 (.tmp 21) (.tmp 23) 3)])
      (.cond (.tmp 24)
       (.sq [4] (.reg [.p (.as 4 (.const (.bool false)))])
        (.ret))
       (.skip)))
     (.sq [2, 3] (.sq [2, 3, 30] (.reg [.p (.fa 25 28 (.tmp 2) 4), .p (.ld 26 24 (.tmp 25)), .p (.fa 27 28 (.tmp 3) 4), .p (.ld 28 24 (.tmp 27)), .p (.cl (some 29) 61 [.tmp 26, .tmp 28] [24, 24]), .p (.un 30 .not 4 (.tmp 29))])
       (.cond (.tmp 30)
        (.sq [4] (.reg [.p (.as 4 (.const (.bool false)))])
         (.ret))
        (.skip)))
      (.sq [2, 3] (.sq [2, 3, 35] (.reg [.p (.fa 31 28 (.tmp 2) 5), .p (.ld 32 3 (.tmp 31)), .p (.fa 33 28 (.tmp 3) 5), .p (.ld 34 3 (.tmp 33)), .p (.bn 35 .neq 3 (.tmp 32) (.tmp 34) 3)])
        (.cond (.tmp 35)
         (.sq [4] (.reg [.p (.as 4 (.const (.bool false)))])
          (.ret))
         (.skip)))
       (.sq [2, 3] (.sq [2, 3, 41] (.reg [.p (.fa 36 28 (.tmp 2) 6), .p (.ld 37 25 (.tmp 36)), .p (.fa 38 28 (.tmp 3) 6), .p (.ld 39 25 (.tmp 38)), .p (.cl (some 40) 62 [.tmp 37, .tmp 39] [25, 25]), .p (.un 41 .not 4 (.tmp 40))])
         (.cond (.tmp 41)
          (.sq [4] (.reg [.p (.as 4 (.const (.bool false)))])
           (.ret))
          (.skip)))
        (.sq [] (.sq [47] (.reg [.p (.fa 42 28 (.tmp 2) 7), .p (.ld 43 26 (.tmp 42)), .p (.fa 44 28 (.tmp 3) 7), .p (.ld 45 26 (.tmp 44)), .p (.cl (some 46) 63 [.tmp 43, .tmp 45] [26, 26]), .p (.un 47 .not 4 (.tmp 46))])
          (.cond (.tmp 47)
           (.sq [4] (.reg [.p (.as 4 (.const (.bool false)))])
            (.ret))
           (.skip)))
         (.sq [4] (.reg [.p (.as 4 (.const (.bool true)))])
          (.ret))))))))))
theorem b13 : BodyOK Try.prog 13 c13 48 [.tmp 4] := ⟨Try.f13, by kernel_rfl, by kernel_rfl, by kernel_rfl, by kernel_rfl, by kernel_rfl⟩

@[go_sem] def c14 : SC J := .sq [2, 3] (.reg [.p (.bx 2 30 (.tmp 0)), .p (.bx 3 30 (.tmp 1)), .p (.as 4 (.const (.bool false)))])
 (.sq [2, 3] (.sq [2, 3, 9] (.reg [.p (.fa 5 30 (.tmp 2) 0), .p (.ld 6 3 (.tmp 5)), .p (.fa 7 30 (.tmp 3) 0), .p (.ld 8 3 (.tmp 7)), .p (.bn 9 .neq 3 (.tmp 6) (.tmp 8) 3)])
   (.cond (.tmp 9)
    (.sq [4] (.reg [.p (.as 4 (.const (.bool false)))])
     (.ret))
    (.skip)))
  (.sq [] (.sq [14] (.reg [.p (.fa 10 30 (.tmp 2) 1), .p (.ld 11 3 (.tmp 10)), .p (.fa 12 30 (.tmp 3) 1), .p (.ld 13 3 (.tmp 12)), .p (.bn 14 .neq 3 (.tmp 11) (.tmp 13) 3)])
    (.cond (.tmp 14)
     (.sq [4] (.reg [.p (.as 4 (.const (.bool false)))])
      (.ret))
     (.skip)))
   (.sq [4] (.reg [.p (.as 4 (.const (.bool true)))])
    (.ret))))
theorem b14 : BodyOK Try.prog 14 c14 15 [.tmp 4] := ⟨Try.f14, by kernel_rfl, by kernel_rfl, by kernel_rfl, by kernel_rfl, by kernel_rfl⟩

@[go_sem] def c15 : SC J := .sq [1, 2] (.reg [.p (.bx 2 28 (.tmp 0)), .p (.as 4 (.const (.int .i64 0)))])
 (.sq [1, 2] (.reg [.p (.fa 5 28 (.tmp 2) 6), .p (.ld 6 25 (.tmp 5)), .p (.mv 7 (.tmp 1)), .p (.cm (some 8) 64 [true, false] [.tmp 6, .tmp 7] [25, 3]), .p (.as 1 (.tmp 8))])
  (.sq [1] (.reg [.p (.fa 9 28 (.tmp 2) 7), .p (.ld 10 26 (.tmp 9)), .p (.mv 11 (.tmp 1)), .p (.cm (some 12) 65 [true, false] [.tmp 10, .tmp 11] [26, 3]), .p (.as 1 (.tmp 12))])
   (.sq [4] (.reg [.p (.mv 13 (.tmp 1)), .p (.as 4 (.tmp 13))])
    (.ret))))
theorem b15 : BodyOK Try.prog 15 c15 14 [.tmp 4] := ⟨Try.f15, by kernel_rfl, by kernel_rfl, by kernel_rfl, by kernel_rfl, by kernel_rfl⟩

@[go_sem] def c16 : SC J := .sq [1, 2] (.reg [.p (.bx 2 28 (.tmp 0)), .p (.as 4 (.const (.int .i64 0)))])
 (.sq [1, 2] (.reg [.p (.fa 5 28 (.tmp 2) 6), .p (.ld 6 25 (.tmp 5)), .p (.mv 7 (.tmp 1)), .p (.cl (some 8) 66 [.tmp 6, .tmp 7] [25, 3]), .p (.as 1 (.tmp 8))])
  (.sq [1, 2] (.sq [1, 2, 10] (.reg [.p (.mv 9 (.tmp 1)), .p (.bn 10 .lss 3 (.tmp 9) (.const (.int .i64 0)) 3)])
    (.cond (.tmp 10)
     (.sq [4] (.reg [.p (.as 4 (.const (.int .i64 (-1))))])
      (.ret))
     (.skip)))
   (.sq [1] (.reg [.p (.fa 11 28 (.tmp 2) 7), .p (.ld 12 26 (.tmp 11)), .p (.mv 13 (.tmp 1)), .p (.cl (some 14) 67 [.tmp 12, .tmp 13] [26, 3]), .p (.as 1 (.tmp 14))])
    (.sq [1] (.sq [1, 16] (.reg [.p (.mv 15 (.tmp 1)), .p (.bn 16 .lss 3 (.tmp 15) (.const (.int .i64 0)) 3)])
      (.cond (.tmp 16)
       (.sq [4] (.reg [.p (.as 4 (.const (.int .i64 (-1))))])
        (.ret))
       (.skip)))
     (.sq [4] (.reg [.p (.mv 17 (.tmp 1)), .p (.as 4 (.tmp 17))])
      (.ret))))))
theorem b16 : BodyOK Try.prog 16 c16 18 [.tmp 4] := ⟨Try.f16, by kernel_rfl, by kernel_rfl, by kernel_rfl, by kernel_rfl, by kernel_rfl⟩

@[go_sem] def c3 : SC J := .sq [0] (.reg [.p (.as 2 (.const (.bool false)))])
 (.sq [0] (.sq [0, 13] (.reg [.p (.mv 11 (.tmp 0)), .p (.ln 12 9 (.tmp 11)), .p (.bn 13 .gtr 3 (.tmp 12) (.const (.int .i64 1048576)) 3)])
   (.cond (.tmp 13)
    (.sq [2] (.reg [.p (.as 2 (.const (.bool true)))])
     (.ret))
    (.skip)))
  (.sq [0, 3, 4] (.reg [.p (.mv 15 (.tmp 0)), .p (.cl (some 16) 11 [.tmp 15] [9]), .p (.mv 14 (.tmp 16)), .p (.ex 17 (.tmp 14) 0), .p (.ex 18 (.tmp 14) 1), .p (.al 3 28), .p (.al 4 30), .p (.st 28 (.tmp 3) (.tmp 17)), .p (.st 30 (.tmp 4) (.tmp 18))])
   (.sq [0, 3, 4, 5, 6] (.reg [.p (.mv 20 (.tmp 0)), .p (.cm (some 21) 12 [false] [.tmp 20] [9]), .p (.mv 19 (.tmp 21)), .p (.ex 22 (.tmp 19) 0), .p (.ex 23 (.tmp 19) 1), .p (.al 5 28), .p (.al 6 30), .p (.st 28 (.tmp 5) (.tmp 22)), .p (.st 30 (.tmp 6) (.tmp 23))])
    (.sq [0, 3, 4, 5] (.sq [0, 3, 4, 5, 33] (.reg [.p (.ld 24 28 (.tmp 5)), .p (.ld 25 28 (.tmp 3)), .p (.cl (some 26) 13 [.tmp 24, .tmp 25] [28, 28]), .p (.un 27 .not 4 (.tmp 26)), .p (.mv 28 (.tmp 27)), .g 28 false (.ld 29 30 (.tmp 6)), .g 28 false (.ld 30 30 (.tmp 4)), .g 28 false (.cl (some 31) 14 [.tmp 29, .tmp 30] [30, 30]), .g 28 false (.un 32 .not 4 (.tmp 31)), .p (.pk 33 (.tmp 28) (.const (.bool true)) (.tmp 32))])
      (.cond (.tmp 33)
       (.sq [2] (.reg [.p (.as 2 (.const (.bool false)))])
        (.ret))
       (.skip)))
     (.sq [0, 3, 4, 5, 7] (.reg [.p (.as 7 (.const (.int .i64 1)))])
      (.sq [0, 3, 4, 5, 7] (.reg [.p (.ld 34 28 (.tmp 5)), .p (.mv 35 (.tmp 7)), .p (.cm (some 36) 15 [true, false] [.tmp 34, .tmp 35] [28, 3]), .p (.as 7 (.tmp 36))])
       (.sq [0, 3, 4, 5, 7, 8] (.reg [.p (.as 8 (.const (.int .i64 1)))])
        (.sq [0, 3, 4, 5, 7, 8] (.reg [.p (.ld 37 28 (.tmp 5)), .p (.mv 38 (.tmp 8)), .p (.cl (some 39) 16 [.tmp 37, .tmp 38] [28, 3]), .p (.as 8 (.tmp 39))])
         (.sq [0, 3, 4, 5, 7, 8] (.sq [0, 3, 4, 5, 7, 8, 41] (.reg [.p (.mv 40 (.tmp 8)), .p (.bn 41 .lss 3 (.tmp 40) (.const (.int .i64 0)) 3)])
           (.cond (.tmp 41)
            (.sq [2] (.reg [.p (.as 2 (.const (.bool false)))])
             (.ret))
            (.skip)))
          (.sq [0, 3, 4, 5, 7] (.sq [0, 3, 4, 5, 7, 44] (.reg [.p (.mv 42 (.tmp 8)), .p (.mv 43 (.tmp 7)), .p (.bn 44 .neq 3 (.tmp 42) (.tmp 43) 3)])
            (.cond (.tmp 44)
             (.sq [2] (.reg [.p (.as 2 (.const (.bool false)))])
              (.ret))
             (.skip)))
           (.sq [3, 4, 5, 7, 9, 10] (.reg [.p (.mv 46 (.tmp 0)), .p (.cm (some 47) 12 [false] [.tmp 46] [9]), .p (.mv 45 (.tmp 47)), .p (.ex 48 (.tmp 45) 0), .p (.ex 49 (.tmp 45) 1), .p (.al 9 28), .p (.al 10 30), .p (.st 28 (.tmp 9) (.tmp 48)), .p (.st 30 (.tmp 10) (.tmp 49))])
            (.sq [5, 7] (.sq [5, 7, 59] (.reg [.p (.ld 50 28 (.tmp 9)), .p (.ld 51 28 (.tmp 3)), .p (.cl (some 52) 13 [.tmp 50, .tmp 51] [28, 28]), .p (.un 53 .not 4 (.tmp 52)), .p (.mv 54 (.tmp 53)), .g 54 false (.ld 55 30 (.tmp 10)), .g 54 false (.ld 56 30 (.tmp 4)), .g 54 false (.cl (some 57) 14 [.tmp 55, .tmp 56] [30, 30]), .g 54 false (.un 58 .not 4 (.tmp 57)), .p (.pk 59 (.tmp 54) (.const (.bool true)) (.tmp 58))])
              (.cond (.tmp 59)
               (.sq [2] (.reg [.p (.as 2 (.const (.bool false)))])
                (.ret))
               (.skip)))
             (.sq [5, 7, 8] (.reg [.p (.as 8 (.const (.int .i64 1)))])
              (.sq [7, 8] (.reg [.p (.ld 60 28 (.tmp 5)), .p (.mv 61 (.tmp 8)), .p (.cl (some 62) 16 [.tmp 60, .tmp 61] [28, 3]), .p (.as 8 (.tmp 62))])
               (.sq [7, 8] (.sq [7, 8, 64] (.reg [.p (.mv 63 (.tmp 8)), .p (.bn 64 .lss 3 (.tmp 63) (.const (.int .i64 0)) 3)])
                 (.cond (.tmp 64)
                  (.sq [2] (.reg [.p (.as 2 (.const (.bool false)))])
                   (.ret))
                  (.skip)))
                (.sq [] (.sq [67] (.reg [.p (.mv 65 (.tmp 8)), .p (.mv 66 (.tmp 7)), .p (.bn 67 .neq 3 (.tmp 65) (.tmp 66) 3)])
                  (.cond (.tmp 67)
                   (.sq [2] (.reg [.p (.as 2 (.const (.bool false)))])
                    (.ret))
                   (.skip)))
                 (.sq [2] (.reg [.p (.as 2 (.const (.bool true)))])
                  (.ret))))))))))))))))))
theorem b3 : BodyOK Try.prog 3 c3 68 [.tmp 2] := ⟨Try.f3, by kernel_rfl, by kernel_rfl, by kernel_rfl, by kernel_rfl, by kernel_rfl⟩

def MMsg.ro (m : MMsg) : AV := .agg [vI m.kind, vI m.session, vI m.from_, vI m.size, vU m.root.a, vU m.root.b, vU m.root.c, vU m.root.d, vI m.count, .ro 4 (m.proof.map MDig.cs), .ro 1 (m.leaves.map leafCs)]
def MMsg.mv (m : MMsg) : AV := .agg [vI m.kind, vI m.session, vI m.from_, vI m.size, vU m.root.a, vU m.root.b, vU m.root.c, vU m.root.d, vI m.count, .blk 1000000 0 [] 4 0 m.proof.length, .blk 1000001 0 [] 1 0 m.leaves.length]
attribute [go_sem] MMsg.ro MMsg.mv
theorem c14_c (a b : Int) : CallR Try.prog 14 [.agg [vI a, vI b], .agg [vI a, vI b]] (vB true) [] := by
  refine callR_of_jv b14 rfl ?_
  simp -implicitDefEqProofs only [go_sem, bne_self_eq_false]
theorem c13_c (m : MMsg) (hp : m.proof.length ≤ maxLen) (hl : m.leaves.length ≤ maxLen) : CallR Try.prog 13 [m.ro, m.ro] (vB true) [] := by
  refine callR_of_jv b13 rfl ?_
  simp -implicitDefEqProofs only [go_sem, bne_self_eq_false]
  refine Want.intro (c61_c m.root m.root) ?_
  simp -implicitDefEqProofs only [go_sem, eqDig_refl, bne_self_eq_false]
  refine Want.intro (c62_c m.proof m.proof hp) ?_
  simp -implicitDefEqProofs only [go_sem, mEqL_refl eqDig_refl m.proof, bne_self_eq_false]
  refine Want.intro (c63_c m.leaves m.leaves hl) ?_
  simp -implicitDefEqProofs only [go_sem, mEqL_refl eqBy_refl m.leaves, bne_self_eq_false]
def mkMsg (m : MMsg) (k : Int) : MMsg := { m with proof := (gMark mkDig m.proof.length k).1, leaves := (gMark mkBy m.leaves.length (gMark mkDig m.proof.length k).2).1 }
def mkMsgN (m : MMsg) (k : Int) : Int := (gMark mkBy m.leaves.length (gMark mkDig m.proof.length k).2).2
theorem c15_c (m : MMsg) (hp : m.proof.length ≤ 1000) (hl : m.leaves.length ≤ 1000) : CallM Try.prog 15 [(1000000, 0, one ⟨4, m.proof.map MDig.cs, 2, false⟩), (1000001, 0, one ⟨1, m.leaves.map leafCs, 2, false⟩)] [m.mv, vI 1] (vI (mkMsgN m 1)) [(1000000, 0, one ⟨4, (mkMsg m 1).proof.map MDig.cs, 2, false⟩), (1000001, 0, one ⟨1, (mkMsg m 1).leaves.map leafCs, 2, false⟩)] := by
  refine callM_of_jv b15 rfl ?_
  simp -implicitDefEqProofs only [go_sem]
  refine WantM.intro (c64_c m.proof 1 (by unfold maxLen; omega) (by omega)) ?_
  have hn := mkDig_num m.proof.length 1
  simp -implicitDefEqProofs only [go_sem]
  refine WantM.intro (c65_c m.leaves (gMark mkDig m.proof.length 1).2 (by unfold maxLen; omega) (by omega)) ?_
  simp -implicitDefEqProofs only [go_sem]
  exact ⟨rfl, rfl⟩
theorem c16_c (m : MMsg) (hp : m.proof.length ≤ 1000) (hl : m.leaves.length ≤ 1000) : CallR Try.prog 16 [(mkMsg m 1).ro, vI 1] (vI (mkMsgN m 1)) [] := by
  refine callR_of_jv b16 rfl ?_
  have hG := gMark_len (mk := mkDig) (n := m.proof.length) (k := 1)
  have hn := mkDig_num m.proof.length 1
  have hG2 := gMark_len (mk := mkBy) (n := m.leaves.length) (k := (gMark mkDig m.proof.length 1).2)
  have hn2 := mkBy_num m.leaves.length (gMark mkDig m.proof.length 1).2
  have hH : gHeld digIs (fun k => k + 1 + 1 + 1 + 1) (gMark mkDig m.proof.length 1).1 1 = (gMark mkDig m.proof.length 1).2 := gHeld_all digIs_mk m.proof.length 1
  have hH2 : gHeld byIs (fun k => k + 1) (gMark mkBy m.leaves.length (gMark mkDig m.proof.length 1).2).1 (gMark mkDig m.proof.length 1).2 = (gMark mkBy m.leaves.length (gMark mkDig m.proof.length 1).2).2 := gHeld_all byIs_mk m.leaves.length _
  have hN : ¬ ((gMark mkDig m.proof.length 1).2 < 0) := by omega
  have hN2 : ¬ ((gMark mkBy m.leaves.length (gMark mkDig m.proof.length 1).2).2 < 0) := by omega
  simp -implicitDefEqProofs only [go_sem, mkMsg]
  refine Want.intro (c66_c _ 1 (by rw [hG]; unfold maxLen; omega) (by rw [hG]; omega)) ?_
  simp -implicitDefEqProofs only [go_sem, hH, hN]
  refine Want.intro (c67_c _ _ (by rw [hG2]; unfold maxLen; omega) (by rw [hG2]; omega)) ?_
  simp -implicitDefEqProofs only [go_sem, hH2, hN2]
  try rfl
theorem mParts_len {text : ByteArray} (r : MRd) (z : Int) (k : Nat) : (mParts k (r, { MMsg.zero with kind := z })).2.proof.length ≤ 1000 ∧ (mParts k (r, { MMsg.zero with kind := z })).2.leaves.length ≤ 1000 := by
  unfold mParts
  split <;> first
    | exact ⟨Nat.zero_le _, Nat.zero_le _⟩
    | (refine ⟨?_, Nat.zero_le _⟩
       show (mDigs _ _).1.length ≤ 1000
       rw [mDigs_len]
       have := mNum_bd (pZ (pF (r, { MMsg.zero with kind := z }))).1 1 16 (by omega)
       omega)
    | (refine ⟨Nat.zero_le _, ?_⟩
       show (mLeafs _ _).1.length ≤ 1000
       rw [mLeafs_len]
       have := mNum_bd (pF (r, { MMsg.zero with kind := z })).1 1 8 (by omega)
       omega)
theorem mWire_len (text : ByteArray) : (mWireRead text).1.proof.length ≤ 1000 ∧ (mWireRead text).1.leaves.length ≤ 1000 := by
  unfold mWireRead
  split
  · exact ⟨Nat.zero_le _, Nat.zero_le _⟩
  · split
    · unfold mEnd
      split
      · split
        · exact ⟨Nat.zero_le _, Nat.zero_le _⟩
        · exact mParts_len (text := text) _ _ _
      · exact ⟨Nat.zero_le _, Nat.zero_le _⟩
    · exact ⟨Nat.zero_le _, Nat.zero_le _⟩
theorem c3_c (text : ByteArray) : CallR Try.prog 3 [vS text] (vB true) [] := by
  refine callR_of_jv b3 rfl ?_
  simp -implicitDefEqProofs only [go_sem]
  refine condJ_intro (fun h => ?_) (fun h => ?_)
  · simp -implicitDefEqProofs only [go_sem, h]
  · have ht : text.size ≤ 1000000000000 := by have := of_decide_eq_false h; omega
    have hlen := mWire_len text
    have hS := c11_c text ht
    have hI := c12_c text ht
    generalize mWireRead text = W at *
    obtain ⟨m, c, a⟩ := W
    simp only at hlen
    have hm1 : m.proof.length ≤ maxLen := by unfold maxLen; omega
    have hm2 : m.leaves.length ≤ maxLen := by unfold maxLen; omega
    simp -implicitDefEqProofs only [go_sem, h]
    refine Want.intro hS ?_
    simp -implicitDefEqProofs only [go_sem]
    refine WantM.intro hI ?_
    simp -implicitDefEqProofs only [go_sem]
    refine Want.intro (c13_c m hm1 hm2) ?_
    simp -implicitDefEqProofs only [go_sem]
    refine Want.intro (c14_c c a) ?_
    simp -implicitDefEqProofs only [go_sem]
    refine WantM.intro (c15_c m hlen.1 hlen.2) ?_
    have hG1 : (mkMsg m 1).proof.length = m.proof.length := gMark_len
    have hG2 : (mkMsg m 1).leaves.length = m.leaves.length := gMark_len
    have hN : ¬ (mkMsgN m 1 < 0) := by
      unfold mkMsgN
      rw [mkBy_num, mkDig_num]
      omega
    have hT1 : List.take m.proof.length (mkMsg m 1).proof = (mkMsg m 1).proof := List.take_of_length_le (by rw [hG1]; exact Nat.le_refl _)
    have hT2 : List.take m.leaves.length (mkMsg m 1).leaves = (mkMsg m 1).leaves := List.take_of_length_le (by rw [hG2]; exact Nat.le_refl _)
    simp -implicitDefEqProofs only [go_sem, hG1, hG2, hT1, hT2]
    refine Want.intro (c16_c m hlen.1 hlen.2) ?_
    simp -implicitDefEqProofs only [go_sem, hG1, hG2, hT1, hT2, hN, bne_self_eq_false]
    refine WantM.intro hI ?_
    simp -implicitDefEqProofs only [go_sem, hG1, hG2, hT1, hT2, hN, bne_self_eq_false]
    refine Want.intro (c13_c m hm1 hm2) ?_
    simp -implicitDefEqProofs only [go_sem, hG1, hG2, hT1, hT2, hN, bne_self_eq_false]
    refine Want.intro (c14_c c a) ?_
    simp -implicitDefEqProofs only [go_sem, hG1, hG2, hT1, hT2, hN, bne_self_eq_false]
    refine Want.intro (c16_c m hlen.1 hlen.2) ?_
    simp -implicitDefEqProofs only [go_sem, hG1, hG2, hT1, hT2, hN, bne_self_eq_false]
end Go.Proofs.Ytfcfggefdifgkaa.E
