/-
  Contracts: messages in bytes.
-/
import Derived.Test.YtkhemolkhegppaaD11
namespace Go.Proofs.Ytkhemolkhegppaa.E
open Go Go.RowKit
set_option maxHeartbeats 4000000
set_option maxRecDepth 10000
set_option linter.unusedSimpArgs false
set_option linter.unusedVariables false
set_option linter.unusedSectionVars false
@[go_sem] def c12 : SC J := .sq [1] (.reg [.p (.bx 1 45 (.tmp 0)), .p (.as 2 (.const (.string { data := #[] })))])
 (.sq [1] (.sq [1, 9] (.reg [.p (.ld 7 45 (.tmp 1)), .p (.cl (some 8) 53 [.tmp 7] [45]), .p (.un 9 .not 4 (.tmp 8))])
   (.cond (.tmp 9)
    (.sq [2] (.reg [.p (.as 2 (.const (.string { data := #[] })))])
     (.ret))
    (.skip)))
  (.sq [1, 3] (.reg [.p (.fa 10 45 (.tmp 1) 0), .p (.ld 11 3 (.tmp 10)), .p (.cl (some 12) 54 [.tmp 11] [3]), .p (.as 3 (.tmp 12))])
   (.sq [1, 3, 4] (.reg [.p (.fa 13 45 (.tmp 1) 0), .p (.ld 14 3 (.tmp 13)), .p (.cl (some 15) 55 [.tmp 14, .const (.int .i64 1)] [3, 3]), .p (.as 4 (.tmp 15))])
    (.sq [1, 3, 4] (.sq [1, 3, 4, 17] (.reg [.p (.mv 16 (.tmp 3)), .p (.cl (some 17) 56 [.tmp 16, .const (.int .u8 115)] [9, 5])])
      (.cond (.tmp 17)
       (.reg [.p (.mv 18 (.tmp 4)), .p (.fa 19 45 (.tmp 1) 1), .p (.ld 20 3 (.tmp 19)), .p (.cl (some 21) 55 [.tmp 20, .const (.int .i64 3)] [3, 3]), .p (.bn 22 .add 9 (.tmp 18) (.tmp 21) 9), .p (.as 4 (.tmp 22))])
       (.skip)))
     (.sq [1, 3, 4] (.sq [1, 3, 4, 24] (.reg [.p (.mv 23 (.tmp 3)), .p (.cl (some 24) 56 [.tmp 23, .const (.int .u8 102)] [9, 5])])
       (.cond (.tmp 24)
        (.reg [.p (.mv 25 (.tmp 4)), .p (.fa 26 45 (.tmp 1) 2), .p (.ld 27 3 (.tmp 26)), .p (.cl (some 28) 55 [.tmp 27, .const (.int .i64 2)] [3, 3]), .p (.bn 29 .add 9 (.tmp 25) (.tmp 28) 9), .p (.as 4 (.tmp 29))])
        (.skip)))
      (.sq [1, 3, 4] (.sq [1, 3, 4, 31] (.reg [.p (.mv 30 (.tmp 3)), .p (.cl (some 31) 56 [.tmp 30, .const (.int .u8 110)] [9, 5])])
        (.cond (.tmp 31)
         (.reg [.p (.mv 32 (.tmp 4)), .p (.fa 33 45 (.tmp 1) 3), .p (.ld 34 3 (.tmp 33)), .p (.cl (some 35) 55 [.tmp 34, .const (.int .i64 2)] [3, 3]), .p (.bn 36 .add 9 (.tmp 32) (.tmp 35) 9), .p (.as 4 (.tmp 36))])
         (.skip)))
       (.sq [1, 3, 4] (.sq [1, 3, 4, 38] (.reg [.p (.mv 37 (.tmp 3)), .p (.cl (some 38) 56 [.tmp 37, .const (.int .u8 114)] [9, 5])])
         (.cond (.tmp 38)
          (.reg [.p (.mv 39 (.tmp 4)), .p (.fa 40 45 (.tmp 1) 4), .p (.ld 41 25 (.tmp 40)), .p (.cl (some 42) 57 [.tmp 41] [25]), .p (.bn 43 .add 9 (.tmp 39) (.tmp 42) 9), .p (.as 4 (.tmp 43))])
          (.skip)))
        (.sq [1, 3, 4] (.sq [1, 3, 4, 45] (.reg [.p (.mv 44 (.tmp 3)), .p (.cl (some 45) 56 [.tmp 44, .const (.int .u8 99)] [9, 5])])
          (.cond (.tmp 45)
           (.reg [.p (.mv 46 (.tmp 4)), .p (.fa 47 45 (.tmp 1) 5), .p (.ld 48 3 (.tmp 47)), .p (.cl (some 49) 55 [.tmp 48, .const (.int .i64 1)] [3, 3]), .p (.bn 50 .add 9 (.tmp 46) (.tmp 49) 9), .p (.as 4 (.tmp 50))])
           (.skip)))
         (.sq [1, 3, 4] (.sq [1, 3, 4, 52] (.reg [.p (.mv 51 (.tmp 3)), .p (.cl (some 52) 56 [.tmp 51, .const (.int .u8 112)] [9, 5])])
           (.cond (.tmp 52)
            (.sq [1, 3, 4] (.reg [.p (.mv 53 (.tmp 4)), .p (.fa 54 45 (.tmp 1) 6), .p (.ld 55 42 (.tmp 54)), .p (.ln 56 42 (.tmp 55)), .p (.cl (some 57) 55 [.tmp 56, .const (.int .i64 1)] [3, 3]), .p (.bn 58 .add 9 (.tmp 53) (.tmp 57) 9), .p (.as 4 (.tmp 58))])
             (.sq [1, 3, 4, 5] (.reg [.p (.as 5 (.const (.int .i64 0)))])
              (.block 0 (.lp [1, 3, 4, 5] (.sq [1, 3, 4, 5] (.sq [1, 3, 4, 5, 63] (.reg [.p (.mv 59 (.tmp 5)), .p (.fa 60 45 (.tmp 1) 6), .p (.ld 61 42 (.tmp 60)), .p (.ln 62 42 (.tmp 61)), .p (.bn 63 .lss 3 (.tmp 59) (.tmp 62) 3)])
                  (.cond (.tmp 63)
                   (.skip)
                   (.exit 0)))
                 (.sq [1, 3, 4, 5] (.block 1 (.reg [.p (.mv 66 (.tmp 4)), .p (.fa 67 45 (.tmp 1) 6), .p (.ld 68 42 (.tmp 67)), .p (.mv 69 (.tmp 5)), .p (.ia 70 42 (.tmp 68) (.tmp 69)), .p (.ld 71 25 (.tmp 70)), .p (.cl (some 72) 57 [.tmp 71] [25]), .p (.bn 73 .add 9 (.tmp 66) (.tmp 72) 9), .p (.as 4 (.tmp 73))]))
                  (.reg [.p (.mv 64 (.tmp 5)), .p (.bn 65 .add 3 (.tmp 64) (.const (.int .i64 1)) 3), .p (.as 5 (.tmp 65))])))))))
            (.skip)))
          (.sq [4] (.sq [1, 4, 75] (.reg [.p (.mv 74 (.tmp 3)), .p (.cl (some 75) 56 [.tmp 74, .const (.int .u8 108)] [9, 5])])
            (.cond (.tmp 75)
             (.sq [1, 4] (.reg [.p (.mv 76 (.tmp 4)), .p (.fa 77 45 (.tmp 1) 7), .p (.ld 78 43 (.tmp 77)), .p (.ln 79 43 (.tmp 78)), .p (.cl (some 80) 55 [.tmp 79, .const (.int .i64 1)] [3, 3]), .p (.bn 81 .add 9 (.tmp 76) (.tmp 80) 9), .p (.as 4 (.tmp 81))])
              (.sq [1, 4, 6] (.reg [.p (.as 6 (.const (.int .i64 0)))])
               (.block 2 (.lp [1, 4, 6] (.sq [1, 4, 6] (.sq [1, 4, 6, 86] (.reg [.p (.mv 82 (.tmp 6)), .p (.fa 83 45 (.tmp 1) 7), .p (.ld 84 43 (.tmp 83)), .p (.ln 85 43 (.tmp 84)), .p (.bn 86 .lss 3 (.tmp 82) (.tmp 85) 3)])
                   (.cond (.tmp 86)
                    (.skip)
                    (.exit 2)))
                  (.sq [1, 4, 6] (.block 3 (.dr (.pu 0 (.pu 1 (.pu 2 (.pu 3 (.pu 4 (.pu 5 (.pu 6 (.pu 9 (.pu 10 (.pu 11 (.pu 12 (.pu 13 (.ef 7 [10, 12, 13] (.pu 8 (.pu 14 (.pu 15 (.nil))))))))))))))))) [[], [], [1], [], [1, 2, 3], [1, 2, 3, 4], [1, 2, 3, 4, 5], [1, 2, 3, 4, 5, 6], [0, 1, 2, 3, 4, 5, 6, 7], [], [9], [], [9, 10, 11], [9, 10, 11, 12], [0, 1, 2, 3, 4, 5, 6, 7, 8, 9, 10, 11, 12, 13], [0, 1, 2, 3, 4, 5, 6, 7, 8, 9, 10, 11, 12, 13, 14]] [.p (.mv 89 (.tmp 4)), .p (.fa 90 45 (.tmp 1) 7), .p (.ld 91 43 (.tmp 90)), .p (.mv 92 (.tmp 6)), .p (.ia 93 43 (.tmp 91) (.tmp 92)), .p (.ld 94 9 (.tmp 93)), .p (.ln 95 9 (.tmp 94)), .p (.cl (some 96) 55 [.tmp 95, .const (.int .i64 1)] [3, 3]), .p (.bn 97 .add 9 (.tmp 89) (.tmp 96) 9), .p (.fa 98 45 (.tmp 1) 7), .p (.ld 99 43 (.tmp 98)), .p (.mv 100 (.tmp 6)), .p (.ia 101 43 (.tmp 99) (.tmp 100)), .p (.ld 102 9 (.tmp 101)), .p (.bn 103 .add 9 (.tmp 97) (.tmp 102) 9), .p (.as 4 (.tmp 103))] [[], [], [1], [], [2, 3], [4], [5], [6], [0, 7], [], [9], [], [10, 11], [12], [8, 13], [14, 7, 0, 1, 2, 3, 4, 5, 6, 7, 8, 9, 10, 11, 12, 13, 14]]))
                   (.reg [.p (.mv 87 (.tmp 6)), .p (.bn 88 .add 3 (.tmp 87) (.const (.int .i64 1)) 3), .p (.as 6 (.tmp 88))])))))))
             (.skip)))
           (.sq [2] (.reg [.p (.mv 104 (.tmp 4)), .p (.as 2 (.tmp 104))])
            (.ret))))))))))))
theorem b12 : BodyOK Try.prog 12 c12 105 [.tmp 2] := ⟨Try.f12, by kernel_rfl, by kernel_rfl, by kernel_rfl, by kernel_rfl, by kernel_rfl⟩
set_option maxRecDepth 100000 in
@[go_sem] theorem k12_0 : chkT (.pu 0 (.pu 1 (.pu 2 (.pu 3 (.pu 4 (.pu 5 (.pu 6 (.pu 9 (.pu 10 (.pu 11 (.pu 12 (.pu 13 (.ef 7 [10, 12, 13] (.pu 8 (.pu 14 (.pu 15 (.nil))))))))))))))))) [[], [], [1], [], [1, 2, 3], [1, 2, 3, 4], [1, 2, 3, 4, 5], [1, 2, 3, 4, 5, 6], [0, 1, 2, 3, 4, 5, 6, 7], [], [9], [], [9, 10, 11], [9, 10, 11, 12], [0, 1, 2, 3, 4, 5, 6, 7, 8, 9, 10, 11, 12, 13], [0, 1, 2, 3, 4, 5, 6, 7, 8, 9, 10, 11, 12, 13, 14]] (soI [.p (.mv 89 (.tmp 4)), .p (.fa 90 45 (.tmp 1) 7), .p (.ld 91 43 (.tmp 90)), .p (.mv 92 (.tmp 6)), .p (.ia 93 43 (.tmp 91) (.tmp 92)), .p (.ld 94 9 (.tmp 93)), .p (.ln 95 9 (.tmp 94)), .p (.cl (some 96) 55 [.tmp 95, .const (.int .i64 1)] [3, 3]), .p (.bn 97 .add 9 (.tmp 89) (.tmp 96) 9), .p (.fa 98 45 (.tmp 1) 7), .p (.ld 99 43 (.tmp 98)), .p (.mv 100 (.tmp 6)), .p (.ia 101 43 (.tmp 99) (.tmp 100)), .p (.ld 102 9 (.tmp 101)), .p (.bn 103 .add 9 (.tmp 97) (.tmp 102) 9), .p (.as 4 (.tmp 103))]) [[], [], [1], [], [2, 3], [4], [5], [6], [0, 7], [], [9], [], [10, 11], [12], [8, 13], [14, 7, 0, 1, 2, 3, 4, 5, 6, 7, 8, 9, 10, 11, 12, 13, 14]] = true := by kernel_rfl

@[go_sem] def c71 : SC J := .sq [1] (.reg [.p (.bx 1 45 (.tmp 0)), .p (.as 2 (.const (.string { data := #[] })))])
 (.sq [1] (.sq [1, 5] (.reg [.p (.ld 3 45 (.tmp 1)), .p (.cl (some 4) 114 [.tmp 3] [45]), .p (.un 5 .not 4 (.tmp 4))])
   (.cond (.tmp 5)
    (.sq [2] (.reg [.p (.as 2 (.const (.string { data := #[] })))])
     (.ret))
    (.skip)))
  (.sq [2] (.reg [.p (.ld 6 45 (.tmp 1)), .p (.cl (some 7) 117 [.tmp 6] [45]), .p (.as 2 (.tmp 7))])
   (.ret)))
theorem b71 : BodyOK Try.prog 71 c71 8 [.tmp 2] := ⟨Try.f71, by kernel_rfl, by kernel_rfl, by kernel_rfl, by kernel_rfl, by kernel_rfl⟩

@[go_sem] def c117 : SC J := .sq [1] (.reg [.p (.bx 1 45 (.tmp 0)), .p (.as 2 (.const (.string { data := #[] })))])
 (.sq [1, 3] (.reg [.p (.fa 10 45 (.tmp 1) 0), .p (.ld 11 3 (.tmp 10)), .p (.cv 12 3 5 (.tmp 11)), .p (.bs 13 22 1 [(0, .tmp 12)]), .p (.as 3 (.tmp 13))])
  (.sq [3] (.rng 0 [.p (.fa 14 45 (.tmp 1) 0), .p (.ld 15 3 (.tmp 14)), .p (.cl (some 16) 100 [.tmp 15] [3])] 17 9 (.tmp 16) 18 19
    (.block 1 (.sq [1, 3, 5, 17] (.reg [.p (.ex 20 (.tmp 18) 2), .p (.as 5 (.tmp 20))])
      (.sq [1, 3, 17, 21] (.reg [.p (.mv 21 (.tmp 5))])
       (.block 2 (.sq [1, 3, 17, 21, 22] (.reg [.p (.bn 23 .eql 21 (.tmp 21) (.const (.int .i32 115)) 21), .p (.as 22 (.tmp 23))])
         (.cond (.tmp 22)
          (.reg [.p (.mv 24 (.tmp 3)), .p (.fa 25 45 (.tmp 1) 1), .p (.ld 26 3 (.tmp 25)), .p (.cl (some 27) 147 [.tmp 26, .const (.int .i64 3)] [3, 3]), .p (.ap (some 28) 22 22 (.tmp 24) (.tmp 27)), .p (.as 3 (.tmp 28))])
          (.sq [1, 3, 17, 21, 29] (.reg [.p (.bn 30 .eql 21 (.tmp 21) (.const (.int .i32 102)) 21), .p (.as 29 (.tmp 30))])
           (.cond (.tmp 29)
            (.reg [.p (.mv 31 (.tmp 3)), .p (.fa 32 45 (.tmp 1) 2), .p (.ld 33 3 (.tmp 32)), .p (.cl (some 34) 147 [.tmp 33, .const (.int .i64 2)] [3, 3]), .p (.ap (some 35) 22 22 (.tmp 31) (.tmp 34)), .p (.as 3 (.tmp 35))])
            (.sq [1, 3, 17, 21, 36] (.reg [.p (.bn 37 .eql 21 (.tmp 21) (.const (.int .i32 122)) 21), .p (.as 36 (.tmp 37))])
             (.cond (.tmp 36)
              (.reg [.p (.mv 38 (.tmp 3)), .p (.fa 39 45 (.tmp 1) 3), .p (.ld 40 3 (.tmp 39)), .p (.cl (some 41) 147 [.tmp 40, .const (.int .i64 2)] [3, 3]), .p (.ap (some 42) 22 22 (.tmp 38) (.tmp 41)), .p (.as 3 (.tmp 42))])
              (.sq [1, 3, 17, 21, 43] (.reg [.p (.bn 44 .eql 21 (.tmp 21) (.const (.int .i32 114)) 21), .p (.as 43 (.tmp 44))])
               (.cond (.tmp 43)
                (.reg [.p (.mv 45 (.tmp 3)), .p (.fa 46 45 (.tmp 1) 4), .p (.ld 47 25 (.tmp 46)), .p (.cl (some 48) 148 [.tmp 47] [25]), .p (.ap (some 49) 22 9 (.tmp 45) (.tmp 48)), .p (.as 3 (.tmp 49))])
                (.sq [1, 3, 17, 21, 50] (.reg [.p (.bn 51 .eql 21 (.tmp 21) (.const (.int .i32 99)) 21), .p (.as 50 (.tmp 51))])
                 (.cond (.tmp 50)
                  (.reg [.p (.mv 52 (.tmp 3)), .p (.fa 53 45 (.tmp 1) 5), .p (.ld 54 3 (.tmp 53)), .p (.cl (some 55) 147 [.tmp 54, .const (.int .i64 1)] [3, 3]), .p (.ap (some 56) 22 22 (.tmp 52) (.tmp 55)), .p (.as 3 (.tmp 56))])
                  (.sq [1, 3, 17, 21, 57] (.reg [.p (.bn 58 .eql 21 (.tmp 21) (.const (.int .i32 112)) 21), .p (.as 57 (.tmp 58))])
                   (.cond (.tmp 57)
                    (.sq [1, 3, 17] (.reg [.p (.mv 59 (.tmp 3)), .p (.fa 60 45 (.tmp 1) 6), .p (.ld 61 42 (.tmp 60)), .p (.ln 62 42 (.tmp 61)), .p (.cl (some 63) 147 [.tmp 62, .const (.int .i64 1)] [3, 3]), .p (.ap (some 64) 22 22 (.tmp 59) (.tmp 63)), .p (.as 3 (.tmp 64))])
                     (.sq [1, 3, 17, 66, 67, 68] (.reg [.p (.fa 65 45 (.tmp 1) 6), .p (.ld 66 42 (.tmp 65)), .p (.ln 67 42 (.tmp 66)), .p (.mv 68 (.const (.int .i64 0)))])
                      (.block 3 (.lp [1, 3, 17, 66, 67, 68] (.sq [1, 3, 17, 66, 67, 68, 69] (.reg [.p (.bn 69 .lss 3 (.tmp 68) (.tmp 67) 3)])
                         (.sq [1, 3, 17, 66, 67, 68] (.cond (.tmp 69)
                           (.skip)
                           (.exit 3))
                          (.sq [1, 3, 17, 66, 67, 68] (.block 4 (.sq [1, 3, 7, 17, 66, 67, 68] (.reg [.p (.ia 70 42 (.tmp 66) (.tmp 68)), .p (.ld 71 25 (.tmp 70)), .p (.al 7 25), .p (.st 25 (.tmp 7) (.tmp 71))])
                             (.reg [.p (.mv 72 (.tmp 3)), .p (.ld 73 25 (.tmp 7)), .p (.cl (some 74) 148 [.tmp 73] [25]), .p (.ap (some 75) 22 9 (.tmp 72) (.tmp 74)), .p (.as 3 (.tmp 75))])))
                           (.reg [.p (.bn 76 .add 3 (.tmp 68) (.const (.int .i64 1)) 3), .p (.mv 68 (.tmp 76))]))))))))
                    (.sq [1, 3, 17, 77] (.reg [.p (.bn 78 .eql 21 (.tmp 21) (.const (.int .i32 108)) 21), .p (.as 77 (.tmp 78))])
                     (.cond (.tmp 77)
                      (.sq [1, 3, 17] (.reg [.p (.mv 79 (.tmp 3)), .p (.fa 80 45 (.tmp 1) 7), .p (.ld 81 43 (.tmp 80)), .p (.ln 82 43 (.tmp 81)), .p (.cl (some 83) 147 [.tmp 82, .const (.int .i64 1)] [3, 3]), .p (.ap (some 84) 22 22 (.tmp 79) (.tmp 83)), .p (.as 3 (.tmp 84))])
                       (.sq [1, 3, 17, 86, 87, 88] (.reg [.p (.fa 85 45 (.tmp 1) 7), .p (.ld 86 43 (.tmp 85)), .p (.ln 87 43 (.tmp 86)), .p (.mv 88 (.const (.int .i64 0)))])
                        (.block 5 (.lp [1, 3, 17, 86, 87, 88] (.sq [1, 3, 17, 86, 87, 88, 89] (.reg [.p (.bn 89 .lss 3 (.tmp 88) (.tmp 87) 3)])
                           (.sq [1, 3, 17, 86, 87, 88] (.cond (.tmp 89)
                             (.skip)
                             (.exit 5))
                            (.sq [1, 3, 17, 86, 87, 88] (.block 6 (.sq [1, 3, 9, 17, 86, 87, 88] (.reg [.p (.ia 90 43 (.tmp 86) (.tmp 88)), .p (.ld 91 9 (.tmp 90)), .p (.as 9 (.tmp 91))])
                               (.sq [1, 3, 9, 17, 86, 87, 88] (.reg [.p (.mv 92 (.tmp 3)), .p (.mv 93 (.tmp 9)), .p (.ln 94 9 (.tmp 93)), .p (.cl (some 95) 147 [.tmp 94, .const (.int .i64 1)] [3, 3]), .p (.ap (some 96) 22 22 (.tmp 92) (.tmp 95)), .p (.as 3 (.tmp 96))])
                                (.reg [.p (.mv 97 (.tmp 3)), .p (.mv 98 (.tmp 9)), .p (.ap (some 99) 22 9 (.tmp 97) (.tmp 98)), .p (.as 3 (.tmp 99))]))))
                             (.reg [.p (.bn 100 .add 3 (.tmp 88) (.const (.int .i64 1)) 3), .p (.mv 88 (.tmp 100))]))))))))
                      (.skip))))))))))))))))))))
   (.sq [2] (.reg [.p (.mv 101 (.tmp 3)), .p (.cv 102 22 9 (.tmp 101)), .p (.as 2 (.tmp 102))])
    (.ret))))
theorem b117 : BodyOK Try.prog 117 c117 103 [.tmp 2] := ⟨Try.f117, by kernel_rfl, by kernel_rfl, by kernel_rfl, by kernel_rfl, by kernel_rfl⟩

def MDig.bl (d : MDig) : List UInt8 := d.bk 4
def bK (m : MMsg) : List UInt8 := low m.kind.toNat 1
def bS (m : MMsg) : List UInt8 := low m.session.toNat 3
def bF (m : MMsg) : List UInt8 := low m.from_.toNat 2
def bZ (m : MMsg) : List UInt8 := low m.size.toNat 2
def bC (m : MMsg) : List UInt8 := low m.count.toNat 1
def digsL (l : List MDig) : List UInt8 := l.flatMap MDig.bl
def leafB (s : ByteArray) : List UInt8 := low s.size 1 ++ s.data.toList
def leafsL (l : List ByteArray) : List UInt8 := l.flatMap leafB
def bP (m : MMsg) : List UInt8 := low m.proof.length 1 ++ digsL m.proof
def bL_ (m : MMsg) : List UInt8 := low m.leaves.length 1 ++ leafsL m.leaves
def wbL (m : MMsg) : List UInt8 :=
  if m.kind = 1 then bK m ++ bS m
  else if m.kind = 2 ∨ m.kind = 3 ∨ m.kind = 6 then bK m ++ bS m ++ bZ m ++ m.root.bl
  else if m.kind = 4 then bK m ++ bF m ++ bZ m
  else if m.kind = 5 then bK m ++ bF m ++ bZ m ++ bP m
  else if m.kind = 7 then bK m ++ bF m ++ bC m
  else bK m ++ bF m ++ bL_ m
/-- Bytes out of a list. -/
def bA (l : List UInt8) : ByteArray := ⟨l.toArray⟩
theorem bA_size (l : List UInt8) : (bA l).size = l.length := by simp [bA, ByteArray.size]
theorem bA_ext {a b : ByteArray} (h : a.data.toList = b.data.toList) : a = b := ByteArray.ext (Array.toList_inj.1 h)
theorem bA_app (a b : List UInt8) : bA a ++ bA b = bA (a ++ b) := bA_ext (by simp [bA, ByteArray.data_append])
theorem bA_of (s : ByteArray) : s = bA s.data.toList := bA_ext (by simp [bA])
theorem bA_list (l : List UInt8) : (bA l).data.toList = l := by simp [bA]
theorem bA_nil : (⟨#[]⟩ : ByteArray) = bA [] := rfl
theorem numB_bA (v n : Nat) : numB v n = bA (low v n) := bA_ext (by rw [numB_low]; simp [bA])
theorem bytes_bA (d : MDig) : d.bytes = bA d.bl := by rw [d.bytes_bk]; rfl
theorem bl_len (d : MDig) : d.bl.length = 32 := d.bk_len (Nat.le_refl 4)
def mWireBytes (m : MMsg) : ByteArray := if mWireOk m then bA (wbL m) else ⟨#[]⟩
theorem l5Num1 (v : Int) (h : 0 ≤ v ∧ v ≤ 1000000000) : CallR Try.prog 55 [vI v, vI 1] (vS (bA (low v.toNat 1))) [] := by
  have := c55_c 1 v.toNat (by omega) (by omega)
  rw [Int.toNat_of_nonneg h.1, numB_bA] at this
  exact this
theorem l5Num2 (v : Int) (h : 0 ≤ v ∧ v ≤ 1000000000) : CallR Try.prog 55 [vI v, vI 2] (vS (bA (low v.toNat 2))) [] := by
  have := c55_c 2 v.toNat (by omega) (by omega)
  rw [Int.toNat_of_nonneg h.1, numB_bA] at this
  exact this
theorem l5Num3 (v : Int) (h : 0 ≤ v ∧ v ≤ 1000000000) : CallR Try.prog 55 [vI v, vI 3] (vS (bA (low v.toNat 3))) [] := by
  have := c55_c 3 v.toNat (by omega) (by omega)
  rw [Int.toNat_of_nonneg h.1, numB_bA] at this
  exact this
theorem hashB (d : MDig) (h : d.ok) : CallR Try.prog 57 [.agg d.cs] (vS (bA d.bl)) [] := by
  have := c57_c d h
  rw [bytes_bA] at this
  exact this
theorem mPart_nat {h : Bool} {x lo hi : Int} (h1 : mPart h x lo hi = true) (h2 : 0 ≤ lo) (h3 : 0 ≤ hi) : 0 ≤ x ∧ x ≤ hi := by
  cases h with
  | false => have : x = 0 := by simpa [mPart] using h1
             omega
  | true => have : lo ≤ x ∧ x ≤ hi := by simpa [mPart, mIn] using h1
            omega
structure WOk (m : MMsg) : Prop where
  k : mIn m.kind 1 8 = true
  s : 0 ≤ m.session ∧ m.session ≤ 1000000
  f : 0 ≤ m.from_ ∧ m.from_ ≤ 256
  z : 0 ≤ m.size ∧ m.size ≤ 256
  c : 0 ≤ m.count ∧ m.count ≤ 8
  p : m.proof.length ≤ 16
  l : m.leaves.length ≤ 8
  lo : leavesOk m.leaves = true
theorem WOk.of {m : MMsg} (h : mWireOk m = true) : WOk m := by
  simp only [mWireOk, Bool.and_eq_true] at h
  obtain ⟨h0, hs, hf, hz, hr, hc, hp, hl, hlo⟩ := h
  have hp' := mPart_nat hp (by omega) (by omega)
  have hl' := mPart_nat hl (by omega) (by omega)
  exact ⟨h0, mPart_nat hs (by omega) (by omega), mPart_nat hf (by omega) (by omega), mPart_nat hz (by omega) (by omega), mPart_nat hc (by omega) (by omega), by omega, by omega, hlo⟩
attribute [go_sem] bA_app bA_size
theorem flat_take {α : Type} (f : α → List UInt8) {l : List α} {i : Nat} (h : i < l.length) : (l.take (i + 1)).flatMap f = (l.take i).flatMap f ++ f l[i] := by
  rw [List.take_succ_eq_append_getElem h, List.flatMap_append]
  simp
theorem digsL_len (l : List MDig) : (digsL l).length = 32 * l.length := by
  induction l with
  | nil => rfl
  | cons a l ih => simp only [digsL, List.flatMap_cons, List.length_append, bl_len, List.length_cons] at *; omega
theorem leafsL_len (l : List ByteArray) (h : leavesOk l = true) : (leafsL l).length ≤ 41 * l.length := by
  induction l with
  | nil => exact Nat.zero_le _
  | cons a l ih =>
    simp only [leavesOk, List.all_cons, Bool.and_eq_true, decide_eq_true_eq] at h
    have := ih h.2
    have e : a.data.toList.length = a.size := Array.length_toList
    simp only [leafsL, leafB, List.flatMap_cons, List.length_append, List.length_cons, low_len, e] at *
    omega
theorem leavesOk_take {l : List ByteArray} (h : leavesOk l = true) (i : Nat) : leavesOk (l.take i) = true := by
  simp only [leavesOk, List.all_eq_true] at *
  exact fun x hx => h x (List.mem_of_mem_take hx)
theorem leavesOk_get {l : List ByteArray} (h : leavesOk l = true) {i : Nat} (hi : i < l.length) : l[i].size ≤ 40 := by
  simp only [leavesOk, List.all_eq_true, decide_eq_true_eq] at h
  exact h _ (List.getElem_mem hi)
theorem c12_c (m : MMsg) (hp : m.proof.length ≤ maxLen) (hl : m.leaves.length ≤ maxLen) (hr : m.root.ok) (hd : ∀ d ∈ m.proof, d.ok) : CallR Try.prog 12 [m.ro] (vS (mWireBytes m)) [] := by
  refine callR_of_jv b12 rfl ?_
  simp -implicitDefEqProofs only [go_sem]
  refine Want.intro (c53_c m hl) ?_
  simp -implicitDefEqProofs only [go_sem]
  refine condJ_intro (fun h => ?_) (fun h => ?_)
  · have h' : mWireOk m = false := by simpa using h
    simp -implicitDefEqProofs only [go_sem, h]
    simp [mWireBytes, h']
  · have h' : mWireOk m = true := by simpa using h
    have hk := WOk.of h'
    rw [mWireBytes, if_pos h']
    simp -implicitDefEqProofs only [go_sem, h]
    clear h h'
    obtain ⟨k, se, fr, si, ro, co, pr, le⟩ := m
    obtain ⟨k0, ks, kf, kz, kc, kp, kl, klo⟩ := hk
    simp only at k0 ks kf kz kc kp kl klo hr hd
    refine Want.intro (c54_c k) ?_
    rcases kinds k with rfl | rfl | rfl | rfl | rfl | rfl | rfl | rfl | ⟨h1, h2, h3, h4, h5, h6, h7, h8⟩
    case inr.inr.inr.inr.inr.inr.inr.inr => simp [mIn] at k0; omega
    all_goals simp -implicitDefEqProofs only [go_sem, condJ_true, condJ_false]
    all_goals repeat' first | (refine Want.intro (by first | exact c56_c _ 115 (by decide) | exact c56_c _ 102 (by decide) | exact c56_c _ 110 (by decide) | exact c56_c _ 114 (by decide) | exact c56_c _ 99 (by decide) | exact c56_c _ 112 (by decide) | exact c56_c _ 108 (by decide) | exact l5Num1 _ (by omega) | exact l5Num2 _ (by omega) | exact l5Num3 _ (by omega) | exact hashB ro hr) ?_; try simp -implicitDefEqProofs only [go_sem, condJ_true, condJ_false, low_len, bl_len, List.length_append, Int.cast_ofNat_Int, Int.reduceGT]) | (refine WantM.intro (by first | exact c56_c _ 115 (by decide) | exact c56_c _ 102 (by decide) | exact c56_c _ 110 (by decide) | exact c56_c _ 114 (by decide) | exact c56_c _ 99 (by decide) | exact c56_c _ 112 (by decide) | exact c56_c _ 108 (by decide) | exact l5Num1 _ (by omega) | exact l5Num2 _ (by omega) | exact l5Num3 _ (by omega) | exact hashB ro hr) ?_; try simp -implicitDefEqProofs only [go_sem, condJ_true, condJ_false, low_len, bl_len, List.length_append, Int.cast_ofNat_Int, Int.reduceGT]) | (refine guardP_intro (fun h => ?_) (fun h => ?_) <;> try simp -implicitDefEqProofs only [go_sem, condJ_true, condJ_false, low_len, bl_len, List.length_append, Int.cast_ofNat_Int, Int.reduceGT, h]) | (refine condJ_intro (fun h => ?_) (fun h => ?_) <;> try simp -implicitDefEqProofs only [go_sem, condJ_true, condJ_false, low_len, bl_len, List.length_append, Int.cast_ofNat_Int, Int.reduceGT, h])
    all_goals try (simp [wbL, bK, bS, bF, bZ, bC]; done)
    · have hpl : (low 5 1 ++ low fr.toNat 2 ++ low si.toNat 2 ++ low pr.length 1).length = 6 := by simp [low_len]
      have hW : wbL ⟨5, se, fr, si, ro, co, pr, le⟩ = (low 5 1 ++ low fr.toNat 2 ++ low si.toNat 2 ++ low pr.length 1) ++ digsL pr := by simp [wbL, bK, bF, bZ, bP]
      rw [hW]
      generalize low 5 1 ++ low fr.toNat 2 ++ low si.toNat 2 ++ low pr.length 1 = pre at *
      refine jv_lp (fun n z => ∃ i : Nat, i ≤ pr.length ∧ n = pr.length - i ∧ z = ⟨105, [(1, .ptr 1 0 [] 11 0 0), (3, vS ⟨#[102, 110, 112]⟩), (4, vS (bA (pre ++ digsL (pr.take i)))), (5, vI i)], [(1, 0, one ⟨11, [(MMsg.mk 5 se fr si ro co pr le).roC], 0, false⟩)], 1⟩) pr.length ?_ ?_
      · simp -implicitDefEqProofs only [go_sem]
        exact ⟨0, Nat.zero_le _, rfl, by simp [digsL]⟩
      · rintro n z ⟨i, hi, rfl, rfl⟩
        rcases Nat.lt_or_ge i pr.length with hlt | hge
        · have hlt' : (i : Int) < (pr.length : Int) := by omega
          have hg : pr[i]? = some pr[i] := List.getElem?_eq_getElem hlt
          have hw := wrap_succ hlt hp
          have hft := flat_take MDig.bl hlt
          have hdl := digsL_len (pr.take i)
          rw [List.length_take] at hdl
          have hsz : ¬ (((pre.length + (digsL (pr.take i)).length + 32 : Nat) : Int) > 9223372036854775807) := by omega
          simp -implicitDefEqProofs only [go_sem, hlt', hg]
          refine Want.intro (hashB pr[i] (hd _ (List.getElem_mem hlt))) ?_
          simp -implicitDefEqProofs only [go_sem, hw, bl_len, List.length_append, hsz]
          refine ⟨_, by omega, i + 1, hlt, rfl, ?_⟩
          rw [digsL, digsL, hft, List.append_assoc]
        · have hi : i = pr.length := by omega
          subst hi
          have hlt' : ¬ ((pr.length : Int) < (pr.length : Int)) := by omega
          simp -implicitDefEqProofs only [go_sem, hlt']
          refine Want.intro (c56_c _ 108 (by decide)) ?_
          simp -implicitDefEqProofs only [go_sem, condJ_false, List.take_length]
    · have hpl : (low 8 1 ++ low fr.toNat 2 ++ low le.length 1).length = 4 := by simp [low_len]
      have hW : wbL ⟨8, se, fr, si, ro, co, pr, le⟩ = (low 8 1 ++ low fr.toNat 2 ++ low le.length 1) ++ leafsL le := by simp [wbL, bK, bF, bZ, bL_]
      rw [hW]
      generalize low 8 1 ++ low fr.toNat 2 ++ low le.length 1 = pre at *
      refine jv_lp (fun n z => ∃ i : Nat, i ≤ le.length ∧ n = le.length - i ∧ z = ⟨105, [(1, .ptr 1 0 [] 11 0 0), (4, vS (bA (pre ++ leafsL (le.take i)))), (6, vI i)], [(1, 0, one ⟨11, [(MMsg.mk 8 se fr si ro co pr le).roC], 0, false⟩)], 1⟩) le.length ?_ ?_
      · simp -implicitDefEqProofs only [go_sem]
        exact ⟨0, Nat.zero_le _, rfl, by simp [leafsL]⟩
      · rintro n z ⟨i, hi, rfl, rfl⟩
        rcases Nat.lt_or_ge i le.length with hlt | hge
        · have hlt' : (i : Int) < (le.length : Int) := by omega
          have hg : le[i]? = some le[i] := List.getElem?_eq_getElem hlt
          have hw := wrap_succ hlt hl
          have hft := flat_take leafB hlt
          have hdl := leafsL_len (le.take i) (leavesOk_take klo i)
          rw [List.length_take] at hdl
          have h40 := leavesOk_get klo hlt
          have e : le[i].data.toList.length = le[i].size := Array.length_toList
          have hsz : ¬ (((pre.length + (leafsL (le.take i)).length + 1 : Nat) : Int) > 9223372036854775807) := by omega
          have hsz2 : ¬ (((pre.length + (leafsL (le.take i)).length + 1 + le[i].size : Nat) : Int) > 9223372036854775807) := by omega
          have hof := bA_of le[i]
          simp -implicitDefEqProofs only [go_sem, hlt', hg]
          refine Want.intro (l5Num1 _ (by omega)) ?_
          simp -implicitDefEqProofs only [go_sem, hw, low_len, List.length_append, hsz, hsz2]
          refine ⟨_, by omega, i + 1, hlt, rfl, ?_⟩
          have e3 : ∀ p, bA (p ++ (low le[i].size 1 ++ le[i].data.toList)) = bA (p ++ low le[i].size 1) ++ le[i] := by
            intro p
            rw [← List.append_assoc, ← bA_app, ← bA_of]
          rw [leafsL, leafsL, hft, leafB, ← List.append_assoc, e3]
        · have hi : i = le.length := by omega
          subst hi
          have hlt' : ¬ ((le.length : Int) < (le.length : Int)) := by omega
          simp -implicitDefEqProofs only [go_sem, hlt', List.take_length]
end Go.Proofs.Ytkhemolkhegppaa.E
