/-
  The law of ClientStale.
-/
import Derived.Test.YtfcfggefdifgkaaF9
namespace Go.Proofs.Ytfcfggefdifgkaa.E
open Go Go.RowKit
set_option maxHeartbeats 4000000
set_option maxRecDepth 10000
set_option linter.unusedSimpArgs false
set_option linter.unusedVariables false
set_option linter.unusedSectionVars false
attribute [-go_sem] fieldT
@[go_sem] theorem fT0 : fieldT Try.prog 59 0 = some 47 := by kernel_rfl
@[go_sem] def c25 : SC J := .sq [0, 1] (.reg [.p (.as 4 (.const (.int .i64 0)))])
 (.sq [] (.sq [1, 5] (.reg [.p (.mv 5 (.tmp 0))])
   (.cond (.tmp 5)
    (.sq [4] (.reg [.p (.mv 6 (.tmp 1)), .p (.as 4 (.tmp 6))])
     (.ret))
    (.skip)))
  (.sq [4] (.reg [.p (.as 4 (.const (.int .i64 0)))])
   (.ret)))
theorem b25 : BodyOK Try.prog 25 c25 7 [.tmp 4] := ⟨Try.f25, by kernel_rfl, by kernel_rfl, by kernel_rfl, by kernel_rfl, by kernel_rfl⟩

@[go_sem] def c28 : SC J := .sq [2, 3] (.reg [.p (.bx 2 47 (.tmp 0)), .p (.bx 3 47 (.tmp 1)), .p (.as 4 (.const (.bool false)))])
 (.sq [2, 3] (.sq [2, 3, 54] (.reg [.p (.fa 6 47 (.tmp 2) 0), .p (.ld 7 3 (.tmp 6)), .p (.fa 8 47 (.tmp 3) 0), .p (.ld 9 3 (.tmp 8)), .p (.bn 10 .neq 3 (.tmp 7) (.tmp 9) 3), .p (.mv 11 (.tmp 10)), .g 11 false (.fa 12 47 (.tmp 2) 1), .g 11 false (.ld 13 3 (.tmp 12)), .g 11 false (.fa 14 47 (.tmp 3) 1), .g 11 false (.ld 15 3 (.tmp 14)), .g 11 false (.bn 16 .neq 3 (.tmp 13) (.tmp 15) 3), .p (.pk 17 (.tmp 11) (.const (.bool true)) (.tmp 16)), .p (.mv 18 (.tmp 17)), .g 18 false (.fa 19 47 (.tmp 2) 2), .g 18 false (.ld 20 3 (.tmp 19)), .g 18 false (.fa 21 47 (.tmp 3) 2), .g 18 false (.ld 22 3 (.tmp 21)), .g 18 false (.bn 23 .neq 3 (.tmp 20) (.tmp 22) 3), .p (.pk 24 (.tmp 18) (.const (.bool true)) (.tmp 23)), .p (.mv 25 (.tmp 24)), .g 25 false (.fa 26 47 (.tmp 2) 3), .g 25 false (.ld 27 3 (.tmp 26)), .g 25 false (.fa 28 47 (.tmp 3) 3), .g 25 false (.ld 29 3 (.tmp 28)), .g 25 false (.bn 30 .neq 3 (.tmp 27) (.tmp 29) 3), .p (.pk 31 (.tmp 25) (.const (.bool true)) (.tmp 30)), .p (.mv 32 (.tmp 31)), .g 32 false (.fa 33 47 (.tmp 2) 4), .g 32 false (.ld 34 44 (.tmp 33)), .g 32 false (.fa 35 47 (.tmp 3) 4), .g 32 false (.ld 36 44 (.tmp 35)), .g 32 false (.bn 37 .neq 44 (.tmp 34) (.tmp 36) 44), .p (.pk 38 (.tmp 32) (.const (.bool true)) (.tmp 37)), .p (.mv 39 (.tmp 38)), .g 39 false (.fa 40 47 (.tmp 2) 6), .g 39 false (.ld 41 44 (.tmp 40)), .g 39 false (.fa 42 47 (.tmp 3) 6), .g 39 false (.ld 43 44 (.tmp 42)), .g 39 false (.bn 44 .neq 44 (.tmp 41) (.tmp 43) 44), .p (.pk 45 (.tmp 39) (.const (.bool true)) (.tmp 44)), .p (.mv 46 (.tmp 45)), .g 46 false (.fa 47 47 (.tmp 2) 5), .g 46 false (.ld 48 45 (.tmp 47)), .g 46 false (.ln 49 45 (.tmp 48)), .g 46 false (.fa 50 47 (.tmp 3) 5), .g 46 false (.ld 51 45 (.tmp 50)), .g 46 false (.ln 52 45 (.tmp 51)), .g 46 false (.bn 53 .neq 3 (.tmp 49) (.tmp 52) 3), .p (.pk 54 (.tmp 46) (.const (.bool true)) (.tmp 53))])
   (.cond (.tmp 54)
    (.sq [4] (.reg [.p (.as 4 (.const (.bool false)))])
     (.ret))
    (.skip)))
  (.sq [] (.sq [2, 3, 5] (.reg [.p (.as 5 (.const (.int .i64 0)))])
    (.block 0 (.lp [2, 3, 5] (.sq [2, 3, 5] (.sq [2, 3, 5, 59] (.reg [.p (.mv 55 (.tmp 5)), .p (.fa 56 47 (.tmp 2) 5), .p (.ld 57 45 (.tmp 56)), .p (.ln 58 45 (.tmp 57)), .p (.bn 59 .lss 3 (.tmp 55) (.tmp 58) 3)])
        (.cond (.tmp 59)
         (.skip)
         (.exit 0)))
       (.sq [2, 3, 5] (.block 1 (.sq [2, 3, 5, 72] (.dr (.pu 0 (.pu 1 (.pu 2 (.pu 3 (.pu 4 (.pu 5 (.pu 6 (.pu 7 (.pu 8 (.pu 9 (.pu 10 (.nil)))))))))))) [[], [0], [], [0, 1, 2], [0, 1, 2, 3], [], [5], [], [5, 6, 7], [5, 6, 7, 8], [0, 1, 2, 3, 4, 5, 6, 7, 8, 9]] [.p (.fa 62 47 (.tmp 2) 5), .p (.ld 63 45 (.tmp 62)), .p (.mv 64 (.tmp 5)), .p (.ia 65 45 (.tmp 63) (.tmp 64)), .p (.ld 66 3 (.tmp 65)), .p (.fa 67 47 (.tmp 3) 5), .p (.ld 68 45 (.tmp 67)), .p (.mv 69 (.tmp 5)), .p (.ia 70 45 (.tmp 68) (.tmp 69)), .p (.ld 71 3 (.tmp 70)), .p (.bn 72 .neq 3 (.tmp 66) (.tmp 71) 3)] [[], [0], [], [1, 2], [3], [], [5], [], [6, 7], [8], [4, 9]])
          (.cond (.tmp 72)
           (.sq [4] (.reg [.p (.as 4 (.const (.bool false)))])
            (.ret))
           (.skip))))
        (.reg [.p (.mv 60 (.tmp 5)), .p (.bn 61 .add 3 (.tmp 60) (.const (.int .i64 1)) 3), .p (.as 5 (.tmp 61))]))))))
   (.sq [4] (.reg [.p (.as 4 (.const (.bool true)))])
    (.ret))))
theorem b28 : BodyOK Try.prog 28 c28 73 [.tmp 4] := ⟨Try.f28, by kernel_rfl, by kernel_rfl, by kernel_rfl, by kernel_rfl, by kernel_rfl⟩
set_option maxRecDepth 100000 in
@[go_sem] theorem k28_0 : chkT (.pu 0 (.pu 1 (.pu 2 (.pu 3 (.pu 4 (.pu 5 (.pu 6 (.pu 7 (.pu 8 (.pu 9 (.pu 10 (.nil)))))))))))) [[], [0], [], [0, 1, 2], [0, 1, 2, 3], [], [5], [], [5, 6, 7], [5, 6, 7, 8], [0, 1, 2, 3, 4, 5, 6, 7, 8, 9]] (soI [.p (.fa 62 47 (.tmp 2) 5), .p (.ld 63 45 (.tmp 62)), .p (.mv 64 (.tmp 5)), .p (.ia 65 45 (.tmp 63) (.tmp 64)), .p (.ld 66 3 (.tmp 65)), .p (.fa 67 47 (.tmp 3) 5), .p (.ld 68 45 (.tmp 67)), .p (.mv 69 (.tmp 5)), .p (.ia 70 45 (.tmp 68) (.tmp 69)), .p (.ld 71 3 (.tmp 70)), .p (.bn 72 .neq 3 (.tmp 66) (.tmp 71) 3)]) [[], [0], [], [1, 2], [3], [], [5], [], [6, 7], [8], [4, 9]] = true := by kernel_rfl

@[go_sem] def c5 : SC J := .sq [0] (.reg [.p (.as 2 (.const (.bool false)))])
 (.sq [0] (.sq [0, 12] (.reg [.p (.mv 10 (.tmp 0)), .p (.ln 11 37 (.tmp 10)), .p (.bn 12 .gtr 3 (.tmp 11) (.const (.int .i64 1048576)) 3)])
   (.cond (.tmp 12)
    (.sq [2] (.reg [.p (.as 2 (.const (.bool true)))])
     (.ret))
    (.skip)))
  (.sq [3] (.reg [.p (.mv 14 (.tmp 0)), .p (.cm (some 15) 23 [false] [.tmp 14] [37]), .p (.mv 13 (.tmp 15)), .p (.ex 16 (.tmp 13) 0), .p (.ex 17 (.tmp 13) 1), .p (.al 3 47), .p (.st 47 (.tmp 3) (.tmp 16)), .p (.as 4 (.tmp 17))])
   (.sq [3] (.sq [3, 20] (.reg [.p (.ld 18 47 (.tmp 3)), .p (.cl (some 19) 24 [.tmp 18] [47]), .p (.un 20 .not 4 (.tmp 19))])
     (.cond (.tmp 20)
      (.sq [2] (.reg [.p (.as 2 (.const (.bool true)))])
       (.ret))
      (.skip)))
    (.sq [3, 5] (.reg [.p (.bd 21 24 [(2, .const (.int .u64 3))]), .p (.al 5 24), .p (.st 24 (.tmp 5) (.tmp 21))])
     (.sq [3, 6] (.dr (.pu 0 (.pu 1 (.pu 2 (.pu 3 (.pu 4 (.pu 5 (.pu 6 (.pu 7 (.pu 8 (.pu 9 (.pu 10 (.pu 13 (.pu 15 (.pu 16 (.pu 17 (.pu 18 (.pu 19 (.pu 20 (.pu 21 (.pu 22 (.pu 23 (.pu 24 (.pu 25 (.pu 28 (.pu 29 (.pu 30 (.pu 31 (.pu 32 (.pu 33 (.pu 35 (.pu 36 (.pu 37 (.pu 38 (.pu 39 (.pu 42 (.pu 44 (.pu 45 (.pu 46 (.pu 47 (.pu 48 (.pu 51 (.pu 52 (.pu 53 (.pu 54 (.pu 55 (.pu 56 (.pu 58 (.pu 59 (.pu 60 (.pu 61 (.pu 62 (.pu 65 (.pu 66 (.pu 67 (.pu 68 (.pu 69 (.pu 70 (.pu 71 (.pu 74 (.ef 11 [1, 13, 16, 20, 24, 30, 33, 36, 38, 42, 45, 47, 53, 56, 59, 61, 67, 70, 74] (.pu 12 (.pu 14 (.ef 26 [1, 13, 16, 30, 33, 36, 38, 42, 45, 47, 53, 56, 59, 61, 67, 70, 74] (.pu 27 (.pu 34 (.ef 40 [1, 13, 16, 30, 33, 36, 42, 45, 47, 53, 56, 59, 61, 67, 70, 74] (.pu 41 (.pu 43 (.ef 49 [1, 13, 16, 30, 33, 36, 42, 45, 53, 56, 59, 61, 67, 70, 74] (.pu 50 (.pu 57 (.ef 63 [1, 13, 16, 30, 33, 36, 42, 45, 53, 56, 59, 67, 70, 74] (.pu 64 (.ef 72 [1, 13, 16, 30, 33, 36, 42, 45, 53, 56, 59, 67, 74] (.pu 73 (.pu 75 (.ef 76 [] (.pu 77 (.nil))))))))))))))))))))))))))))))))))))))))))))))))))))))))))))))))))))))))))))))) [[], [0], [0, 1], [0, 1, 2], [], [4], [4, 5], [4, 5, 6], [], [8], [4, 5, 6, 7, 8, 9], [4, 5, 6, 7, 8, 9, 10], [0, 1, 2, 3, 4, 5, 6, 7, 8, 9, 10, 11], [], [0, 1, 2, 3, 4, 5, 6, 7, 8, 9, 10, 11, 12, 13], [], [15], [15, 16], [15, 16, 17], [], [19], [19, 20], [19, 20, 21], [], [23], [19, 20, 21, 22, 23, 24], [4, 5, 6, 7, 8, 9, 10, 11, 19, 20, 21, 22, 23, 24, 25], [4, 5, 6, 7, 8, 9, 10, 11, 15, 16, 17, 18, 19, 20, 21, 22, 23, 24, 25, 26], [], [28], [28, 29], [], [31], [31, 32], [4, 5, 6, 7, 8, 9, 10, 11, 15, 16, 17, 18, 19, 20, 21, 22, 23, 24, 25, 26, 27, 28, 29, 30, 31, 32, 33], [], [35], [], [37], [37, 38], [4, 5, 6, 7, 8, 9, 10, 11, 19, 20, 21, 22, 23, 24, 25, 26, 37, 38, 39], [4, 5, 6, 7, 8, 9, 10, 11, 19, 20, 21, 22, 23, 24, 25, 26, 35, 36, 37, 38, 39, 40], [], [4, 5, 6, 7, 8, 9, 10, 11, 19, 20, 21, 22, 23, 24, 25, 26, 35, 36, 37, 38, 39, 40, 41, 42], [], [44], [], [46], [46, 47], [4, 5, 6, 7, 8, 9, 10, 11, 19, 20, 21, 22, 23, 24, 25, 26, 37, 38, 39, 40, 46, 47, 48], [4, 5, 6, 7, 8, 9, 10, 11, 19, 20, 21, 22, 23, 24, 25, 26, 37, 38, 39, 40, 44, 45, 46, 47, 48, 49], [], [51], [51, 52], [], [54], [54, 55], [4, 5, 6, 7, 8, 9, 10, 11, 19, 20, 21, 22, 23, 24, 25, 26, 37, 38, 39, 40, 44, 45, 46, 47, 48, 49, 50, 51, 52, 53, 54, 55, 56], [], [58], [], [60], [60, 61], [4, 5, 6, 7, 8, 9, 10, 11, 19, 20, 21, 22, 23, 24, 25, 26, 37, 38, 39, 40, 46, 47, 48, 49, 60, 61, 62], [4, 5, 6, 7, 8, 9, 10, 11, 19, 20, 21, 22, 23, 24, 25, 26, 37, 38, 39, 40, 46, 47, 48, 49, 58, 59, 60, 61, 62, 63], [], [65], [65, 66], [], [68], [68, 69], [68, 69, 70], [4, 5, 6, 7, 8, 9, 10, 11, 19, 20, 21, 22, 23, 24, 25, 26, 37, 38, 39, 40, 46, 47, 48, 49, 60, 61, 62, 63, 68, 69, 70, 71], [4, 5, 6, 7, 8, 9, 10, 11, 19, 20, 21, 22, 23, 24, 25, 26, 37, 38, 39, 40, 46, 47, 48, 49, 60, 61, 62, 63, 65, 66, 67, 68, 69, 70, 71, 72], [], [4, 5, 6, 7, 8, 9, 10, 11, 19, 20, 21, 22, 23, 24, 25, 26, 37, 38, 39, 40, 46, 47, 48, 49, 58, 59, 60, 61, 62, 63, 64, 65, 66, 67, 68, 69, 70, 71, 72, 73, 74], [0, 1, 2, 3, 4, 5, 6, 7, 8, 9, 10, 11, 12, 13, 14, 15, 16, 17, 18, 19, 20, 21, 22, 23, 24, 25, 26, 27, 28, 29, 30, 31, 32, 33, 34, 35, 36, 37, 38, 39, 40, 41, 42, 43, 44, 45, 46, 47, 48, 49, 50, 51, 52, 53, 54, 55, 56, 57, 58, 59, 60, 61, 62, 63, 64, 65, 66, 67, 68, 69, 70, 71, 72, 73, 74, 75], [0, 1, 2, 3, 4, 5, 6, 7, 8, 9, 10, 11, 12, 13, 14, 15, 16, 17, 18, 19, 20, 21, 22, 23, 24, 25, 26, 27, 28, 29, 30, 31, 32, 33, 34, 35, 36, 37, 38, 39, 40, 41, 42, 43, 44, 45, 46, 47, 48, 49, 50, 51, 52, 53, 54, 55, 56, 57, 58, 59, 60, 61, 62, 63, 64, 65, 66, 67, 68, 69, 70, 71, 72, 73, 74, 75, 76]] [.p (.fa 22 47 (.tmp 3) 2), .p (.ld 23 3 (.tmp 22)), .p (.bn 24 .rem 3 (.tmp 23) (.const (.int .i64 9)) 3), .p (.bn 25 .add 3 (.tmp 24) (.const (.int .i64 1)) 3), .p (.fa 26 47 (.tmp 3) 2), .p (.ld 27 3 (.tmp 26)), .p (.bn 28 .rem 3 (.tmp 27) (.const (.int .i64 9)) 3), .p (.bn 29 .add 3 (.tmp 28) (.const (.int .i64 1)) 3), .p (.fa 30 47 (.tmp 3) 2), .p (.ld 31 3 (.tmp 30)), .p (.bn 32 .eql 3 (.tmp 29) (.tmp 31) 3), .p (.cl (some 33) 25 [.tmp 32, .const (.int .i64 1)] [4, 3]), .p (.bn 34 .add 3 (.tmp 25) (.tmp 33) 3), .p (.ld 35 24 (.tmp 5)), .p (.bd 36 28 [(0, .const (.int .i64 2)), (1, .tmp 34), (3, .const (.int .i64 5)), (4, .tmp 35)]), .p (.fa 37 47 (.tmp 3) 2), .p (.ld 38 3 (.tmp 37)), .p (.bn 39 .rem 3 (.tmp 38) (.const (.int .i64 9)) 3), .p (.bn 40 .add 3 (.tmp 39) (.const (.int .i64 1)) 3), .p (.fa 41 47 (.tmp 3) 2), .p (.ld 42 3 (.tmp 41)), .p (.bn 43 .rem 3 (.tmp 42) (.const (.int .i64 9)) 3), .p (.bn 44 .add 3 (.tmp 43) (.const (.int .i64 1)) 3), .p (.fa 45 47 (.tmp 3) 2), .p (.ld 46 3 (.tmp 45)), .p (.bn 47 .eql 3 (.tmp 44) (.tmp 46) 3), .p (.cl (some 48) 25 [.tmp 47, .const (.int .i64 1)] [4, 3]), .p (.bn 49 .add 3 (.tmp 40) (.tmp 48) 3), .p (.fa 50 47 (.tmp 3) 4), .p (.fa 51 44 (.tmp 50) 0), .p (.ld 52 3 (.tmp 51)), .p (.fa 53 47 (.tmp 3) 4), .p (.fa 54 44 (.tmp 53) 1), .p (.ld 55 24 (.tmp 54)), .p (.bd 56 28 [(0, .const (.int .i64 6)), (1, .tmp 49), (3, .tmp 52), (4, .tmp 55)]), .p (.fa 57 47 (.tmp 3) 2), .p (.ld 58 3 (.tmp 57)), .p (.fa 59 47 (.tmp 3) 2), .p (.ld 60 3 (.tmp 59)), .p (.bn 61 .eql 3 (.tmp 60) (.const (.int .i64 0)) 3), .p (.cl (some 62) 25 [.tmp 61, .const (.int .i64 1)] [4, 3]), .p (.bn 63 .add 3 (.tmp 58) (.tmp 62) 3), .p (.ld 64 24 (.tmp 5)), .p (.bd 65 28 [(0, .const (.int .i64 2)), (1, .tmp 63), (3, .const (.int .i64 0)), (4, .tmp 64)]), .p (.fa 66 47 (.tmp 3) 2), .p (.ld 67 3 (.tmp 66)), .p (.fa 68 47 (.tmp 3) 2), .p (.ld 69 3 (.tmp 68)), .p (.bn 70 .eql 3 (.tmp 69) (.const (.int .i64 0)) 3), .p (.cl (some 71) 25 [.tmp 70, .const (.int .i64 1)] [4, 3]), .p (.bn 72 .add 3 (.tmp 67) (.tmp 71) 3), .p (.fa 73 47 (.tmp 3) 6), .p (.fa 74 44 (.tmp 73) 0), .p (.ld 75 3 (.tmp 74)), .p (.fa 76 47 (.tmp 3) 6), .p (.fa 77 44 (.tmp 76) 1), .p (.ld 78 24 (.tmp 77)), .p (.bd 79 28 [(0, .const (.int .i64 2)), (1, .tmp 72), (3, .tmp 75), (4, .tmp 78)]), .p (.fa 80 47 (.tmp 3) 2), .p (.ld 81 3 (.tmp 80)), .p (.fa 82 47 (.tmp 3) 2), .p (.ld 83 3 (.tmp 82)), .p (.bn 84 .eql 3 (.tmp 83) (.const (.int .i64 0)) 3), .p (.cl (some 85) 25 [.tmp 84, .const (.int .i64 1)] [4, 3]), .p (.bn 86 .add 3 (.tmp 81) (.tmp 85) 3), .p (.fa 87 47 (.tmp 3) 6), .p (.fa 88 44 (.tmp 87) 0), .p (.ld 89 3 (.tmp 88)), .p (.fa 90 47 (.tmp 3) 6), .p (.fa 91 44 (.tmp 90) 0), .p (.ld 92 3 (.tmp 91)), .p (.bn 93 .gtr 3 (.tmp 92) (.const (.int .i64 0)) 3), .p (.cl (some 94) 25 [.tmp 93, .const (.int .i64 1)] [4, 3]), .p (.bn 95 .sub 3 (.tmp 89) (.tmp 94) 3), .p (.ld 96 24 (.tmp 5)), .p (.bd 97 28 [(0, .const (.int .i64 2)), (1, .tmp 86), (3, .tmp 95), (4, .tmp 96)]), .p (.bs 98 52 5 [(0, .tmp 36), (1, .tmp 56), (2, .tmp 65), (3, .tmp 79), (4, .tmp 97)]), .p (.as 6 (.tmp 98))] [[], [0], [1], [2], [], [4], [5], [6], [], [8], [7, 9], [10], [3, 11], [], [12, 13], [], [15], [16], [17], [], [19], [20], [21], [], [23], [22, 24], [25, 11], [18, 26], [], [28], [29], [], [31], [32], [27, 30, 33], [], [35], [], [37], [38], [39, 26], [36, 40], [], [41, 42], [], [44], [], [46], [47], [48, 40], [45, 49], [], [51], [52], [], [54], [55], [50, 53, 56], [], [58], [], [60], [61], [62, 49], [59, 63], [], [65], [66], [], [68], [69], [70], [71, 63], [67, 72], [], [64, 73, 74], [14, 34, 43, 57, 75], [76, 72, 0, 1, 2, 3, 4, 5, 6, 7, 8, 9, 10, 11, 12, 13, 14, 15, 16, 17, 18, 19, 20, 21, 22, 23, 24, 25, 26, 27, 28, 29, 30, 31, 32, 33, 34, 35, 36, 37, 38, 39, 40, 41, 42, 43, 44, 45, 46, 47, 48, 49, 50, 51, 52, 53, 54, 55, 56, 57, 58, 59, 60, 61, 62, 63, 64, 65, 66, 67, 68, 69, 70, 71, 72, 73, 74, 75, 76]])
      (.sq [3] (.sq [3, 6, 7] (.reg [.p (.as 7 (.const (.int .i64 0)))])
        (.block 0 (.lp [3, 6, 7] (.sq [3, 6, 7] (.sq [3, 6, 7, 102] (.reg [.p (.mv 99 (.tmp 7)), .p (.mv 100 (.tmp 6)), .p (.ln 101 52 (.tmp 100)), .p (.bn 102 .lss 3 (.tmp 99) (.tmp 101) 3)])
            (.cond (.tmp 102)
             (.skip)
             (.exit 0)))
           (.sq [3, 6, 7] (.block 1 (.sq [3, 6, 7, 8] (.dr (.pu 0 (.pu 1 (.pu 2 (.pu 3 (.pu 4 (.pu 5 (.pu 7 (.pu 8 (.pu 9 (.pu 10 (.or (.ef 6 [9, 10] (.or (.ef 11 [] (.pu 12 (.ef 13 [2, 4, 9, 10] (.ef 14 [] (.nil))))) (.ef 13 [2, 4, 9, 10] (.ef 11 [] (.pu 12 (.ef 14 [] (.nil))))))) (.ef 13 [2, 4, 9, 10] (.ef 6 [9, 10] (.ef 11 [] (.pu 12 (.ef 14 [] (.nil))))))))))))))))) [[], [], [0, 1], [0, 1, 2], [0, 1, 2, 3], [0, 1, 2, 3, 4], [0, 1, 2, 3, 4, 5], [], [], [7, 8], [7, 8, 9], [0, 1, 2, 3, 4, 5, 6, 7, 8, 9, 10], [0, 1, 2, 3, 4, 5, 6, 7, 8, 9, 10, 11], [], [0, 1, 2, 3, 4, 5, 6, 7, 8, 9, 10, 11, 12, 13]] [.p (.mv 105 (.tmp 6)), .p (.mv 106 (.tmp 7)), .p (.ia 107 52 (.tmp 105) (.tmp 106)), .p (.fa 108 28 (.tmp 107) 0), .p (.ld 109 3 (.tmp 108)), .p (.bn 110 .eql 3 (.tmp 109) (.const (.int .i64 6)) 3), .p (.cl (some 111) 25 [.tmp 110, .const (.int .i64 1)] [4, 3]), .p (.mv 112 (.tmp 6)), .p (.mv 113 (.tmp 7)), .p (.ia 114 52 (.tmp 112) (.tmp 113)), .p (.ld 115 28 (.tmp 114)), .p (.cl (some 116) 26 [.tmp 115] [28]), .p (.bd 117 54 [(0, .tmp 111), (2, .tmp 116)]), .p (.al 8 54), .p (.st 54 (.tmp 8) (.tmp 117))] [[], [], [0, 1], [2], [3], [4], [5], [], [], [7, 8], [9], [10, 6], [6, 11], [], [13, 12, 11, 0, 1, 2, 3, 4, 5, 6, 7, 8, 9, 10, 11, 12, 13]])
              (.sq [3, 6, 7, 9] (.reg [.p (.ld 118 47 (.tmp 3)), .p (.ld 119 54 (.tmp 8)), .p (.cm (some 120) 27 [false, false, false] [.tmp 118, .const (.int .i64 9), .tmp 119] [47, 3, 54]), .p (.al 9 59), .p (.st 59 (.tmp 9) (.tmp 120))])
               (.sq [3, 6, 7, 139] (.reg [.p (.fa 121 59 (.tmp 9) 0), .p (.ld 122 47 (.tmp 121)), .p (.ld 123 47 (.tmp 3)), .p (.cl (some 124) 28 [.tmp 122, .tmp 123] [47, 47]), .p (.un 125 .not 4 (.tmp 124)), .p (.mv 126 (.tmp 125)), .g 126 false (.fa 127 59 (.tmp 9) 2), .g 126 false (.ld 128 56 (.tmp 127)), .g 126 false (.ln 129 56 (.tmp 128)), .g 126 false (.fa 130 59 (.tmp 9) 1), .g 126 false (.ld 131 55 (.tmp 130)), .g 126 false (.ln 132 55 (.tmp 131)), .g 126 false (.bn 133 .add 3 (.tmp 129) (.tmp 132) 3), .g 126 false (.fa 134 59 (.tmp 9) 3), .g 126 false (.ld 135 57 (.tmp 134)), .g 126 false (.ln 136 57 (.tmp 135)), .g 126 false (.bn 137 .add 3 (.tmp 133) (.tmp 136) 3), .g 126 false (.bn 138 .gtr 3 (.tmp 137) (.const (.int .i64 0)) 3), .p (.pk 139 (.tmp 126) (.const (.bool true)) (.tmp 138))])
                (.cond (.tmp 139)
                 (.sq [2] (.reg [.p (.as 2 (.const (.bool false)))])
                  (.ret))
                 (.skip))))))
            (.reg [.p (.mv 103 (.tmp 7)), .p (.bn 104 .add 3 (.tmp 103) (.const (.int .i64 1)) 3), .p (.as 7 (.tmp 104))]))))))
       (.sq [2] (.reg [.p (.ld 140 47 (.tmp 3)), .p (.bd 141 54 []), .p (.cm (some 142) 27 [false, false, false] [.tmp 140, .const (.int .i64 9), .tmp 141] [47, 3, 54]), .p (.fd 143 59 (.tmp 142) 0), .p (.cl (some 144) 24 [.tmp 143] [47]), .p (.as 2 (.tmp 144))])
        (.ret))))))))
theorem b5 : BodyOK Try.prog 5 c5 145 [.tmp 2] := ⟨Try.f5, by kernel_rfl, by kernel_rfl, by kernel_rfl, by kernel_rfl, by kernel_rfl⟩
set_option maxRecDepth 100000 in
@[go_sem] theorem k5_0 : chkT (.pu 0 (.pu 1 (.pu 2 (.pu 3 (.pu 4 (.pu 5 (.pu 7 (.pu 8 (.pu 9 (.pu 10 (.or (.ef 6 [9, 10] (.or (.ef 11 [] (.pu 12 (.ef 13 [2, 4, 9, 10] (.ef 14 [] (.nil))))) (.ef 13 [2, 4, 9, 10] (.ef 11 [] (.pu 12 (.ef 14 [] (.nil))))))) (.ef 13 [2, 4, 9, 10] (.ef 6 [9, 10] (.ef 11 [] (.pu 12 (.ef 14 [] (.nil))))))))))))))))) [[], [], [0, 1], [0, 1, 2], [0, 1, 2, 3], [0, 1, 2, 3, 4], [0, 1, 2, 3, 4, 5], [], [], [7, 8], [7, 8, 9], [0, 1, 2, 3, 4, 5, 6, 7, 8, 9, 10], [0, 1, 2, 3, 4, 5, 6, 7, 8, 9, 10, 11], [], [0, 1, 2, 3, 4, 5, 6, 7, 8, 9, 10, 11, 12, 13]] (soI [.p (.mv 105 (.tmp 6)), .p (.mv 106 (.tmp 7)), .p (.ia 107 52 (.tmp 105) (.tmp 106)), .p (.fa 108 28 (.tmp 107) 0), .p (.ld 109 3 (.tmp 108)), .p (.bn 110 .eql 3 (.tmp 109) (.const (.int .i64 6)) 3), .p (.cl (some 111) 25 [.tmp 110, .const (.int .i64 1)] [4, 3]), .p (.mv 112 (.tmp 6)), .p (.mv 113 (.tmp 7)), .p (.ia 114 52 (.tmp 112) (.tmp 113)), .p (.ld 115 28 (.tmp 114)), .p (.cl (some 116) 26 [.tmp 115] [28]), .p (.bd 117 54 [(0, .tmp 111), (2, .tmp 116)]), .p (.al 8 54), .p (.st 54 (.tmp 8) (.tmp 117))]) [[], [], [0, 1], [2], [3], [4], [5], [], [], [7, 8], [9], [10, 6], [6, 11], [], [13, 12, 11, 0, 1, 2, 3, 4, 5, 6, 7, 8, 9, 10, 11, 12, 13]] = true := by kernel_rfl
set_option maxRecDepth 100000 in
@[go_sem] theorem k5_1 : chkT (.pu 0 (.pu 1 (.pu 2 (.pu 3 (.pu 4 (.pu 5 (.pu 6 (.pu 7 (.pu 8 (.pu 9 (.pu 10 (.pu 13 (.pu 15 (.pu 16 (.pu 17 (.pu 18 (.pu 19 (.pu 20 (.pu 21 (.pu 22 (.pu 23 (.pu 24 (.pu 25 (.pu 28 (.pu 29 (.pu 30 (.pu 31 (.pu 32 (.pu 33 (.pu 35 (.pu 36 (.pu 37 (.pu 38 (.pu 39 (.pu 42 (.pu 44 (.pu 45 (.pu 46 (.pu 47 (.pu 48 (.pu 51 (.pu 52 (.pu 53 (.pu 54 (.pu 55 (.pu 56 (.pu 58 (.pu 59 (.pu 60 (.pu 61 (.pu 62 (.pu 65 (.pu 66 (.pu 67 (.pu 68 (.pu 69 (.pu 70 (.pu 71 (.pu 74 (.ef 11 [1, 13, 16, 20, 24, 30, 33, 36, 38, 42, 45, 47, 53, 56, 59, 61, 67, 70, 74] (.pu 12 (.pu 14 (.ef 26 [1, 13, 16, 30, 33, 36, 38, 42, 45, 47, 53, 56, 59, 61, 67, 70, 74] (.pu 27 (.pu 34 (.ef 40 [1, 13, 16, 30, 33, 36, 42, 45, 47, 53, 56, 59, 61, 67, 70, 74] (.pu 41 (.pu 43 (.ef 49 [1, 13, 16, 30, 33, 36, 42, 45, 53, 56, 59, 61, 67, 70, 74] (.pu 50 (.pu 57 (.ef 63 [1, 13, 16, 30, 33, 36, 42, 45, 53, 56, 59, 67, 70, 74] (.pu 64 (.ef 72 [1, 13, 16, 30, 33, 36, 42, 45, 53, 56, 59, 67, 74] (.pu 73 (.pu 75 (.ef 76 [] (.pu 77 (.nil))))))))))))))))))))))))))))))))))))))))))))))))))))))))))))))))))))))))))))))) [[], [0], [0, 1], [0, 1, 2], [], [4], [4, 5], [4, 5, 6], [], [8], [4, 5, 6, 7, 8, 9], [4, 5, 6, 7, 8, 9, 10], [0, 1, 2, 3, 4, 5, 6, 7, 8, 9, 10, 11], [], [0, 1, 2, 3, 4, 5, 6, 7, 8, 9, 10, 11, 12, 13], [], [15], [15, 16], [15, 16, 17], [], [19], [19, 20], [19, 20, 21], [], [23], [19, 20, 21, 22, 23, 24], [4, 5, 6, 7, 8, 9, 10, 11, 19, 20, 21, 22, 23, 24, 25], [4, 5, 6, 7, 8, 9, 10, 11, 15, 16, 17, 18, 19, 20, 21, 22, 23, 24, 25, 26], [], [28], [28, 29], [], [31], [31, 32], [4, 5, 6, 7, 8, 9, 10, 11, 15, 16, 17, 18, 19, 20, 21, 22, 23, 24, 25, 26, 27, 28, 29, 30, 31, 32, 33], [], [35], [], [37], [37, 38], [4, 5, 6, 7, 8, 9, 10, 11, 19, 20, 21, 22, 23, 24, 25, 26, 37, 38, 39], [4, 5, 6, 7, 8, 9, 10, 11, 19, 20, 21, 22, 23, 24, 25, 26, 35, 36, 37, 38, 39, 40], [], [4, 5, 6, 7, 8, 9, 10, 11, 19, 20, 21, 22, 23, 24, 25, 26, 35, 36, 37, 38, 39, 40, 41, 42], [], [44], [], [46], [46, 47], [4, 5, 6, 7, 8, 9, 10, 11, 19, 20, 21, 22, 23, 24, 25, 26, 37, 38, 39, 40, 46, 47, 48], [4, 5, 6, 7, 8, 9, 10, 11, 19, 20, 21, 22, 23, 24, 25, 26, 37, 38, 39, 40, 44, 45, 46, 47, 48, 49], [], [51], [51, 52], [], [54], [54, 55], [4, 5, 6, 7, 8, 9, 10, 11, 19, 20, 21, 22, 23, 24, 25, 26, 37, 38, 39, 40, 44, 45, 46, 47, 48, 49, 50, 51, 52, 53, 54, 55, 56], [], [58], [], [60], [60, 61], [4, 5, 6, 7, 8, 9, 10, 11, 19, 20, 21, 22, 23, 24, 25, 26, 37, 38, 39, 40, 46, 47, 48, 49, 60, 61, 62], [4, 5, 6, 7, 8, 9, 10, 11, 19, 20, 21, 22, 23, 24, 25, 26, 37, 38, 39, 40, 46, 47, 48, 49, 58, 59, 60, 61, 62, 63], [], [65], [65, 66], [], [68], [68, 69], [68, 69, 70], [4, 5, 6, 7, 8, 9, 10, 11, 19, 20, 21, 22, 23, 24, 25, 26, 37, 38, 39, 40, 46, 47, 48, 49, 60, 61, 62, 63, 68, 69, 70, 71], [4, 5, 6, 7, 8, 9, 10, 11, 19, 20, 21, 22, 23, 24, 25, 26, 37, 38, 39, 40, 46, 47, 48, 49, 60, 61, 62, 63, 65, 66, 67, 68, 69, 70, 71, 72], [], [4, 5, 6, 7, 8, 9, 10, 11, 19, 20, 21, 22, 23, 24, 25, 26, 37, 38, 39, 40, 46, 47, 48, 49, 58, 59, 60, 61, 62, 63, 64, 65, 66, 67, 68, 69, 70, 71, 72, 73, 74], [0, 1, 2, 3, 4, 5, 6, 7, 8, 9, 10, 11, 12, 13, 14, 15, 16, 17, 18, 19, 20, 21, 22, 23, 24, 25, 26, 27, 28, 29, 30, 31, 32, 33, 34, 35, 36, 37, 38, 39, 40, 41, 42, 43, 44, 45, 46, 47, 48, 49, 50, 51, 52, 53, 54, 55, 56, 57, 58, 59, 60, 61, 62, 63, 64, 65, 66, 67, 68, 69, 70, 71, 72, 73, 74, 75], [0, 1, 2, 3, 4, 5, 6, 7, 8, 9, 10, 11, 12, 13, 14, 15, 16, 17, 18, 19, 20, 21, 22, 23, 24, 25, 26, 27, 28, 29, 30, 31, 32, 33, 34, 35, 36, 37, 38, 39, 40, 41, 42, 43, 44, 45, 46, 47, 48, 49, 50, 51, 52, 53, 54, 55, 56, 57, 58, 59, 60, 61, 62, 63, 64, 65, 66, 67, 68, 69, 70, 71, 72, 73, 74, 75, 76]] (soI [.p (.fa 22 47 (.tmp 3) 2), .p (.ld 23 3 (.tmp 22)), .p (.bn 24 .rem 3 (.tmp 23) (.const (.int .i64 9)) 3), .p (.bn 25 .add 3 (.tmp 24) (.const (.int .i64 1)) 3), .p (.fa 26 47 (.tmp 3) 2), .p (.ld 27 3 (.tmp 26)), .p (.bn 28 .rem 3 (.tmp 27) (.const (.int .i64 9)) 3), .p (.bn 29 .add 3 (.tmp 28) (.const (.int .i64 1)) 3), .p (.fa 30 47 (.tmp 3) 2), .p (.ld 31 3 (.tmp 30)), .p (.bn 32 .eql 3 (.tmp 29) (.tmp 31) 3), .p (.cl (some 33) 25 [.tmp 32, .const (.int .i64 1)] [4, 3]), .p (.bn 34 .add 3 (.tmp 25) (.tmp 33) 3), .p (.ld 35 24 (.tmp 5)), .p (.bd 36 28 [(0, .const (.int .i64 2)), (1, .tmp 34), (3, .const (.int .i64 5)), (4, .tmp 35)]), .p (.fa 37 47 (.tmp 3) 2), .p (.ld 38 3 (.tmp 37)), .p (.bn 39 .rem 3 (.tmp 38) (.const (.int .i64 9)) 3), .p (.bn 40 .add 3 (.tmp 39) (.const (.int .i64 1)) 3), .p (.fa 41 47 (.tmp 3) 2), .p (.ld 42 3 (.tmp 41)), .p (.bn 43 .rem 3 (.tmp 42) (.const (.int .i64 9)) 3), .p (.bn 44 .add 3 (.tmp 43) (.const (.int .i64 1)) 3), .p (.fa 45 47 (.tmp 3) 2), .p (.ld 46 3 (.tmp 45)), .p (.bn 47 .eql 3 (.tmp 44) (.tmp 46) 3), .p (.cl (some 48) 25 [.tmp 47, .const (.int .i64 1)] [4, 3]), .p (.bn 49 .add 3 (.tmp 40) (.tmp 48) 3), .p (.fa 50 47 (.tmp 3) 4), .p (.fa 51 44 (.tmp 50) 0), .p (.ld 52 3 (.tmp 51)), .p (.fa 53 47 (.tmp 3) 4), .p (.fa 54 44 (.tmp 53) 1), .p (.ld 55 24 (.tmp 54)), .p (.bd 56 28 [(0, .const (.int .i64 6)), (1, .tmp 49), (3, .tmp 52), (4, .tmp 55)]), .p (.fa 57 47 (.tmp 3) 2), .p (.ld 58 3 (.tmp 57)), .p (.fa 59 47 (.tmp 3) 2), .p (.ld 60 3 (.tmp 59)), .p (.bn 61 .eql 3 (.tmp 60) (.const (.int .i64 0)) 3), .p (.cl (some 62) 25 [.tmp 61, .const (.int .i64 1)] [4, 3]), .p (.bn 63 .add 3 (.tmp 58) (.tmp 62) 3), .p (.ld 64 24 (.tmp 5)), .p (.bd 65 28 [(0, .const (.int .i64 2)), (1, .tmp 63), (3, .const (.int .i64 0)), (4, .tmp 64)]), .p (.fa 66 47 (.tmp 3) 2), .p (.ld 67 3 (.tmp 66)), .p (.fa 68 47 (.tmp 3) 2), .p (.ld 69 3 (.tmp 68)), .p (.bn 70 .eql 3 (.tmp 69) (.const (.int .i64 0)) 3), .p (.cl (some 71) 25 [.tmp 70, .const (.int .i64 1)] [4, 3]), .p (.bn 72 .add 3 (.tmp 67) (.tmp 71) 3), .p (.fa 73 47 (.tmp 3) 6), .p (.fa 74 44 (.tmp 73) 0), .p (.ld 75 3 (.tmp 74)), .p (.fa 76 47 (.tmp 3) 6), .p (.fa 77 44 (.tmp 76) 1), .p (.ld 78 24 (.tmp 77)), .p (.bd 79 28 [(0, .const (.int .i64 2)), (1, .tmp 72), (3, .tmp 75), (4, .tmp 78)]), .p (.fa 80 47 (.tmp 3) 2), .p (.ld 81 3 (.tmp 80)), .p (.fa 82 47 (.tmp 3) 2), .p (.ld 83 3 (.tmp 82)), .p (.bn 84 .eql 3 (.tmp 83) (.const (.int .i64 0)) 3), .p (.cl (some 85) 25 [.tmp 84, .const (.int .i64 1)] [4, 3]), .p (.bn 86 .add 3 (.tmp 81) (.tmp 85) 3), .p (.fa 87 47 (.tmp 3) 6), .p (.fa 88 44 (.tmp 87) 0), .p (.ld 89 3 (.tmp 88)), .p (.fa 90 47 (.tmp 3) 6), .p (.fa 91 44 (.tmp 90) 0), .p (.ld 92 3 (.tmp 91)), .p (.bn 93 .gtr 3 (.tmp 92) (.const (.int .i64 0)) 3), .p (.cl (some 94) 25 [.tmp 93, .const (.int .i64 1)] [4, 3]), .p (.bn 95 .sub 3 (.tmp 89) (.tmp 94) 3), .p (.ld 96 24 (.tmp 5)), .p (.bd 97 28 [(0, .const (.int .i64 2)), (1, .tmp 86), (3, .tmp 95), (4, .tmp 96)]), .p (.bs 98 52 5 [(0, .tmp 36), (1, .tmp 56), (2, .tmp 65), (3, .tmp 79), (4, .tmp 97)]), .p (.as 6 (.tmp 98))]) [[], [0], [1], [2], [], [4], [5], [6], [], [8], [7, 9], [10], [3, 11], [], [12, 13], [], [15], [16], [17], [], [19], [20], [21], [], [23], [22, 24], [25, 11], [18, 26], [], [28], [29], [], [31], [32], [27, 30, 33], [], [35], [], [37], [38], [39, 26], [36, 40], [], [41, 42], [], [44], [], [46], [47], [48, 40], [45, 49], [], [51], [52], [], [54], [55], [50, 53, 56], [], [58], [], [60], [61], [62, 49], [59, 63], [], [65], [66], [], [68], [69], [70], [71, 63], [67, 72], [], [64, 73, 74], [14, 34, 43, 57, 75], [76, 72, 0, 1, 2, 3, 4, 5, 6, 7, 8, 9, 10, 11, 12, 13, 14, 15, 16, 17, 18, 19, 20, 21, 22, 23, 24, 25, 26, 27, 28, 29, 30, 31, 32, 33, 34, 35, 36, 37, 38, 39, 40, 41, 42, 43, 44, 45, 46, 47, 48, 49, 50, 51, 52, 53, 54, 55, 56, 57, 58, 59, 60, 61, 62, 63, 64, 65, 66, 67, 68, 69, 70, 71, 72, 73, 74, 75, 76]] = true := by kernel_rfl

attribute [go_sem] MTold.base
def MMsg.nC (m : MMsg) : List AV := [vI m.kind, vI m.session, vI m.from_, vI m.size, vU m.root.a, vU m.root.b, vU m.root.c, vU m.root.d, vI m.count, .nilS, .nilS]
attribute [go_sem] MMsg.nC
def ifN (b : Bool) (n : Int) : Int := if b then n else 0
theorem c25_c (b : Bool) (n : Int) : CallR Try.prog 25 [vB b, vI n] (vI (ifN b n)) [] := by
  refine callR_of_jv b25 rfl ?_
  simp -implicitDefEqProofs only [go_sem]
  refine condJ_intro (fun h => ?_) (fun h => ?_)
  · subst h
    simp -implicitDefEqProofs only [go_sem]
    try rfl
  · subst h
    simp -implicitDefEqProofs only [go_sem]
    try rfl
theorem c28_c (c : MCl) (hl : c.acks.length ≤ maxLen) : CallR Try.prog 28 [c.ro, c.ro] (vB true) [] := by
  refine callR_of_jv b28 rfl ?_
  simp -implicitDefEqProofs only [go_sem, bne_self_eq_false, guardP_ff, condJ_false, beq_self_eq_true]
  refine jv_lp (fun m s => ∃ (i : Nat), i ≤ c.acks.length ∧ m = c.acks.length - i ∧ s = ⟨73, [(2, .ptr 2 0 [] 15 0 0), (3, .ptr 3 0 [] 15 0 0), (5, vI i)], [(2, 0, one ⟨15, [c.cs (.ro 1 (c.acks.map intC))], 0, false⟩), (3, 0, one ⟨15, [c.cs (.ro 1 (c.acks.map intC))], 0, false⟩)], 1⟩) c.acks.length ?_ ?_
  · simp -implicitDefEqProofs only [go_sem]
    exact ⟨0, Nat.zero_le _, rfl, rfl⟩
  · rintro m s ⟨i, hi, rfl, rfl⟩
    rcases Nat.lt_or_ge i c.acks.length with hlt | hge
    · have hlt' : (i : Int) < (c.acks.length : Int) := by omega
      have hg : c.acks[i]? = some c.acks[i] := List.getElem?_eq_getElem hlt
      have hw := wrap_succ hlt hl
      simp -implicitDefEqProofs only [go_sem, hlt', hg, hw, bne_self_eq_false, condJ_false]
      exact ⟨_, by omega, i + 1, hlt, rfl, rfl⟩
    · have hi : i = c.acks.length := by omega
      subst hi
      have hlt' : ¬ ((c.acks.length : Int) < (c.acks.length : Int)) := by omega
      simp -implicitDefEqProofs only [go_sem, hlt']
theorem mWireRB {m : MMsg} (hr : m.root.ok) (hd : ∀ d ∈ m.proof, d.ok) : mWireRead (mWireBytes m) = (m, 0, 0) ∨ mWireRead (mWireBytes m) = (.zero, 2, 0) := by
  unfold mWireBytes
  cases h : mWireOk m with
  | true => exact .inl (wire_read h hr hd)
  | false => exact .inr rfl
theorem eqP_refl (p : MPt) : eqP p p = true := by simp [eqP]
theorem hear_base {c : MCl} {m : MMsg} {f : Int} (h : mClOk c = true) (hf : f = 0 ∨ f = 1) (hr : m.root.ok) (hp : m.proof = []) (hs : (mWireBytes m).size ≤ 600)
    (hb : m.session ≠ c.session ∨ (m.kind = 2 ∧ (m.size = 0 ∨ m.size < c.pin.size ∨ eqP ⟨m.size, m.root⟩ c.pin = true))) : mHear c 9 ⟨f, 0, mWireBytes m⟩ = .base c := by
  have ho : hearOk c 9 ⟨f, 0, mWireBytes m⟩ = true := by
    simp only [hearOk, h, mLetOk, Bool.true_and, Bool.and_eq_true, decide_eq_true_eq]
    refine ⟨by decide, by rcases hf with rfl | rfl <;> decide, by decide, by omega⟩
  unfold mHear
  rw [if_pos ho]
  rcases mWireRB (m := m) hr (by rw [hp]; simp) with hW | hW
  · simp only [hW]
    rcases hb with hb | ⟨hk, hb⟩
    · rw [if_neg (by simp [hearHd, hb]), if_neg (by simp [hearAk, hb])]
    · rw [if_neg (show ¬ hearAk c _ _ = true by simp [hearAk, hk])]
      split
      · unfold mHead
        rw [if_pos hb]
      · rfl
  · simp only [hW]
    rw [if_neg (by simp [hearHd]), if_neg (by simp [hearAk])]
theorem mWB_size (m : MMsg) : (mWireBytes m).size ≤ 600 := by
  unfold mWireBytes
  split
  · rename_i h
    rw [bA_size]
    exact (wbL_len (WOk.of h)).2
  · exact Nat.zero_le _
theorem c5_c (l : List UInt8) (hl : l.length ≤ maxLen) : CallR Try.prog 5 [.ro 1 (l.map byteC)] (vB true) [] := by
  refine callR_of_jv b5 rfl ?_
  simp -implicitDefEqProofs only [go_sem]
  refine condJ_intro (fun h => ?_) (fun h => ?_)
  · simp -implicitDefEqProofs only [go_sem, h]
  · simp -implicitDefEqProofs only [go_sem, h]
    obtain ⟨res, σ, ⟨c, me, ⟨rfl, rfl⟩, hc⟩, hcall⟩ := c23_c l hl
    refine WantM.intro hcall ?_
    have hcl : c.acks.length ≤ maxLen := by have := hc.l; unfold maxLen; omega
    simp -implicitDefEqProofs only [go_sem]
    refine Want.intro (c24_c c hcl) ?_
    simp -implicitDefEqProofs only [go_sem]
    refine condJ_intro (fun h => ?_) (fun h => ?_)
    · simp -implicitDefEqProofs only [go_sem, h]
    · have hok : mClOk c = true := by simpa using h
      have hs : 0 ≤ c.session ∧ c.session ≤ 1000000 := by
        have o1 := hok
        simp only [mClOk, Bool.and_eq_true] at o1
        exact mIn_iff.1 o1.2.2.2.1
      have hpn : 0 ≤ c.pin.size ∧ c.pin.size ≤ 256 := by
        have o1 := hok
        simp only [mClOk, Bool.and_eq_true] at o1
        exact (mPin_wr o1.2.2.2.2.1).2
      obtain ⟨A, hA, hA2⟩ : ∃ A : Int, IntKind.i64.wrap (c.session.tmod 9 + 1) = A ∧ (0 ≤ A ∧ A ≤ 10) := by
        have h9 : c.session.tmod 9 = c.session % 9 := Int.tmod_eq_emod_of_nonneg (by omega)
        exact ⟨c.session % 9 + 1, by rw [h9, wrS (by omega)], by omega⟩
      obtain ⟨S1, w1, hS1⟩ : ∃ S1 : Int, IntKind.i64.wrap (A + ifN (A == c.session) 1) = S1 ∧ S1 ≠ c.session := by
        cases hb : (A == c.session) with
        | true =>
          have : A = c.session := by simpa using hb
          exact ⟨A + 1, by rw [ifN, if_pos rfl, wrS (by omega)], by omega⟩
        | false =>
          have : ¬ A = c.session := by simpa using hb
          exact ⟨A, by rw [ifN, if_neg (by simp), Int.add_zero, wrS (by omega)], this⟩
      obtain ⟨S2, w2⟩ : ∃ S2 : Int, IntKind.i64.wrap (c.session + ifN (c.session == 0) 1) = S2 := ⟨_, rfl⟩
      obtain ⟨P5, w3, hP5⟩ : ∃ P5 : Int, IntKind.i64.wrap (c.pin.size - ifN (decide (c.pin.size > 0)) 1) = P5 ∧ (P5 = 0 ∨ P5 < c.pin.size) := by
        cases hb : decide (c.pin.size > 0) with
        | true =>
          have := of_decide_eq_true hb
          exact ⟨c.pin.size - 1, by rw [ifN, if_pos rfl, wrS (by omega)], .inr (by omega)⟩
        | false =>
          have := of_decide_eq_false hb
          exact ⟨0, by rw [ifN, if_neg (by simp), show c.pin.size = 0 by omega]; rfl, .inl rfl⟩
      simp -implicitDefEqProofs only [go_sem, h, hA]
      repeat' first | (refine Want.intro (by first | exact c25_c _ _) ?_; try simp -implicitDefEqProofs only [go_sem, hA, w1, w2, w3]) | (refine WantM.intro (by first | exact c25_c _ _) ?_; try simp -implicitDefEqProofs only [go_sem, hA, w1, w2, w3]) | (refine guardP_intro (fun h => ?_) (fun h => ?_) <;> try simp -implicitDefEqProofs only [go_sem, hA, w1, w2, w3, h]) | (refine condJ_intro (fun h => ?_) (fun h => ?_) <;> try simp -implicitDefEqProofs only [go_sem, hA, w1, w2, w3, h])
      have hmk : ∃ L : List MMsg, L = [⟨2, S1, 0, 5, ⟨0, 0, 3, 0⟩, 0, [], []⟩, ⟨6, S1, 0, c.goal.size, c.goal.root, 0, [], []⟩, ⟨2, S2, 0, 0, ⟨0, 0, 3, 0⟩, 0, [], []⟩, ⟨2, S2, 0, c.pin.size, c.pin.root, 0, [], []⟩, ⟨2, S2, 0, P5, ⟨0, 0, 3, 0⟩, 0, [], []⟩] ∧ L.length = 5 ∧
          ∀ m ∈ L, m.root.ok ∧ m.proof = [] ∧ m.leaves = [] ∧ (m.session ≠ c.session ∨ (m.kind = 2 ∧ (m.size = 0 ∨ m.size < c.pin.size ∨ eqP ⟨m.size, m.root⟩ c.pin = true))) := by
        refine ⟨_, rfl, rfl, ?_⟩
        have d3 : MDig.ok ⟨0, 0, 3, 0⟩ := ⟨by decide, by decide, by decide, by decide⟩
        simp only [List.mem_cons, List.not_mem_nil, or_false]
        rintro m (rfl | rfl | rfl | rfl | rfl)
        · exact ⟨d3, rfl, rfl, .inl hS1⟩
        · exact ⟨hc.g, rfl, rfl, .inl hS1⟩
        · exact ⟨d3, rfl, rfl, .inr ⟨rfl, .inl rfl⟩⟩
        · exact ⟨hc.p, rfl, rfl, .inr ⟨rfl, .inr (.inr (eqP_refl _))⟩⟩
        · exact ⟨d3, rfl, rfl, .inr ⟨rfl, hP5.elim .inl fun h => .inr (.inl h)⟩⟩
      obtain ⟨L, hL, hL5, hLm⟩ := hmk
      refine jv_lp (fun x s => ∃ (k : Nat) (b : Bool), k ≤ L.length ∧ x = L.length - k ∧ s = ⟨145, [(3, .ptr 3 0 [] 15 0 0), (6, .blk 6 0 [] 11 0 5), (7, vI k)], [(3, 0, one ⟨15, [c.cs (.blk 10003 0 [] 1 0 c.acks.length)], 0, false⟩), (10003, 0, one ⟨1, c.acks.map intC, 2, b⟩), (6, 0, one ⟨11, L.map MMsg.nC, 2, false⟩)], 1⟩) L.length ?_ ?_
      · simp -implicitDefEqProofs only [go_sem]
        exact ⟨0, false, Nat.zero_le _, rfl, by rw [hL]; rfl⟩
      · rintro x s ⟨k, b, hk, rfl, rfl⟩
        rcases Nat.lt_or_ge k L.length with hlt | hge
        · have hlt' : (k : Int) < ((5 : Nat) : Int) := by omega
          have hlt2 : (k : Int) < 5 := by omega
          have hlt3 : (k : Int) < (L.length : Int) := by omega
          have hw : IntKind.i64.wrap ((k : Int) + 1) = ((k + 1 : Nat) : Int) := by rw [wrS (by omega)]; omega
          obtain ⟨hmr, hmp, hml, hmc⟩ := hLm L[k] (List.getElem_mem hlt)
          have hg : L[k]? = some L[k] := List.getElem?_eq_getElem hlt
          have hf : ifN (L[k].kind == 6) 1 = 0 ∨ ifN (L[k].kind == 6) 1 = 1 := by unfold ifN; split <;> simp
          have hB := hear_base hok hf hmr hmp (mWB_size _) hmc
          have hwb := wbS L[k] hmp hml hmr
          generalize L[k] = m at *
          generalize hF : ifN (m.kind == 6) 1 = F at *
          have hI := c27_c c 9 ⟨F, 0, mWireBytes m⟩ hcl
          rw [hB] at hI
          cases b
          all_goals simp -implicitDefEqProofs only [go_sem, hlt', hlt2, hlt3, hg, hL5]
          all_goals refine ⟨?_, ?_⟩
          all_goals repeat' first | (refine Want.intro (by first | exact c25_c _ _ | exact hwb | exact hI | exact c28_c c hcl) ?_; try simp -implicitDefEqProofs only [go_sem, hF, hlt', hlt2, hlt3, hg, hL5]) | (refine WantM.intro (by first | exact c25_c _ _ | exact hwb | exact hI | exact c28_c c hcl) ?_; try simp -implicitDefEqProofs only [go_sem, hF, hlt', hlt2, hlt3, hg, hL5]) | (refine guardP_intro (fun h => ?_) (fun h => ?_) <;> try simp -implicitDefEqProofs only [go_sem, hF, hlt', hlt2, hlt3, hg, hL5, h]) | (refine condJ_intro (fun h => ?_) (fun h => ?_) <;> try simp -implicitDefEqProofs only [go_sem, hF, hlt', hlt2, hlt3, hg, hL5, h])
          all_goals try refine And.intro ?_ ?_
          all_goals repeat' first | (refine Want.intro (by first | exact c25_c _ _ | exact hwb | exact hI | exact c28_c c hcl) ?_; try simp -implicitDefEqProofs only [go_sem, hF, hlt', hlt2, hlt3, hg, hL5]) | (refine WantM.intro (by first | exact c25_c _ _ | exact hwb | exact hI | exact c28_c c hcl) ?_; try simp -implicitDefEqProofs only [go_sem, hF, hlt', hlt2, hlt3, hg, hL5]) | (refine guardP_intro (fun h => ?_) (fun h => ?_) <;> try simp -implicitDefEqProofs only [go_sem, hF, hlt', hlt2, hlt3, hg, hL5, h]) | (refine condJ_intro (fun h => ?_) (fun h => ?_) <;> try simp -implicitDefEqProofs only [go_sem, hF, hlt', hlt2, hlt3, hg, hL5, h])
          all_goals first
            | (exfalso; exact absurd (of_decide_eq_true (by assumption)) (by decide))
            | (rw [hw]; exact ⟨_, by omega, k + 1, _, by omega, rfl, rfl⟩)
        · have hk5 : k = L.length := by omega
          subst hk5
          have hlt' : ¬ (((5 : Nat) : Int) < ((5 : Nat) : Int)) := by omega
          have hE : CallM Try.prog 27 [] [c.ro, vI 9, .agg (MLet.mk 0 0 .empty).cs] (MTold.base c).avQ (MTold.base c).outQ := by
            have hI := c27_c c 9 ⟨0, 0, .empty⟩ hcl
            have : mHear c 9 ⟨0, 0, .empty⟩ = .base c := by
              unfold mHear
              rw [show mWireRead ByteArray.empty = (.zero, 2, 0) from rfl]
              split
              · rw [if_neg (by simp [hearHd]), if_neg (by simp [hearAk])]
              · rename_i hn
                exact absurd (show hearOk c 9 ⟨0, 0, .empty⟩ = true by simp only [hearOk, hok]; decide) hn
            rwa [this] at hI
          cases b
          all_goals simp -implicitDefEqProofs only [go_sem, hlt', hL5]
          all_goals refine WantM.intro hE ?_
          all_goals simp -implicitDefEqProofs only [go_sem]
          all_goals refine Want.intro (c24_c c hcl) ?_
          all_goals try simp -implicitDefEqProofs only [go_sem, hok]
          all_goals try rfl
end Go.Proofs.Ytfcfggefdifgkaa.E
