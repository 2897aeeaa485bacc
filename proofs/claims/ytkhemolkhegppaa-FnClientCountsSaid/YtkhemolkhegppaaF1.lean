/-
  Contracts: letters and clients that are ok.
-/
import Derived.Test.YtkhemolkhegppaaD13
namespace Go.Proofs.Ytkhemolkhegppaa.E
open Go Go.RowKit
set_option maxHeartbeats 4000000
set_option maxRecDepth 10000
set_option linter.unusedSimpArgs false
set_option linter.unusedVariables false
set_option linter.unusedSectionVars false
@[go_sem] def c16 : SC J := .sq [1] (.reg [.p (.bx 1 47 (.tmp 0)), .p (.as 2 (.const (.bool false)))])
 (.sq [2] (.reg [.p (.fa 3 47 (.tmp 1) 0), .p (.ld 4 3 (.tmp 3)), .p (.cl (some 5) 42 [.tmp 4, .const (.int .i64 0), .const (.int .i64 20)] [3, 3, 3]), .p (.mv 6 (.tmp 5)), .g 6 true (.fa 7 47 (.tmp 1) 1), .g 6 true (.ld 8 3 (.tmp 7)), .g 6 true (.cl (some 9) 42 [.tmp 8, .const (.int .i64 0), .const (.int .i64 20)] [3, 3, 3]), .p (.pk 10 (.tmp 6) (.tmp 9) (.const (.bool false))), .p (.mv 11 (.tmp 10)), .g 11 true (.fa 12 47 (.tmp 1) 2), .g 11 true (.ld 13 9 (.tmp 12)), .g 11 true (.ln 14 9 (.tmp 13)), .g 11 true (.bn 15 .leq 3 (.tmp 14) (.const (.int .i64 600)) 3), .p (.pk 16 (.tmp 11) (.tmp 15) (.const (.bool false))), .p (.as 2 (.tmp 16))])
  (.ret))
theorem b16 : BodyOK Try.prog 16 c16 17 [.tmp 2] := ⟨Try.f16, by kernel_rfl, by kernel_rfl, by kernel_rfl, by kernel_rfl, by kernel_rfl⟩

@[go_sem] def c48 : SC J := .sq [1] (.reg [.p (.bx 1 47 (.tmp 0)), .p (.as 2 (.const (.bool false)))])
 (.sq [2] (.reg [.p (.fa 3 47 (.tmp 1) 0), .p (.ld 4 3 (.tmp 3)), .p (.cl (some 5) 45 [.tmp 4, .const (.int .i64 0), .const (.int .i64 20)] [3, 3, 3]), .p (.mv 6 (.tmp 5)), .g 6 true (.fa 7 47 (.tmp 1) 1), .g 6 true (.ld 8 3 (.tmp 7)), .g 6 true (.cl (some 9) 45 [.tmp 8, .const (.int .i64 0), .const (.int .i64 20)] [3, 3, 3]), .p (.pk 10 (.tmp 6) (.tmp 9) (.const (.bool false))), .p (.mv 11 (.tmp 10)), .g 11 true (.fa 12 47 (.tmp 1) 2), .g 11 true (.ld 13 9 (.tmp 12)), .g 11 true (.ln 14 9 (.tmp 13)), .g 11 true (.bn 15 .leq 3 (.tmp 14) (.const (.int .i64 600)) 3), .p (.pk 16 (.tmp 11) (.tmp 15) (.const (.bool false))), .p (.as 2 (.tmp 16))])
  (.ret))
theorem b48 : BodyOK Try.prog 48 c48 17 [.tmp 2] := ⟨Try.f48, by kernel_rfl, by kernel_rfl, by kernel_rfl, by kernel_rfl, by kernel_rfl⟩

@[go_sem] def c43 : SC J := .sq [1] (.reg [.p (.bx 1 27 (.tmp 0)), .p (.as 2 (.const (.bool false)))])
 (.sq [2] (.reg [.p (.fa 3 27 (.tmp 1) 0), .p (.ld 4 3 (.tmp 3)), .p (.cl (some 5) 42 [.tmp 4, .const (.int .i64 1), .const (.int .i64 256)] [3, 3, 3]), .p (.mv 6 (.tmp 5)), .g 6 false (.ld 7 27 (.tmp 1)), .g 6 false (.bd 8 27 []), .g 6 false (.bn 9 .eql 27 (.tmp 7) (.tmp 8) 27), .p (.pk 10 (.tmp 6) (.const (.bool true)) (.tmp 9)), .p (.as 2 (.tmp 10))])
  (.ret))
theorem b43 : BodyOK Try.prog 43 c43 11 [.tmp 2] := ⟨Try.f43, by kernel_rfl, by kernel_rfl, by kernel_rfl, by kernel_rfl, by kernel_rfl⟩

@[go_sem] def c9 : SC J := .sq [1] (.reg [.p (.bx 1 30 (.tmp 0)), .p (.as 2 (.const (.bool false)))])
 (.sq [1] (.sq [1, 23] (.reg [.p (.fa 4 30 (.tmp 1) 1), .p (.ld 5 3 (.tmp 4)), .p (.cl (some 6) 42 [.tmp 5, .const (.int .i64 1), .const (.int .i64 7)] [3, 3, 3]), .p (.un 7 .not 4 (.tmp 6)), .p (.mv 8 (.tmp 7)), .g 8 false (.fa 9 30 (.tmp 1) 0), .g 8 false (.ld 10 3 (.tmp 9)), .g 8 false (.fa 11 30 (.tmp 1) 1), .g 8 false (.ld 12 3 (.tmp 11)), .g 8 false (.cl (some 13) 42 [.tmp 10, .const (.int .i64 1), .tmp 12] [3, 3, 3]), .g 8 false (.un 14 .not 4 (.tmp 13)), .p (.pk 15 (.tmp 8) (.const (.bool true)) (.tmp 14)), .p (.mv 16 (.tmp 15)), .g 16 false (.fa 17 30 (.tmp 1) 0), .g 16 false (.ld 18 3 (.tmp 17)), .g 16 false (.bn 19 .mul 3 (.const (.int .i64 2)) (.tmp 18) 3), .g 16 false (.fa 20 30 (.tmp 1) 1), .g 16 false (.ld 21 3 (.tmp 20)), .g 16 false (.bn 22 .leq 3 (.tmp 19) (.tmp 21) 3), .p (.pk 23 (.tmp 16) (.const (.bool true)) (.tmp 22))])
   (.cond (.tmp 23)
    (.sq [2] (.reg [.p (.as 2 (.const (.bool false)))])
     (.ret))
    (.skip)))
  (.sq [1] (.sq [1, 33] (.reg [.p (.fa 24 30 (.tmp 1) 2), .p (.ld 25 3 (.tmp 24)), .p (.cl (some 26) 42 [.tmp 25, .const (.int .i64 0), .const (.int .i64 1000000)] [3, 3, 3]), .p (.un 27 .not 4 (.tmp 26)), .p (.mv 28 (.tmp 27)), .g 28 false (.fa 29 30 (.tmp 1) 6), .g 28 false (.ld 30 27 (.tmp 29)), .g 28 false (.cl (some 31) 43 [.tmp 30] [27]), .g 28 false (.un 32 .not 4 (.tmp 31)), .p (.pk 33 (.tmp 28) (.const (.bool true)) (.tmp 32))])
    (.cond (.tmp 33)
     (.sq [2] (.reg [.p (.as 2 (.const (.bool false)))])
      (.ret))
     (.skip)))
   (.sq [1] (.sq [1, 41] (.reg [.p (.fa 34 30 (.tmp 1) 3), .p (.ld 35 3 (.tmp 34)), .p (.bn 36 .eql 3 (.tmp 35) (.const (.int .i64 0)) 3), .p (.mv 37 (.tmp 36)), .g 37 false (.fa 38 30 (.tmp 1) 3), .g 37 false (.ld 39 3 (.tmp 38)), .g 37 false (.bn 40 .eql 3 (.tmp 39) (.const (.int .i64 1)) 3), .p (.pk 41 (.tmp 37) (.const (.bool true)) (.tmp 40))])
     (.cond (.tmp 41)
      (.sq [2] (.reg [.p (.fa 42 30 (.tmp 1) 4), .p (.ld 43 27 (.tmp 42)), .p (.bd 44 27 []), .p (.bn 45 .eql 27 (.tmp 43) (.tmp 44) 27), .p (.mv 46 (.tmp 45)), .g 46 true (.fa 47 30 (.tmp 1) 5), .g 46 true (.ld 48 28 (.tmp 47)), .g 46 true (.ln 49 28 (.tmp 48)), .g 46 true (.bn 50 .eql 3 (.tmp 49) (.const (.int .i64 0)) 3), .p (.pk 51 (.tmp 46) (.tmp 50) (.const (.bool false))), .p (.mv 52 (.tmp 51)), .g 52 true (.fa 53 30 (.tmp 1) 2), .g 52 true (.ld 54 3 (.tmp 53)), .g 52 true (.fa 55 30 (.tmp 1) 3), .g 52 true (.ld 56 3 (.tmp 55)), .g 52 true (.bn 57 .geq 3 (.tmp 54) (.tmp 56) 3), .p (.pk 58 (.tmp 52) (.tmp 57) (.const (.bool false))), .p (.as 2 (.tmp 58))])
       (.ret))
      (.skip)))
    (.sq [1] (.sq [1, 85] (.reg [.p (.fa 59 30 (.tmp 1) 3), .p (.ld 60 3 (.tmp 59)), .p (.bn 61 .neq 3 (.tmp 60) (.const (.int .i64 2)) 3), .p (.mv 62 (.tmp 61)), .g 62 false (.fa 63 30 (.tmp 1) 2), .g 62 false (.ld 64 3 (.tmp 63)), .g 62 false (.bn 65 .lss 3 (.tmp 64) (.const (.int .i64 1)) 3), .p (.pk 66 (.tmp 62) (.const (.bool true)) (.tmp 65)), .p (.mv 67 (.tmp 66)), .g 67 false (.fa 68 30 (.tmp 1) 4), .g 67 false (.fa 69 27 (.tmp 68) 0), .g 67 false (.ld 70 3 (.tmp 69)), .g 67 false (.fa 71 30 (.tmp 1) 6), .g 67 false (.fa 72 27 (.tmp 71) 0), .g 67 false (.ld 73 3 (.tmp 72)), .g 67 false (.bn 74 .add 3 (.tmp 73) (.const (.int .i64 1)) 3), .g 67 false (.cl (some 75) 42 [.tmp 70, .tmp 74, .const (.int .i64 256)] [3, 3, 3]), .g 67 false (.un 76 .not 4 (.tmp 75)), .p (.pk 77 (.tmp 67) (.const (.bool true)) (.tmp 76)), .p (.mv 78 (.tmp 77)), .g 78 false (.fa 79 30 (.tmp 1) 5), .g 78 false (.ld 80 28 (.tmp 79)), .g 78 false (.ln 81 28 (.tmp 80)), .g 78 false (.fa 82 30 (.tmp 1) 0), .g 78 false (.ld 83 3 (.tmp 82)), .g 78 false (.bn 84 .geq 3 (.tmp 81) (.tmp 83) 3), .p (.pk 85 (.tmp 78) (.const (.bool true)) (.tmp 84))])
      (.cond (.tmp 85)
       (.sq [2] (.reg [.p (.as 2 (.const (.bool false)))])
        (.ret))
       (.skip)))
     (.sq [] (.sq [1, 3] (.reg [.p (.as 3 (.const (.int .i64 0)))])
       (.block 0 (.lp [1, 3] (.sq [1, 3] (.sq [1, 3, 90] (.reg [.p (.mv 86 (.tmp 3)), .p (.fa 87 30 (.tmp 1) 5), .p (.ld 88 28 (.tmp 87)), .p (.ln 89 28 (.tmp 88)), .p (.bn 90 .lss 3 (.tmp 86) (.tmp 89) 3)])
           (.cond (.tmp 90)
            (.skip)
            (.exit 0)))
          (.sq [1, 3] (.block 1 (.sq [1, 3, 119] (.dr (.pu 0 (.pu 1 (.pu 2 (.pu 3 (.pu 4 (.pu 5 (.pu 6 (.ef 7 [] (.pu 8 (.pu 9 (.pu 10 (.pu 11 (.pu 12 (.pu 13 (.pu 14 (.pu 15 (.pu 16 (.pu 17 (.pu 18 (.pu 19 (.pu 20 (.pu 21 (.pu 22 (.pu 23 (.pu 24 (.pu 25 (.pu 26 (.nil)))))))))))))))))))))))))))) [[], [0], [], [0, 1, 2], [0, 1, 2, 3], [], [5], [0, 1, 2, 3, 4, 5, 6], [0, 1, 2, 3, 4, 5, 6, 7], [0, 1, 2, 3, 4, 5, 6, 7, 8], [0, 1, 2, 3, 4, 5, 6, 7, 8, 9], [0, 1, 2, 3, 4, 5, 6, 7, 8, 9, 10], [0, 1, 2, 3, 4, 5, 6, 7, 8, 9, 10, 11], [0, 1, 2, 3, 4, 5, 6, 7, 8, 9, 10, 11, 12], [0, 1, 2, 3, 4, 5, 6, 7, 8, 9, 10, 11, 12, 13], [0, 1, 2, 3, 4, 5, 6, 7, 8, 9, 10, 11, 12], [0, 1, 2, 3, 4, 5, 6, 7, 8, 9, 10, 11, 12, 15], [0, 1, 2, 3, 4, 5, 6, 7, 8, 9, 10, 11, 12, 13, 14, 15, 16], [0, 1, 2, 3, 4, 5, 6, 7, 8, 9, 10, 11, 12, 13, 14, 15, 16, 17], [0, 1, 2, 3, 4, 5, 6, 7, 8, 9, 10, 11, 12], [0, 1, 2, 3, 4, 5, 6, 7, 8, 9, 10, 11, 12, 19], [0, 1, 2, 3, 4, 5, 6, 7, 8, 9, 10, 11, 12], [0, 1, 2, 3, 4, 5, 6, 7, 8, 9, 10, 11, 12, 19, 20, 21], [0, 1, 2, 3, 4, 5, 6, 7, 8, 9, 10, 11, 12, 19, 20, 21, 22], [0, 1, 2, 3, 4, 5, 6, 7, 8, 9, 10, 11, 12, 13, 14, 15, 16, 17, 18, 19, 20, 21, 22, 23], [0, 1, 2, 3, 4, 5, 6, 7, 8, 9, 10, 11, 12, 13, 14, 15, 16, 17, 18, 19, 20, 21, 22, 23, 24], [0, 1, 2, 3, 4, 5, 6, 7, 8, 9, 10, 11, 12, 13, 14, 15, 16, 17, 18, 19, 20, 21, 22, 23, 24, 25]] [.p (.fa 93 30 (.tmp 1) 5), .p (.ld 94 28 (.tmp 93)), .p (.mv 95 (.tmp 3)), .p (.ia 96 28 (.tmp 94) (.tmp 95)), .p (.ld 97 3 (.tmp 96)), .p (.fa 98 30 (.tmp 1) 1), .p (.ld 99 3 (.tmp 98)), .p (.cl (some 100) 42 [.tmp 97, .const (.int .i64 1), .tmp 99] [3, 3, 3]), .p (.un 101 .not 4 (.tmp 100)), .p (.mv 102 (.tmp 101)), .g 102 false (.mv 103 (.tmp 3)), .g 102 false (.bn 104 .gtr 3 (.tmp 103) (.const (.int .i64 0)) 3), .g 102 false (.mv 105 (.tmp 104)), .g 105 true (.fa 106 30 (.tmp 1) 5), .g 105 true (.ld 107 28 (.tmp 106)), .g 105 true (.mv 108 (.tmp 3)), .g 105 true (.bn 109 .sub 3 (.tmp 108) (.const (.int .i64 1)) 3), .g 105 true (.ia 110 28 (.tmp 107) (.tmp 109)), .g 105 true (.ld 111 3 (.tmp 110)), .g 105 true (.fa 112 30 (.tmp 1) 5), .g 105 true (.ld 113 28 (.tmp 112)), .g 105 true (.mv 114 (.tmp 3)), .g 105 true (.ia 115 28 (.tmp 113) (.tmp 114)), .g 105 true (.ld 116 3 (.tmp 115)), .g 105 true (.bn 117 .geq 3 (.tmp 111) (.tmp 116) 3), .g 102 false (.pk 118 (.tmp 105) (.tmp 117) (.const (.bool false))), .p (.pk 119 (.tmp 102) (.const (.bool true)) (.tmp 118))] [[], [0], [], [1, 2], [3], [], [5], [4, 6], [7], [8, 7], [9], [10, 9], [11, 9, 9], [12], [13, 12], [12], [15, 12], [14, 16, 12], [17, 12], [12], [19, 12], [12], [20, 21, 12], [22, 12], [18, 23, 12], [12, 24, 9], [9, 25]])
             (.cond (.tmp 119)
              (.sq [2] (.reg [.p (.as 2 (.const (.bool false)))])
               (.ret))
              (.skip))))
           (.reg [.p (.mv 91 (.tmp 3)), .p (.bn 92 .add 3 (.tmp 91) (.const (.int .i64 1)) 3), .p (.as 3 (.tmp 92))]))))))
      (.sq [2] (.reg [.p (.as 2 (.const (.bool true)))])
       (.ret)))))))
theorem b9 : BodyOK Try.prog 9 c9 120 [.tmp 2] := ⟨Try.f9, by kernel_rfl, by kernel_rfl, by kernel_rfl, by kernel_rfl, by kernel_rfl⟩
set_option maxRecDepth 100000 in
@[go_sem] theorem k9_0 : chkT (.pu 0 (.pu 1 (.pu 2 (.pu 3 (.pu 4 (.pu 5 (.pu 6 (.ef 7 [] (.pu 8 (.pu 9 (.pu 10 (.pu 11 (.pu 12 (.pu 13 (.pu 14 (.pu 15 (.pu 16 (.pu 17 (.pu 18 (.pu 19 (.pu 20 (.pu 21 (.pu 22 (.pu 23 (.pu 24 (.pu 25 (.pu 26 (.nil)))))))))))))))))))))))))))) [[], [0], [], [0, 1, 2], [0, 1, 2, 3], [], [5], [0, 1, 2, 3, 4, 5, 6], [0, 1, 2, 3, 4, 5, 6, 7], [0, 1, 2, 3, 4, 5, 6, 7, 8], [0, 1, 2, 3, 4, 5, 6, 7, 8, 9], [0, 1, 2, 3, 4, 5, 6, 7, 8, 9, 10], [0, 1, 2, 3, 4, 5, 6, 7, 8, 9, 10, 11], [0, 1, 2, 3, 4, 5, 6, 7, 8, 9, 10, 11, 12], [0, 1, 2, 3, 4, 5, 6, 7, 8, 9, 10, 11, 12, 13], [0, 1, 2, 3, 4, 5, 6, 7, 8, 9, 10, 11, 12], [0, 1, 2, 3, 4, 5, 6, 7, 8, 9, 10, 11, 12, 15], [0, 1, 2, 3, 4, 5, 6, 7, 8, 9, 10, 11, 12, 13, 14, 15, 16], [0, 1, 2, 3, 4, 5, 6, 7, 8, 9, 10, 11, 12, 13, 14, 15, 16, 17], [0, 1, 2, 3, 4, 5, 6, 7, 8, 9, 10, 11, 12], [0, 1, 2, 3, 4, 5, 6, 7, 8, 9, 10, 11, 12, 19], [0, 1, 2, 3, 4, 5, 6, 7, 8, 9, 10, 11, 12], [0, 1, 2, 3, 4, 5, 6, 7, 8, 9, 10, 11, 12, 19, 20, 21], [0, 1, 2, 3, 4, 5, 6, 7, 8, 9, 10, 11, 12, 19, 20, 21, 22], [0, 1, 2, 3, 4, 5, 6, 7, 8, 9, 10, 11, 12, 13, 14, 15, 16, 17, 18, 19, 20, 21, 22, 23], [0, 1, 2, 3, 4, 5, 6, 7, 8, 9, 10, 11, 12, 13, 14, 15, 16, 17, 18, 19, 20, 21, 22, 23, 24], [0, 1, 2, 3, 4, 5, 6, 7, 8, 9, 10, 11, 12, 13, 14, 15, 16, 17, 18, 19, 20, 21, 22, 23, 24, 25]] (soI [.p (.fa 93 30 (.tmp 1) 5), .p (.ld 94 28 (.tmp 93)), .p (.mv 95 (.tmp 3)), .p (.ia 96 28 (.tmp 94) (.tmp 95)), .p (.ld 97 3 (.tmp 96)), .p (.fa 98 30 (.tmp 1) 1), .p (.ld 99 3 (.tmp 98)), .p (.cl (some 100) 42 [.tmp 97, .const (.int .i64 1), .tmp 99] [3, 3, 3]), .p (.un 101 .not 4 (.tmp 100)), .p (.mv 102 (.tmp 101)), .g 102 false (.mv 103 (.tmp 3)), .g 102 false (.bn 104 .gtr 3 (.tmp 103) (.const (.int .i64 0)) 3), .g 102 false (.mv 105 (.tmp 104)), .g 105 true (.fa 106 30 (.tmp 1) 5), .g 105 true (.ld 107 28 (.tmp 106)), .g 105 true (.mv 108 (.tmp 3)), .g 105 true (.bn 109 .sub 3 (.tmp 108) (.const (.int .i64 1)) 3), .g 105 true (.ia 110 28 (.tmp 107) (.tmp 109)), .g 105 true (.ld 111 3 (.tmp 110)), .g 105 true (.fa 112 30 (.tmp 1) 5), .g 105 true (.ld 113 28 (.tmp 112)), .g 105 true (.mv 114 (.tmp 3)), .g 105 true (.ia 115 28 (.tmp 113) (.tmp 114)), .g 105 true (.ld 116 3 (.tmp 115)), .g 105 true (.bn 117 .geq 3 (.tmp 111) (.tmp 116) 3), .g 102 false (.pk 118 (.tmp 105) (.tmp 117) (.const (.bool false))), .p (.pk 119 (.tmp 102) (.const (.bool true)) (.tmp 118))]) [[], [0], [], [1, 2], [3], [], [5], [4, 6], [7], [8, 7], [9], [10, 9], [11, 9, 9], [12], [13, 12], [12], [15, 12], [14, 16, 12], [17, 12], [12], [19, 12], [12], [20, 21, 12], [22, 12], [18, 23, 12], [12, 24, 9], [9, 25]] = true := by kernel_rfl

@[go_sem] def c44 : SC J := .sq [1] (.reg [.p (.bx 1 30 (.tmp 0)), .p (.as 2 (.const (.bool false)))])
 (.sq [1] (.sq [1, 43] (.reg [.p (.fa 5 30 (.tmp 1) 1), .p (.ld 6 3 (.tmp 5)), .p (.cl (some 7) 45 [.tmp 6, .const (.int .i64 1), .const (.int .i64 7)] [3, 3, 3]), .p (.un 8 .not 4 (.tmp 7)), .p (.mv 9 (.tmp 8)), .g 9 false (.fa 10 30 (.tmp 1) 0), .g 9 false (.ld 11 3 (.tmp 10)), .g 9 false (.fa 12 30 (.tmp 1) 1), .g 9 false (.ld 13 3 (.tmp 12)), .g 9 false (.cl (some 14) 45 [.tmp 11, .const (.int .i64 1), .tmp 13] [3, 3, 3]), .g 9 false (.un 15 .not 4 (.tmp 14)), .p (.pk 16 (.tmp 9) (.const (.bool true)) (.tmp 15)), .p (.mv 17 (.tmp 16)), .g 17 false (.fa 18 30 (.tmp 1) 0), .g 17 false (.ld 19 3 (.tmp 18)), .g 17 false (.bn 20 .mul 3 (.const (.int .i64 2)) (.tmp 19) 3), .g 17 false (.fa 21 30 (.tmp 1) 1), .g 17 false (.ld 22 3 (.tmp 21)), .g 17 false (.bn 23 .leq 3 (.tmp 20) (.tmp 22) 3), .p (.pk 24 (.tmp 17) (.const (.bool true)) (.tmp 23)), .p (.mv 25 (.tmp 24)), .g 25 false (.fa 26 30 (.tmp 1) 2), .g 25 false (.ld 27 3 (.tmp 26)), .g 25 false (.cl (some 28) 45 [.tmp 27, .const (.int .i64 0), .const (.int .i64 1000000)] [3, 3, 3]), .g 25 false (.un 29 .not 4 (.tmp 28)), .p (.pk 30 (.tmp 25) (.const (.bool true)) (.tmp 29)), .p (.mv 31 (.tmp 30)), .g 31 false (.fa 32 30 (.tmp 1) 6), .g 31 false (.ld 33 27 (.tmp 32)), .g 31 false (.bd 34 27 []), .g 31 false (.bn 35 .neq 27 (.tmp 33) (.tmp 34) 27), .g 31 false (.mv 36 (.tmp 35)), .g 36 true (.fa 37 30 (.tmp 1) 6), .g 36 true (.fa 38 27 (.tmp 37) 0), .g 36 true (.ld 39 3 (.tmp 38)), .g 36 true (.cl (some 40) 45 [.tmp 39, .const (.int .i64 1), .const (.int .i64 256)] [3, 3, 3]), .g 36 true (.un 41 .not 4 (.tmp 40)), .g 31 false (.pk 42 (.tmp 36) (.tmp 41) (.const (.bool false))), .p (.pk 43 (.tmp 31) (.const (.bool true)) (.tmp 42))])
   (.cond (.tmp 43)
    (.sq [2] (.reg [.p (.as 2 (.const (.bool false)))])
     (.ret))
    (.skip)))
  (.sq [] (.sq [1, 45] (.reg [.p (.fa 44 30 (.tmp 1) 3), .p (.ld 45 3 (.tmp 44))])
    (.block 0 (.sq [1, 45, 46] (.sq [1, 45, 46] (.reg [.p (.bn 47 .eql 3 (.tmp 45) (.const (.int .i64 0)) 3), .p (.as 46 (.tmp 47))])
       (.cond (.tmp 46)
        (.skip)
        (.reg [.p (.bn 48 .eql 3 (.tmp 45) (.const (.int .i64 1)) 3), .p (.as 46 (.tmp 48))])))
      (.cond (.tmp 46)
       (.sq [2] (.reg [.p (.fa 49 30 (.tmp 1) 4), .p (.ld 50 27 (.tmp 49)), .p (.bd 51 27 []), .p (.bn 52 .eql 27 (.tmp 50) (.tmp 51) 27), .p (.mv 53 (.tmp 52)), .g 53 true (.fa 54 30 (.tmp 1) 5), .g 53 true (.ld 55 28 (.tmp 54)), .g 53 true (.ln 56 28 (.tmp 55)), .g 53 true (.bn 57 .eql 3 (.tmp 56) (.const (.int .i64 0)) 3), .p (.pk 58 (.tmp 53) (.tmp 57) (.const (.bool false))), .p (.mv 59 (.tmp 58)), .g 59 true (.fa 60 30 (.tmp 1) 3), .g 59 true (.ld 61 3 (.tmp 60)), .g 59 true (.bn 62 .eql 3 (.tmp 61) (.const (.int .i64 0)) 3), .g 59 true (.mv 63 (.tmp 62)), .g 63 false (.fa 64 30 (.tmp 1) 2), .g 63 false (.ld 65 3 (.tmp 64)), .g 63 false (.bn 66 .neq 3 (.tmp 65) (.const (.int .i64 0)) 3), .g 59 true (.pk 67 (.tmp 63) (.const (.bool true)) (.tmp 66)), .p (.pk 68 (.tmp 59) (.tmp 67) (.const (.bool false))), .p (.as 2 (.tmp 68))])
        (.ret))
       (.sq [1, 69] (.reg [.p (.bn 70 .eql 3 (.tmp 45) (.const (.int .i64 2)) 3), .p (.as 69 (.tmp 70))])
        (.cond (.tmp 69)
         (.sq [1] (.sq [1, 72, 73, 74] (.reg [.p (.fa 71 30 (.tmp 1) 5), .p (.ld 72 28 (.tmp 71)), .p (.ln 73 28 (.tmp 72)), .p (.mv 74 (.const (.int .i64 0)))])
           (.block 1 (.lp [1, 72, 73, 74] (.sq [1, 72, 73, 74, 75] (.reg [.p (.bn 75 .lss 3 (.tmp 74) (.tmp 73) 3)])
              (.sq [1, 72, 73, 74] (.cond (.tmp 75)
                (.skip)
                (.exit 1))
               (.sq [1, 72, 73, 74] (.block 2 (.sq [1, 3, 4, 72, 73, 74] (.reg [.p (.mv 76 (.tmp 74)), .p (.ia 77 28 (.tmp 72) (.tmp 74)), .p (.ld 78 3 (.tmp 77)), .p (.as 3 (.tmp 76)), .p (.as 4 (.tmp 78))])
                  (.sq [1, 72, 73, 74, 97] (.reg [.p (.mv 79 (.tmp 4)), .p (.fa 80 30 (.tmp 1) 1), .p (.ld 81 3 (.tmp 80)), .p (.cl (some 82) 45 [.tmp 79, .const (.int .i64 1), .tmp 81] [3, 3, 3]), .p (.un 83 .not 4 (.tmp 82)), .p (.mv 84 (.tmp 83)), .g 84 false (.mv 85 (.tmp 3)), .g 84 false (.bn 86 .gtr 3 (.tmp 85) (.const (.int .i64 0)) 3), .g 84 false (.mv 87 (.tmp 86)), .g 87 true (.fa 88 30 (.tmp 1) 5), .g 87 true (.ld 89 28 (.tmp 88)), .g 87 true (.mv 90 (.tmp 3)), .g 87 true (.bn 91 .sub 3 (.tmp 90) (.const (.int .i64 1)) 3), .g 87 true (.ia 92 28 (.tmp 89) (.tmp 91)), .g 87 true (.ld 93 3 (.tmp 92)), .g 87 true (.mv 94 (.tmp 4)), .g 87 true (.bn 95 .geq 3 (.tmp 93) (.tmp 94) 3), .g 84 false (.pk 96 (.tmp 87) (.tmp 95) (.const (.bool false))), .p (.pk 97 (.tmp 84) (.const (.bool true)) (.tmp 96))])
                   (.cond (.tmp 97)
                    (.sq [2] (.reg [.p (.as 2 (.const (.bool false)))])
                     (.ret))
                    (.skip)))))
                (.reg [.p (.bn 98 .add 3 (.tmp 74) (.const (.int .i64 1)) 3), .p (.mv 74 (.tmp 98))])))))))
          (.sq [2] (.reg [.p (.fa 99 30 (.tmp 1) 2), .p (.ld 100 3 (.tmp 99)), .p (.bn 101 .neq 3 (.tmp 100) (.const (.int .i64 0)) 3), .p (.mv 102 (.tmp 101)), .g 102 true (.fa 103 30 (.tmp 1) 4), .g 102 true (.fa 104 27 (.tmp 103) 0), .g 102 true (.ld 105 3 (.tmp 104)), .g 102 true (.fa 106 30 (.tmp 1) 6), .g 102 true (.fa 107 27 (.tmp 106) 0), .g 102 true (.ld 108 3 (.tmp 107)), .g 102 true (.bn 109 .add 3 (.tmp 108) (.const (.int .i64 1)) 3), .g 102 true (.cl (some 110) 45 [.tmp 105, .tmp 109, .const (.int .i64 256)] [3, 3, 3]), .p (.pk 111 (.tmp 102) (.tmp 110) (.const (.bool false))), .p (.mv 112 (.tmp 111)), .g 112 true (.fa 113 30 (.tmp 1) 5), .g 112 true (.ld 114 28 (.tmp 113)), .g 112 true (.ln 115 28 (.tmp 114)), .g 112 true (.fa 116 30 (.tmp 1) 0), .g 112 true (.ld 117 3 (.tmp 116)), .g 112 true (.bn 118 .lss 3 (.tmp 115) (.tmp 117) 3), .p (.pk 119 (.tmp 112) (.tmp 118) (.const (.bool false))), .p (.as 2 (.tmp 119))])
           (.ret)))
         (.skip)))))))
   (.sq [2] (.reg [.p (.as 2 (.const (.bool false)))])
    (.ret))))
theorem b44 : BodyOK Try.prog 44 c44 120 [.tmp 2] := ⟨Try.f44, by kernel_rfl, by kernel_rfl, by kernel_rfl, by kernel_rfl, by kernel_rfl⟩

structure MPt where
  size : Int
  root : MDig
def MPt.zero : MPt := ⟨0, ⟨0, 0, 0, 0⟩⟩
def MPt.cs (p : MPt) : List AV := [vI p.size, vU p.root.a, vU p.root.b, vU p.root.c, vU p.root.d]
structure MLet where
  from_ : Int
  to_ : Int
  text : ByteArray
def MLet.cs (l : MLet) : List AV := [vI l.from_, vI l.to_, vS l.text]
structure MCl where
  need : Int
  many : Int
  session : Int
  phase : Int
  goal : MPt
  acks : List Int
  pin : MPt
def intC (n : Int) : List AV := [vI n]
def MCl.cs (c : MCl) (a : AV) : List AV := [vI c.need, vI c.many, vI c.session, vI c.phase, vI c.goal.size, vU c.goal.root.a, vU c.goal.root.b, vU c.goal.root.c, vU c.goal.root.d, a, vI c.pin.size, vU c.pin.root.a, vU c.pin.root.b, vU c.pin.root.c, vU c.pin.root.d]
def MCl.ro (c : MCl) : AV := .agg (c.cs (.ro 1 (c.acks.map intC)))
attribute [go_sem] MPt.cs MLet.cs MCl.cs MCl.ro intC
def mLetOk (l : MLet) : Bool := mIn l.from_ 0 20 && (mIn l.to_ 0 20 && decide ((l.text.size : Int) ≤ 600))
def eqPt (a b : MPt) : Bool := a.size == b.size && (((a.root.a : Int) == b.root.a) && (((a.root.b : Int) == b.root.b) && (((a.root.c : Int) == b.root.c) && ((a.root.d : Int) == b.root.d))))
def mPin (p : MPt) : Bool := mIn p.size 1 256 || eqPt p .zero
theorem c16_c (l : MLet) : CallR Try.prog 16 [.agg l.cs] (vB (mLetOk l)) [] := by
  refine callR_of_jv b16 rfl ?_
  simp -implicitDefEqProofs only [go_sem]
  repeat' first | (refine Want.intro (by first | exact c42_c _ _ _) ?_; try simp -implicitDefEqProofs only [go_sem]) | (refine WantM.intro (by first | exact c42_c _ _ _) ?_; try simp -implicitDefEqProofs only [go_sem]) | (refine guardP_intro (fun h => ?_) (fun h => ?_) <;> try simp -implicitDefEqProofs only [go_sem, h]) | (refine condJ_intro (fun h => ?_) (fun h => ?_) <;> try simp -implicitDefEqProofs only [go_sem, h])
  all_goals simp_all [mLetOk]
theorem c48_c (l : MLet) : CallR Try.prog 48 [.agg l.cs] (vB (mLetOk l)) [] := by
  refine callR_of_jv b48 rfl ?_
  simp -implicitDefEqProofs only [go_sem]
  repeat' first | (refine Want.intro (by first | exact c45_c _ _ _) ?_; try simp -implicitDefEqProofs only [go_sem]) | (refine WantM.intro (by first | exact c45_c _ _ _) ?_; try simp -implicitDefEqProofs only [go_sem]) | (refine guardP_intro (fun h => ?_) (fun h => ?_) <;> try simp -implicitDefEqProofs only [go_sem, h]) | (refine condJ_intro (fun h => ?_) (fun h => ?_) <;> try simp -implicitDefEqProofs only [go_sem, h])
  all_goals simp_all [mLetOk]
theorem c43_c (p : MPt) : CallR Try.prog 43 [.agg p.cs] (vB (mPin p)) [] := by
  refine callR_of_jv b43 rfl ?_
  simp -implicitDefEqProofs only [go_sem]
  repeat' first | (refine Want.intro (by first | exact c42_c _ _ _) ?_; try simp -implicitDefEqProofs only [go_sem]) | (refine WantM.intro (by first | exact c42_c _ _ _) ?_; try simp -implicitDefEqProofs only [go_sem]) | (refine guardP_intro (fun h => ?_) (fun h => ?_) <;> try simp -implicitDefEqProofs only [go_sem, h]) | (refine condJ_intro (fun h => ?_) (fun h => ?_) <;> try simp -implicitDefEqProofs only [go_sem, h])
  all_goals simp_all [mPin, eqPt, MPt.zero]
  all_goals trace_state
def ackAt (many : Int) (l : List Int) (i : Nat) : Bool := mIn (l.getD i 0) 1 many && (i == 0 || decide (l.getD (i - 1) 0 < l.getD i 0))
def acksOk (many : Int) (l : List Int) : Bool := (List.range l.length).all (ackAt many l)
def mClOk (c : MCl) : Bool :=
  mIn c.many 1 7 && (mIn c.need 1 c.many && (decide (c.many < 2 * c.need) && (mIn c.session 0 1000000 && (mPin c.pin && (if c.phase = 0 ∨ c.phase = 1 then eqPt c.goal .zero && (c.acks.length == 0 && decide (c.phase ≤ c.session)) else decide (c.phase = 2) && (decide (1 ≤ c.session) && (mIn c.goal.size (c.pin.size + 1) 256 && (decide ((c.acks.length : Int) < c.need) && acksOk c.many c.acks))))))))
theorem mIn_iff {a b c : Int} : mIn a b c = true ↔ b ≤ a ∧ a ≤ c := by simp [mIn]
theorem mPin_wr {p : MPt} (h : mPin p = true) : IntKind.i64.wrap (p.size + 1) = p.size + 1 ∧ 0 ≤ p.size ∧ p.size ≤ 256 := by
  have : 0 ≤ p.size ∧ p.size ≤ 256 := by
    simp only [mPin, Bool.or_eq_true, mIn_iff] at h
    rcases h with h | h
    · omega
    · simp only [eqPt, MPt.zero, Bool.and_eq_true, beq_iff_eq] at h
      omega
  exact ⟨wrS (by omega), this⟩
theorem ok_low {c : MCl} (h : ¬ ((mIn c.many 1 7 = true ∧ mIn c.need 1 c.many = true) ∧ mPin c.pin = true)) : mClOk c = false := by
  cases h' : mClOk c with
  | false => rfl
  | true =>
    simp only [mClOk, Bool.and_eq_true] at h'
    exact absurd ⟨⟨h'.1, h'.2.1⟩, h'.2.2.2.2.1⟩ h
theorem acks_all {many : Int} {l : List Int} : acksOk many l = true ↔ ∀ i, i < l.length → ackAt many l i = true := by simp [acksOk, List.all_eq_true]
theorem ackAt_zero {many : Int} {l : List Int} (h : 0 < l.length) : ackAt many l 0 = mIn l[0] 1 many := by simp [ackAt, h]
theorem ackAt_succ {many : Int} {l : List Int} {i : Nat} (h : i + 1 < l.length) : ackAt many l (i + 1) = (mIn l[i + 1] 1 many && decide (l[i] < l[i + 1])) := by simp [ackAt, h, show i < l.length by omega]
theorem acks_bad {many : Int} {l : List Int} {i : Nat} (h : i < l.length) (hb : ackAt many l i = false) : acksOk many l = false := by
  cases h' : acksOk many l with
  | false => rfl
  | true => rw [acks_all.1 h' i h] at hb; cases hb
theorem ok_two {c : MCl} (h1 : mIn c.many 1 7 = true) (h2 : mIn c.need 1 c.many = true) (h3 : c.many < 2 * c.need) (h4 : mIn c.session 0 1000000 = true) (h5 : mPin c.pin = true) (h6 : c.phase = 2) : mClOk c = (decide (1 ≤ c.session) && (mIn c.goal.size (c.pin.size + 1) 256 && (decide ((c.acks.length : Int) < c.need) && acksOk c.many c.acks))) := by
  simp [mClOk, h1, h2, h3, h4, h5, h6]
theorem c9_c (c : MCl) (hl : c.acks.length ≤ maxLen) : CallR Try.prog 9 [c.ro] (vB (mClOk c)) [] := by
  refine callR_of_jv b9 rfl ?_
  by_cases hb : (mIn c.many 1 7 = true ∧ mIn c.need 1 c.many = true)
  · obtain ⟨h1, h2⟩ := hb
    have k1 := mIn_iff.1 h1
    have k2 := mIn_iff.1 h2
    have w2 : IntKind.i64.wrap (2 * c.need) = 2 * c.need := wrS (by omega)
    by_cases hp : mPin c.pin = true
    · have wp := (mPin_wr hp).1
      simp -implicitDefEqProofs only [go_sem]
      repeat' first | (refine Want.intro (by first | exact c42_c _ _ _ | exact c43_c c.pin) ?_; try simp -implicitDefEqProofs only [go_sem, h1, h2, hp, wp, w2, guardP_ff, condJ_false, condJ_true]) | (refine WantM.intro (by first | exact c42_c _ _ _ | exact c43_c c.pin) ?_; try simp -implicitDefEqProofs only [go_sem, h1, h2, hp, wp, w2, guardP_ff, condJ_false, condJ_true]) | (refine guardP_intro (fun h => ?_) (fun h => ?_) <;> try simp -implicitDefEqProofs only [go_sem, h1, h2, hp, wp, w2, guardP_ff, condJ_false, condJ_true, h]) | (refine condJ_intro (fun h => ?_) (fun h => ?_) <;> try simp -implicitDefEqProofs only [go_sem, h1, h2, hp, wp, w2, guardP_ff, condJ_false, condJ_true, h])
      all_goals try (show AV.sc _ = _; simp_all [mClOk, eqPt, MPt.zero]; done)
      all_goals try (show AV.sc _ = _; simp_all [mClOk, eqPt, MPt.zero]; omega)
      rename_i g1 g2 g3 g4 g5 g6 g7
      have g8 := h
      clear h
      simp only [Bool.not_eq_false', decide_eq_false_iff_not, bne_eq_false_iff_eq] at g1 g2 g5 g6 g7 g8
      have hE := ok_two h1 h2 (by omega) g2 hp g5
      rw [g7, decide_eq_true (show 1 ≤ c.session by omega), decide_eq_true (show (c.acks.length : Int) < c.need by omega), Bool.true_and, Bool.true_and, Bool.true_and] at hE
      rw [hE]
      clear hE g1 g2 g3 g4 g5 g6 g7 g8 w2 wp
      refine jv_lp (fun m s => ∃ i : Nat, i ≤ c.acks.length ∧ m = c.acks.length - i ∧ (∀ j, j < i → ackAt c.many c.acks j = true) ∧ s = ⟨120, [(1, .ptr 1 0 [] 15 0 0), (3, vI i)], [(1, 0, one ⟨15, [c.cs (.ro 1 (c.acks.map intC))], 0, false⟩)], 1⟩) c.acks.length ?_ ?_
      · simp -implicitDefEqProofs only [go_sem]
        exact ⟨0, Nat.zero_le _, rfl, fun j hj => absurd hj (Nat.not_lt_zero _), rfl⟩
      · rintro m s ⟨i, hi, rfl, hall, rfl⟩
        rcases Nat.lt_or_ge i c.acks.length with hlt | hge
        · have hlt' : (i : Int) < (c.acks.length : Int) := by omega
          have hg : c.acks[i]? = some c.acks[i] := List.getElem?_eq_getElem hlt
          have hw := wrap_succ hlt hl
          have nxt : ackAt c.many c.acks i = true → ∀ j, j < i + 1 → ackAt c.many c.acks j = true := fun h j hj => by
            rcases Nat.lt_or_ge j i with hj' | hj'
            · exact hall j hj'
            · rw [show j = i by omega]; exact h
          cases i with
          | zero =>
            have e0 := ackAt_zero (many := c.many) hlt
            have z0 : ¬ (((0 : Nat) : Int) > 0) := by omega
            simp -implicitDefEqProofs only [go_sem, hlt', hg]
            repeat' first | (refine Want.intro (by first | exact c42_c _ _ _) ?_; try simp -implicitDefEqProofs only [go_sem, hlt', hg, hw, z0, condJ_true, condJ_false, guardP_ff]) | (refine WantM.intro (by first | exact c42_c _ _ _) ?_; try simp -implicitDefEqProofs only [go_sem, hlt', hg, hw, z0, condJ_true, condJ_false, guardP_ff]) | (refine guardP_intro (fun h => ?_) (fun h => ?_) <;> try simp -implicitDefEqProofs only [go_sem, hlt', hg, hw, z0, condJ_true, condJ_false, guardP_ff, h]) | (refine condJ_intro (fun h => ?_) (fun h => ?_) <;> try simp -implicitDefEqProofs only [go_sem, hlt', hg, hw, z0, condJ_true, condJ_false, guardP_ff, h])
            all_goals first
              | (rw [acks_bad hlt (by rw [e0]; simp_all; try omega)]; done)
              | exact ⟨_, by omega, _, hlt, rfl, nxt (by rw [e0]; simp_all; try omega), rfl⟩
              | trace_state
          | succ i =>
            have e0 := ackAt_succ (many := c.many) hlt
            have z0 : ((i + 1 : Nat) : Int) > 0 := by omega
            have hg2 : c.acks[i]? = some c.acks[i] := List.getElem?_eq_getElem (by omega)
            have w1 : IntKind.i64.wrap (((i + 1 : Nat) : Int) - 1) = (i : Int) := by unfold maxLen at hl; rw [wrS (by omega)]; omega
            have hlt2 : (i : Int) < (c.acks.length : Int) := by omega
            simp -implicitDefEqProofs only [go_sem, hlt', hg]
            repeat' first | (refine Want.intro (by first | exact c42_c _ _ _) ?_; try simp -implicitDefEqProofs only [go_sem, hlt', hg, hg2, hlt2, hw, w1, z0, condJ_true, condJ_false, guardP_ff]) | (refine WantM.intro (by first | exact c42_c _ _ _) ?_; try simp -implicitDefEqProofs only [go_sem, hlt', hg, hg2, hlt2, hw, w1, z0, condJ_true, condJ_false, guardP_ff]) | (refine guardP_intro (fun h => ?_) (fun h => ?_) <;> try simp -implicitDefEqProofs only [go_sem, hlt', hg, hg2, hlt2, hw, w1, z0, condJ_true, condJ_false, guardP_ff, h]) | (refine condJ_intro (fun h => ?_) (fun h => ?_) <;> try simp -implicitDefEqProofs only [go_sem, hlt', hg, hg2, hlt2, hw, w1, z0, condJ_true, condJ_false, guardP_ff, h])
            all_goals first
              | (rw [acks_bad hlt (by rw [e0]; simp_all; try omega)]; done)
              | exact ⟨_, by omega, _, hlt, rfl, nxt (by rw [e0]; simp_all; try omega), rfl⟩
              | trace_state
        · have hi : i = c.acks.length := by omega
          subst hi
          have hlt' : ¬ ((c.acks.length : Int) < (c.acks.length : Int)) := by omega
          simp -implicitDefEqProofs only [go_sem, hlt']
          rw [acks_all.2 hall]
    · rw [ok_low (fun h => hp h.2)]
      simp -implicitDefEqProofs only [go_sem]
      repeat' first | (refine Want.intro (by first | exact c42_c _ _ _ | exact c43_c c.pin) ?_; try simp -implicitDefEqProofs only [go_sem, h1, h2, hp, w2, guardP_ff, condJ_false, condJ_true]) | (refine WantM.intro (by first | exact c42_c _ _ _ | exact c43_c c.pin) ?_; try simp -implicitDefEqProofs only [go_sem, h1, h2, hp, w2, guardP_ff, condJ_false, condJ_true]) | (refine guardP_intro (fun h => ?_) (fun h => ?_) <;> try simp -implicitDefEqProofs only [go_sem, h1, h2, hp, w2, guardP_ff, condJ_false, condJ_true, h]) | (refine condJ_intro (fun h => ?_) (fun h => ?_) <;> try simp -implicitDefEqProofs only [go_sem, h1, h2, hp, w2, guardP_ff, condJ_false, condJ_true, h])
      all_goals simp_all
  · rw [ok_low (fun h => hb h.1)]
    simp -implicitDefEqProofs only [go_sem]
    repeat' first | (refine Want.intro (by first | exact c42_c _ _ _) ?_; try simp -implicitDefEqProofs only [go_sem, condJ_true, condJ_false]) | (refine WantM.intro (by first | exact c42_c _ _ _) ?_; try simp -implicitDefEqProofs only [go_sem, condJ_true, condJ_false]) | (refine guardP_intro (fun h => ?_) (fun h => ?_) <;> try simp -implicitDefEqProofs only [go_sem, condJ_true, condJ_false, h]) | (refine condJ_intro (fun h => ?_) (fun h => ?_) <;> try simp -implicitDefEqProofs only [go_sem, condJ_true, condJ_false, h])
    all_goals simp_all
end Go.Proofs.Ytkhemolkhegppaa.E
