/-
  Contracts: messages that are the same, in the laws; the law of WireBack.
-/
import Derived.Test.YtfcfggefdifgkaaD19
namespace Go.Proofs.Ytfcfggefdifgkaa.E
open Go Go.RowKit
set_option maxHeartbeats 4000000
set_option maxRecDepth 10000
set_option linter.unusedSimpArgs false
set_option linter.unusedVariables false
set_option linter.unusedSectionVars false
@[go_sem] def c77 : SC J := .sq [0, 1] (.reg [.p (.as 4 (.const (.bool false)))])
 (.sq [0, 1] (.sq [0, 1, 10] (.reg [.p (.mv 6 (.tmp 0)), .p (.ln 7 25 (.tmp 6)), .p (.mv 8 (.tmp 1)), .p (.ln 9 25 (.tmp 8)), .p (.bn 10 .neq 3 (.tmp 7) (.tmp 9) 3)])
   (.cond (.tmp 10)
    (.sq [4] (.reg [.p (.as 4 (.const (.bool false)))])
     (.ret))
    (.skip)))
  (.sq [] (.sq [0, 1, 5] (.reg [.p (.as 5 (.const (.int .i64 0)))])
    (.block 0 (.lp [0, 1, 5] (.sq [0, 1, 5] (.sq [0, 1, 5, 14] (.reg [.p (.mv 11 (.tmp 5)), .p (.mv 12 (.tmp 0)), .p (.ln 13 25 (.tmp 12)), .p (.bn 14 .lss 3 (.tmp 11) (.tmp 13) 3)])
        (.cond (.tmp 14)
         (.skip)
         (.exit 0)))
       (.sq [0, 1, 5] (.block 1 (.sq [0, 1, 5, 25] (.dr (.pu 0 (.pu 1 (.pu 2 (.pu 3 (.pu 4 (.pu 5 (.pu 6 (.pu 7 (.pu 8 (.nil)))))))))) [[], [], [0, 1], [0, 1, 2], [], [], [4, 5], [4, 5, 6], [0, 1, 2, 3, 4, 5, 6, 7]] [.p (.mv 17 (.tmp 0)), .p (.mv 18 (.tmp 5)), .p (.ia 19 25 (.tmp 17) (.tmp 18)), .p (.ld 20 24 (.tmp 19)), .p (.mv 21 (.tmp 1)), .p (.mv 22 (.tmp 5)), .p (.ia 23 25 (.tmp 21) (.tmp 22)), .p (.ld 24 24 (.tmp 23)), .p (.bn 25 .neq 24 (.tmp 20) (.tmp 24) 24)] [[], [], [0, 1], [2], [], [], [4, 5], [6], [3, 7]])
          (.cond (.tmp 25)
           (.sq [4] (.reg [.p (.as 4 (.const (.bool false)))])
            (.ret))
           (.skip))))
        (.reg [.p (.mv 15 (.tmp 5)), .p (.bn 16 .add 3 (.tmp 15) (.const (.int .i64 1)) 3), .p (.as 5 (.tmp 16))]))))))
   (.sq [4] (.reg [.p (.as 4 (.const (.bool true)))])
    (.ret))))
theorem b77 : BodyOK Try.prog 77 c77 26 [.tmp 4] := ⟨Try.f77, by kernel_rfl, by kernel_rfl, by kernel_rfl, by kernel_rfl, by kernel_rfl⟩
set_option maxRecDepth 100000 in
@[go_sem] theorem k77_0 : chkT (.pu 0 (.pu 1 (.pu 2 (.pu 3 (.pu 4 (.pu 5 (.pu 6 (.pu 7 (.pu 8 (.nil)))))))))) [[], [], [0, 1], [0, 1, 2], [], [], [4, 5], [4, 5, 6], [0, 1, 2, 3, 4, 5, 6, 7]] (soI [.p (.mv 17 (.tmp 0)), .p (.mv 18 (.tmp 5)), .p (.ia 19 25 (.tmp 17) (.tmp 18)), .p (.ld 20 24 (.tmp 19)), .p (.mv 21 (.tmp 1)), .p (.mv 22 (.tmp 5)), .p (.ia 23 25 (.tmp 21) (.tmp 22)), .p (.ld 24 24 (.tmp 23)), .p (.bn 25 .neq 24 (.tmp 20) (.tmp 24) 24)]) [[], [], [0, 1], [2], [], [], [4, 5], [6], [3, 7]] = true := by kernel_rfl

@[go_sem] def c78 : SC J := .sq [0, 1] (.reg [.p (.as 4 (.const (.bool false)))])
 (.sq [0, 1] (.sq [0, 1, 10] (.reg [.p (.mv 6 (.tmp 0)), .p (.ln 7 26 (.tmp 6)), .p (.mv 8 (.tmp 1)), .p (.ln 9 26 (.tmp 8)), .p (.bn 10 .neq 3 (.tmp 7) (.tmp 9) 3)])
   (.cond (.tmp 10)
    (.sq [4] (.reg [.p (.as 4 (.const (.bool false)))])
     (.ret))
    (.skip)))
  (.sq [] (.sq [0, 1, 5] (.reg [.p (.as 5 (.const (.int .i64 0)))])
    (.block 0 (.lp [0, 1, 5] (.sq [0, 1, 5] (.sq [0, 1, 5, 14] (.reg [.p (.mv 11 (.tmp 5)), .p (.mv 12 (.tmp 0)), .p (.ln 13 26 (.tmp 12)), .p (.bn 14 .lss 3 (.tmp 11) (.tmp 13) 3)])
        (.cond (.tmp 14)
         (.skip)
         (.exit 0)))
       (.sq [0, 1, 5] (.block 1 (.sq [0, 1, 5, 25] (.dr (.pu 0 (.pu 1 (.pu 2 (.pu 3 (.pu 4 (.pu 5 (.pu 6 (.pu 7 (.pu 8 (.nil)))))))))) [[], [], [0, 1], [0, 1, 2], [], [], [4, 5], [4, 5, 6], [0, 1, 2, 3, 4, 5, 6, 7]] [.p (.mv 17 (.tmp 0)), .p (.mv 18 (.tmp 5)), .p (.ia 19 26 (.tmp 17) (.tmp 18)), .p (.ld 20 9 (.tmp 19)), .p (.mv 21 (.tmp 1)), .p (.mv 22 (.tmp 5)), .p (.ia 23 26 (.tmp 21) (.tmp 22)), .p (.ld 24 9 (.tmp 23)), .p (.bn 25 .neq 9 (.tmp 20) (.tmp 24) 9)] [[], [], [0, 1], [2], [], [], [4, 5], [6], [3, 7]])
          (.cond (.tmp 25)
           (.sq [4] (.reg [.p (.as 4 (.const (.bool false)))])
            (.ret))
           (.skip))))
        (.reg [.p (.mv 15 (.tmp 5)), .p (.bn 16 .add 3 (.tmp 15) (.const (.int .i64 1)) 3), .p (.as 5 (.tmp 16))]))))))
   (.sq [4] (.reg [.p (.as 4 (.const (.bool true)))])
    (.ret))))
theorem b78 : BodyOK Try.prog 78 c78 26 [.tmp 4] := ⟨Try.f78, by kernel_rfl, by kernel_rfl, by kernel_rfl, by kernel_rfl, by kernel_rfl⟩
set_option maxRecDepth 100000 in
@[go_sem] theorem k78_0 : chkT (.pu 0 (.pu 1 (.pu 2 (.pu 3 (.pu 4 (.pu 5 (.pu 6 (.pu 7 (.pu 8 (.nil)))))))))) [[], [], [0, 1], [0, 1, 2], [], [], [4, 5], [4, 5, 6], [0, 1, 2, 3, 4, 5, 6, 7]] (soI [.p (.mv 17 (.tmp 0)), .p (.mv 18 (.tmp 5)), .p (.ia 19 26 (.tmp 17) (.tmp 18)), .p (.ld 20 9 (.tmp 19)), .p (.mv 21 (.tmp 1)), .p (.mv 22 (.tmp 5)), .p (.ia 23 26 (.tmp 21) (.tmp 22)), .p (.ld 24 9 (.tmp 23)), .p (.bn 25 .neq 9 (.tmp 20) (.tmp 24) 9)]) [[], [], [0, 1], [2], [], [], [4, 5], [6], [3, 7]] = true := by kernel_rfl

@[go_sem] def c21 : SC J := .sq [2, 3] (.reg [.p (.bx 2 28 (.tmp 0)), .p (.bx 3 28 (.tmp 1)), .p (.as 4 (.const (.bool false)))])
 (.sq [4] (.reg [.p (.fa 5 28 (.tmp 2) 0), .p (.ld 6 3 (.tmp 5)), .p (.fa 7 28 (.tmp 3) 0), .p (.ld 8 3 (.tmp 7)), .p (.bn 9 .eql 3 (.tmp 6) (.tmp 8) 3), .p (.mv 10 (.tmp 9)), .g 10 true (.fa 11 28 (.tmp 2) 1), .g 10 true (.ld 12 3 (.tmp 11)), .g 10 true (.fa 13 28 (.tmp 3) 1), .g 10 true (.ld 14 3 (.tmp 13)), .g 10 true (.bn 15 .eql 3 (.tmp 12) (.tmp 14) 3), .p (.pk 16 (.tmp 10) (.tmp 15) (.const (.bool false))), .p (.mv 17 (.tmp 16)), .g 17 true (.fa 18 28 (.tmp 2) 2), .g 17 true (.ld 19 3 (.tmp 18)), .g 17 true (.fa 20 28 (.tmp 3) 2), .g 17 true (.ld 21 3 (.tmp 20)), .g 17 true (.bn 22 .eql 3 (.tmp 19) (.tmp 21) 3), .p (.pk 23 (.tmp 17) (.tmp 22) (.const (.bool false))), .p (.mv 24 (.tmp 23)), .g 24 true (.fa 25 28 (.tmp 2) 3), .g 24 true (.ld 26 3 (.tmp 25)), .g 24 true (.fa 27 28 (.tmp 3) 3), .g 24 true (.ld 28 3 (.tmp 27)), .g 24 true (.bn 29 .eql 3 (.tmp 26) (.tmp 28) 3), .p (.pk 30 (.tmp 24) (.tmp 29) (.const (.bool false))), .p (.mv 31 (.tmp 30)), .g 31 true (.fa 32 28 (.tmp 2) 4), .g 31 true (.ld 33 24 (.tmp 32)), .g 31 true (.fa 34 28 (.tmp 3) 4), .g 31 true (.ld 35 24 (.tmp 34)), .g 31 true (.bn 36 .eql 24 (.tmp 33) (.tmp 35) 24), .p (.pk 37 (.tmp 31) (.tmp 36) (.const (.bool false))), .p (.mv 38 (.tmp 37)), .g 38 true (.fa 39 28 (.tmp 2) 5), .g 38 true (.ld 40 3 (.tmp 39)), .g 38 true (.fa 41 28 (.tmp 3) 5), .g 38 true (.ld 42 3 (.tmp 41)), .g 38 true (.bn 43 .eql 3 (.tmp 40) (.tmp 42) 3), .p (.pk 44 (.tmp 38) (.tmp 43) (.const (.bool false))), .p (.mv 45 (.tmp 44)), .g 45 true (.fa 46 28 (.tmp 2) 6), .g 45 true (.ld 47 25 (.tmp 46)), .g 45 true (.fa 48 28 (.tmp 3) 6), .g 45 true (.ld 49 25 (.tmp 48)), .g 45 true (.cl (some 50) 77 [.tmp 47, .tmp 49] [25, 25]), .p (.pk 51 (.tmp 45) (.tmp 50) (.const (.bool false))), .p (.mv 52 (.tmp 51)), .g 52 true (.fa 53 28 (.tmp 2) 7), .g 52 true (.ld 54 26 (.tmp 53)), .g 52 true (.fa 55 28 (.tmp 3) 7), .g 52 true (.ld 56 26 (.tmp 55)), .g 52 true (.cl (some 57) 78 [.tmp 54, .tmp 56] [26, 26]), .p (.pk 58 (.tmp 52) (.tmp 57) (.const (.bool false))), .p (.as 4 (.tmp 58))])
  (.ret))
theorem b21 : BodyOK Try.prog 21 c21 59 [.tmp 4] := ⟨Try.f21, by kernel_rfl, by kernel_rfl, by kernel_rfl, by kernel_rfl, by kernel_rfl⟩

@[go_sem] def c22 : SC J := .sq [0, 1] (.reg [.p (.as 4 (.const (.int .u8 0)))])
 (.sq [0, 1] (.sq [0, 1, 7] (.reg [.p (.mv 5 (.tmp 0)), .p (.ln 6 37 (.tmp 5)), .p (.bn 7 .eql 3 (.tmp 6) (.const (.int .i64 0)) 3)])
   (.cond (.tmp 7)
    (.sq [4] (.reg [.p (.mv 8 (.tmp 1)), .p (.bn 9 .mul 3 (.tmp 8) (.const (.int .i64 37)) 3), .p (.cv 10 3 5 (.tmp 9)), .p (.as 4 (.tmp 10))])
     (.ret))
    (.skip)))
  (.sq [0, 1] (.sq [0, 1, 14] (.reg [.p (.mv 11 (.tmp 1)), .p (.mv 12 (.tmp 0)), .p (.ln 13 37 (.tmp 12)), .p (.bn 14 .lss 3 (.tmp 11) (.tmp 13) 3)])
    (.cond (.tmp 14)
     (.sq [4] (.reg [.p (.mv 15 (.tmp 0)), .p (.mv 16 (.tmp 1)), .p (.ia 17 37 (.tmp 15) (.tmp 16)), .p (.ld 18 5 (.tmp 17)), .p (.as 4 (.tmp 18))])
      (.ret))
     (.skip)))
   (.sq [4] (.dr (.pu 0 (.pu 1 (.pu 2 (.pu 3 (.pu 4 (.pu 5 (.pu 6 (.pu 7 (.pu 8 (.pu 9 (.pu 10 (.pu 11 (.pu 12 (.pu 13 (.pu 14 (.pu 15 (.pu 16 (.pu 17 (.pu 18 (.pu 19 (.pu 20 (.pu 21 (.nil))))))))))))))))))))))) [[], [], [], [2], [1, 2, 3], [0, 1, 2, 3, 4], [0, 1, 2, 3, 4, 5], [0, 1, 2, 3, 4, 5, 6], [], [], [9], [9, 10], [], [12], [9, 10, 11, 12, 13], [8, 9, 10, 11, 12, 13, 14], [8, 9, 10, 11, 12, 13, 14, 15], [0, 1, 2, 3, 4, 5, 6, 7, 8, 9, 10, 11, 12, 13, 14, 15, 16], [], [18], [0, 1, 2, 3, 4, 5, 6, 7, 8, 9, 10, 11, 12, 13, 14, 15, 16, 17, 18, 19], [0, 1, 2, 3, 4, 5, 6, 7, 8, 9, 10, 11, 12, 13, 14, 15, 16, 17, 18, 19, 20]] [.p (.mv 19 (.tmp 0)), .p (.mv 20 (.tmp 1)), .p (.mv 21 (.tmp 0)), .p (.ln 22 37 (.tmp 21)), .p (.bn 23 .rem 3 (.tmp 20) (.tmp 22) 3), .p (.ia 24 37 (.tmp 19) (.tmp 23)), .p (.ld 25 5 (.tmp 24)), .p (.bn 26 .mul 5 (.tmp 25) (.const (.int .u8 31)) 5), .p (.mv 27 (.tmp 0)), .p (.mv 28 (.tmp 1)), .p (.bn 29 .mul 3 (.tmp 28) (.const (.int .i64 5)) 3), .p (.bn 30 .add 3 (.tmp 29) (.const (.int .i64 1)) 3), .p (.mv 31 (.tmp 0)), .p (.ln 32 37 (.tmp 31)), .p (.bn 33 .rem 3 (.tmp 30) (.tmp 32) 3), .p (.ia 34 37 (.tmp 27) (.tmp 33)), .p (.ld 35 5 (.tmp 34)), .p (.bn 36 .add 5 (.tmp 26) (.tmp 35) 5), .p (.mv 37 (.tmp 1)), .p (.cv 38 3 5 (.tmp 37)), .p (.bn 39 .add 5 (.tmp 36) (.tmp 38) 5), .p (.as 4 (.tmp 39))] [[], [], [], [2], [1, 3], [0, 4], [5], [6], [], [], [9], [10], [], [12], [11, 13], [8, 14], [15], [7, 16], [], [18], [17, 19], [20, 0, 1, 2, 3, 4, 5, 6, 7, 8, 9, 10, 11, 12, 13, 14, 15, 16, 17, 18, 19, 20]])
    (.ret))))
theorem b22 : BodyOK Try.prog 22 c22 40 [.tmp 4] := ⟨Try.f22, by kernel_rfl, by kernel_rfl, by kernel_rfl, by kernel_rfl, by kernel_rfl⟩
set_option maxRecDepth 100000 in
@[go_sem] theorem k22_0 : chkT (.pu 0 (.pu 1 (.pu 2 (.pu 3 (.pu 4 (.pu 5 (.pu 6 (.pu 7 (.pu 8 (.pu 9 (.pu 10 (.pu 11 (.pu 12 (.pu 13 (.pu 14 (.pu 15 (.pu 16 (.pu 17 (.pu 18 (.pu 19 (.pu 20 (.pu 21 (.nil))))))))))))))))))))))) [[], [], [], [2], [1, 2, 3], [0, 1, 2, 3, 4], [0, 1, 2, 3, 4, 5], [0, 1, 2, 3, 4, 5, 6], [], [], [9], [9, 10], [], [12], [9, 10, 11, 12, 13], [8, 9, 10, 11, 12, 13, 14], [8, 9, 10, 11, 12, 13, 14, 15], [0, 1, 2, 3, 4, 5, 6, 7, 8, 9, 10, 11, 12, 13, 14, 15, 16], [], [18], [0, 1, 2, 3, 4, 5, 6, 7, 8, 9, 10, 11, 12, 13, 14, 15, 16, 17, 18, 19], [0, 1, 2, 3, 4, 5, 6, 7, 8, 9, 10, 11, 12, 13, 14, 15, 16, 17, 18, 19, 20]] (soI [.p (.mv 19 (.tmp 0)), .p (.mv 20 (.tmp 1)), .p (.mv 21 (.tmp 0)), .p (.ln 22 37 (.tmp 21)), .p (.bn 23 .rem 3 (.tmp 20) (.tmp 22) 3), .p (.ia 24 37 (.tmp 19) (.tmp 23)), .p (.ld 25 5 (.tmp 24)), .p (.bn 26 .mul 5 (.tmp 25) (.const (.int .u8 31)) 5), .p (.mv 27 (.tmp 0)), .p (.mv 28 (.tmp 1)), .p (.bn 29 .mul 3 (.tmp 28) (.const (.int .i64 5)) 3), .p (.bn 30 .add 3 (.tmp 29) (.const (.int .i64 1)) 3), .p (.mv 31 (.tmp 0)), .p (.ln 32 37 (.tmp 31)), .p (.bn 33 .rem 3 (.tmp 30) (.tmp 32) 3), .p (.ia 34 37 (.tmp 27) (.tmp 33)), .p (.ld 35 5 (.tmp 34)), .p (.bn 36 .add 5 (.tmp 26) (.tmp 35) 5), .p (.mv 37 (.tmp 1)), .p (.cv 38 3 5 (.tmp 37)), .p (.bn 39 .add 5 (.tmp 36) (.tmp 38) 5), .p (.as 4 (.tmp 39))]) [[], [], [], [2], [1, 3], [0, 4], [5], [6], [], [], [9], [10], [], [12], [11, 13], [8, 14], [15], [7, 16], [], [18], [17, 19], [20, 0, 1, 2, 3, 4, 5, 6, 7, 8, 9, 10, 11, 12, 13, 14, 15, 16, 17, 18, 19, 20]] = true := by kernel_rfl

@[go_sem] def c4 : SC J := .sq [0] (.reg [.p (.as 2 (.const (.bool false)))])
 (.sq [0] (.sq [0, 14] (.reg [.p (.mv 12 (.tmp 0)), .p (.ln 13 37 (.tmp 12)), .p (.bn 14 .gtr 3 (.tmp 13) (.const (.int .i64 1048576)) 3)])
   (.cond (.tmp 14)
    (.sq [2] (.reg [.p (.as 2 (.const (.bool true)))])
     (.ret))
    (.skip)))
  (.sq [0, 3] (.reg [.p (.mv 15 (.tmp 0)), .p (.cm (some 16) 17 [false] [.tmp 15] [37]), .p (.al 3 28), .p (.st 28 (.tmp 3) (.tmp 16))])
   (.sq [0, 3, 4] (.reg [.p (.ld 17 28 (.tmp 3)), .p (.cl (some 18) 18 [.tmp 17] [28]), .p (.as 4 (.tmp 18))])
    (.sq [0, 3, 4] (.sq [0, 3, 4, 21] (.reg [.p (.ld 19 28 (.tmp 3)), .p (.cl (some 20) 19 [.tmp 19] [28]), .p (.un 21 .not 4 (.tmp 20))])
      (.cond (.tmp 21)
       (.sq [2] (.reg [.p (.mv 22 (.tmp 4)), .p (.bn 23 .eql 9 (.tmp 22) (.const (.string { data := #[] })) 9), .p (.mv 24 (.tmp 23)), .g 24 true (.ld 25 28 (.tmp 3)), .g 24 true (.cl (some 26) 20 [.tmp 25] [28]), .g 24 true (.un 27 .not 4 (.tmp 26)), .p (.pk 28 (.tmp 24) (.tmp 27) (.const (.bool false))), .p (.as 2 (.tmp 28))])
        (.ret))
       (.skip)))
     (.sq [0, 3, 4, 5, 6] (.reg [.p (.mv 30 (.tmp 4)), .p (.cm (some 31) 12 [false] [.tmp 30] [9]), .p (.mv 29 (.tmp 31)), .p (.ex 32 (.tmp 29) 0), .p (.ex 33 (.tmp 29) 1), .p (.al 5 28), .p (.al 6 30), .p (.st 28 (.tmp 5) (.tmp 32)), .p (.st 30 (.tmp 6) (.tmp 33))])
      (.sq [0, 4] (.sq [0, 4, 57] (.reg [.p (.ld 34 28 (.tmp 3)), .p (.cl (some 35) 20 [.tmp 34] [28]), .p (.un 36 .not 4 (.tmp 35)), .p (.mv 37 (.tmp 36)), .g 37 false (.mv 38 (.tmp 4)), .g 37 false (.ln 39 9 (.tmp 38)), .g 37 false (.bn 40 .eql 3 (.tmp 39) (.const (.int .i64 0)) 3), .p (.pk 41 (.tmp 37) (.const (.bool true)) (.tmp 40)), .p (.mv 42 (.tmp 41)), .g 42 false (.mv 43 (.tmp 4)), .g 42 false (.ln 44 9 (.tmp 43)), .g 42 false (.bn 45 .gtr 3 (.tmp 44) (.const (.int .i64 600)) 3), .p (.pk 46 (.tmp 42) (.const (.bool true)) (.tmp 45)), .p (.mv 47 (.tmp 46)), .g 47 false (.ld 48 30 (.tmp 6)), .g 47 false (.bd 49 30 []), .g 47 false (.bn 50 .neq 30 (.tmp 48) (.tmp 49) 30), .p (.pk 51 (.tmp 47) (.const (.bool true)) (.tmp 50)), .p (.mv 52 (.tmp 51)), .g 52 false (.ld 53 28 (.tmp 5)), .g 52 false (.ld 54 28 (.tmp 3)), .g 52 false (.cl (some 55) 21 [.tmp 53, .tmp 54] [28, 28]), .g 52 false (.un 56 .not 4 (.tmp 55)), .p (.pk 57 (.tmp 52) (.const (.bool true)) (.tmp 56))])
        (.cond (.tmp 57)
         (.sq [2] (.reg [.p (.as 2 (.const (.bool false)))])
          (.ret))
         (.skip)))
       (.sq [4, 7] (.reg [.p (.mv 58 (.tmp 0)), .p (.cl (some 59) 22 [.tmp 58, .const (.int .i64 2)] [37, 3]), .p (.cv 60 5 3 (.tmp 59)), .p (.mv 61 (.tmp 4)), .p (.ln 62 9 (.tmp 61)), .p (.bn 63 .rem 3 (.tmp 60) (.tmp 62) 3), .p (.as 7 (.tmp 63))])
        (.sq [4, 7, 9] (.reg [.p (.mv 65 (.tmp 4)), .p (.mv 66 (.tmp 7)), .p (.sl 67 9 (.tmp 65) none (some (.tmp 66)) none), .p (.cm (some 68) 12 [false] [.tmp 67] [9]), .p (.mv 64 (.tmp 68)), .p (.ex 69 (.tmp 64) 0), .p (.ex 70 (.tmp 64) 1), .p (.al 8 28), .p (.al 9 30), .p (.st 28 (.tmp 8) (.tmp 69)), .p (.st 30 (.tmp 9) (.tmp 70))])
         (.sq [4, 7, 9, 11] (.reg [.p (.mv 72 (.tmp 4)), .p (.bn 73 .add 9 (.tmp 72) (.const (.string { data := #[120] })) 9), .p (.cm (some 74) 12 [false] [.tmp 73] [9]), .p (.mv 71 (.tmp 74)), .p (.ex 75 (.tmp 71) 0), .p (.ex 76 (.tmp 71) 1), .p (.al 10 28), .p (.al 11 30), .p (.st 28 (.tmp 10) (.tmp 75)), .p (.st 30 (.tmp 11) (.tmp 76))])
          (.sq [2] (.reg [.p (.ld 77 30 (.tmp 9)), .p (.mv 78 (.tmp 7)), .p (.bd 79 30 [(0, .const (.int .i64 2)), (1, .tmp 78)]), .p (.bn 80 .eql 30 (.tmp 77) (.tmp 79) 30), .p (.mv 81 (.tmp 80)), .g 81 true (.ld 82 30 (.tmp 11)), .g 81 true (.mv 83 (.tmp 4)), .g 81 true (.ln 84 9 (.tmp 83)), .g 81 true (.bd 85 30 [(0, .const (.int .i64 4)), (1, .tmp 84)]), .g 81 true (.bn 86 .eql 30 (.tmp 82) (.tmp 85) 30), .p (.pk 87 (.tmp 81) (.tmp 86) (.const (.bool false))), .p (.as 2 (.tmp 87))])
           (.ret)))))))))))
theorem b4 : BodyOK Try.prog 4 c4 88 [.tmp 2] := ⟨Try.f4, by kernel_rfl, by kernel_rfl, by kernel_rfl, by kernel_rfl, by kernel_rfl⟩

theorem c77_c (l : List MDig) (hl : l.length ≤ maxLen) : CallR Try.prog 77 [.ro 4 (l.map MDig.cs), .ro 4 (l.map MDig.cs)] (vB true) [] := by
  refine callR_of_jv b77 rfl ?_
  simp -implicitDefEqProofs only [go_sem, Nat.reduceBEq, Nat.reduceAdd, Nat.reduceSub, Nat.reduceMul, Nat.reduceMod, Nat.reduceDiv, Nat.reduceLT, Nat.reduceLeDiff, Int.reduceEq, Int.reduceLT, Int.reduceLE, Int.reduceToNat, Int.reduceBNe, Int.reduceBEq, reduceCtorEq, bne_self_eq_false, condJ_false]
  refine jv_lp (fun m s => ∃ (i : Nat), i ≤ l.length ∧ m = l.length - i ∧ s = ⟨26, [(0, .ro 4 (l.map MDig.cs)), (1, .ro 4 (l.map MDig.cs)), (5, vI i)], [], 1⟩) l.length ?_ ?_
  · simp -implicitDefEqProofs only [go_sem, Nat.reduceBEq, Nat.reduceAdd, Nat.reduceSub, Nat.reduceMul, Nat.reduceMod, Nat.reduceDiv, Nat.reduceLT, Nat.reduceLeDiff, Int.reduceEq, Int.reduceLT, Int.reduceLE, Int.reduceToNat, Int.reduceBNe, Int.reduceBEq, reduceCtorEq]
    exact ⟨0, Nat.zero_le _, rfl, rfl⟩
  · rintro m s ⟨i, hi, rfl, rfl⟩
    rcases Nat.lt_or_ge i l.length with hlt | hge
    · have hlt' : (i : Int) < (l.length : Int) := by omega
      have hg : l[i]? = some l[i] := List.getElem?_eq_getElem hlt
      have hw := wrap_succ hlt hl
      simp -implicitDefEqProofs only [go_sem, Nat.reduceBEq, Nat.reduceAdd, Nat.reduceSub, Nat.reduceMul, Nat.reduceMod, Nat.reduceDiv, Nat.reduceLT, Nat.reduceLeDiff, Int.reduceEq, Int.reduceLT, Int.reduceLE, Int.reduceToNat, Int.reduceBNe, Int.reduceBEq, reduceCtorEq, hlt', hg, hw, bne_self_eq_false, condJ_false]
      exact ⟨_, by omega, i + 1, hlt, rfl, rfl⟩
    · have hi : i = l.length := by omega
      subst hi
      have hlt' : ¬ ((l.length : Int) < (l.length : Int)) := by omega
      simp -implicitDefEqProofs only [go_sem, Nat.reduceBEq, Nat.reduceAdd, Nat.reduceSub, Nat.reduceMul, Nat.reduceMod, Nat.reduceDiv, Nat.reduceLT, Nat.reduceLeDiff, Int.reduceEq, Int.reduceLT, Int.reduceLE, Int.reduceToNat, Int.reduceBNe, Int.reduceBEq, reduceCtorEq, hlt']
theorem c78_c (l : List ByteArray) (hl : l.length ≤ maxLen) : CallR Try.prog 78 [.ro 1 (l.map leafCs), .ro 1 (l.map leafCs)] (vB true) [] := by
  refine callR_of_jv b78 rfl ?_
  simp -implicitDefEqProofs only [go_sem, Nat.reduceBEq, Nat.reduceAdd, Nat.reduceSub, Nat.reduceMul, Nat.reduceMod, Nat.reduceDiv, Nat.reduceLT, Nat.reduceLeDiff, Int.reduceEq, Int.reduceLT, Int.reduceLE, Int.reduceToNat, Int.reduceBNe, Int.reduceBEq, reduceCtorEq, bne_self_eq_false, condJ_false]
  refine jv_lp (fun m s => ∃ (i : Nat), i ≤ l.length ∧ m = l.length - i ∧ s = ⟨26, [(0, .ro 1 (l.map leafCs)), (1, .ro 1 (l.map leafCs)), (5, vI i)], [], 1⟩) l.length ?_ ?_
  · simp -implicitDefEqProofs only [go_sem, Nat.reduceBEq, Nat.reduceAdd, Nat.reduceSub, Nat.reduceMul, Nat.reduceMod, Nat.reduceDiv, Nat.reduceLT, Nat.reduceLeDiff, Int.reduceEq, Int.reduceLT, Int.reduceLE, Int.reduceToNat, Int.reduceBNe, Int.reduceBEq, reduceCtorEq]
    exact ⟨0, Nat.zero_le _, rfl, rfl⟩
  · rintro m s ⟨i, hi, rfl, rfl⟩
    rcases Nat.lt_or_ge i l.length with hlt | hge
    · have hlt' : (i : Int) < (l.length : Int) := by omega
      have hg : l[i]? = some l[i] := List.getElem?_eq_getElem hlt
      have hw := wrap_succ hlt hl
      simp -implicitDefEqProofs only [go_sem, Nat.reduceBEq, Nat.reduceAdd, Nat.reduceSub, Nat.reduceMul, Nat.reduceMod, Nat.reduceDiv, Nat.reduceLT, Nat.reduceLeDiff, Int.reduceEq, Int.reduceLT, Int.reduceLE, Int.reduceToNat, Int.reduceBNe, Int.reduceBEq, reduceCtorEq, hlt', hg, hw, bne_self_eq_false, condJ_false]
      exact ⟨_, by omega, i + 1, hlt, rfl, rfl⟩
    · have hi : i = l.length := by omega
      subst hi
      have hlt' : ¬ ((l.length : Int) < (l.length : Int)) := by omega
      simp -implicitDefEqProofs only [go_sem, Nat.reduceBEq, Nat.reduceAdd, Nat.reduceSub, Nat.reduceMul, Nat.reduceMod, Nat.reduceDiv, Nat.reduceLT, Nat.reduceLeDiff, Int.reduceEq, Int.reduceLT, Int.reduceLE, Int.reduceToNat, Int.reduceBNe, Int.reduceBEq, reduceCtorEq, hlt']
theorem c21_c (m : MMsg) (hp : m.proof.length ≤ maxLen) (hl : m.leaves.length ≤ maxLen) : CallR Try.prog 21 [m.ro, m.ro] (vB true) [] := by
  refine callR_of_jv b21 rfl ?_
  simp -implicitDefEqProofs only [go_sem, Nat.reduceBEq, Nat.reduceAdd, Nat.reduceSub, Nat.reduceMul, Nat.reduceMod, Nat.reduceDiv, Nat.reduceLT, Nat.reduceLeDiff, Int.reduceEq, Int.reduceLT, Int.reduceLE, Int.reduceToNat, Int.reduceBNe, Int.reduceBEq, reduceCtorEq]
  refine Want.intro (c77_c m.proof hp) ?_
  simp -implicitDefEqProofs only [go_sem, Nat.reduceBEq, Nat.reduceAdd, Nat.reduceSub, Nat.reduceMul, Nat.reduceMod, Nat.reduceDiv, Nat.reduceLT, Nat.reduceLeDiff, Int.reduceEq, Int.reduceLT, Int.reduceLE, Int.reduceToNat, Int.reduceBNe, Int.reduceBEq, reduceCtorEq]
  refine Want.intro (c78_c m.leaves hl) ?_
  simp -implicitDefEqProofs only [go_sem, Nat.reduceBEq, Nat.reduceAdd, Nat.reduceSub, Nat.reduceMul, Nat.reduceMod, Nat.reduceDiv, Nat.reduceLT, Nat.reduceLeDiff, Int.reduceEq, Int.reduceLT, Int.reduceLE, Int.reduceToNat, Int.reduceBNe, Int.reduceBEq, reduceCtorEq]
theorem at_c (l : List UInt8) (i : Nat) (hl : l.length ≤ maxLen) (hi : i ≤ 1000) : ∃ v : Nat, v < 256 ∧ CallR Try.prog 22 [.ro 1 (l.map byteC), vI i] (.sc (.int .u8 (v : Int))) [] := by
  unfold maxLen at hl
  by_cases h0 : l.length = 0
  · have e0 : ((l.length : Int) == 0) = true := by rw [h0]; rfl
    refine ⟨_, Nat.mod_lt (i * 37) (by omega), ?_⟩
    refine callR_of_jv b22 rfl ?_
    have w1 : IntKind.i64.wrap ((i : Int) * 37) = ((i * 37 : Nat) : Int) := by rw [wrS (by omega)]; omega
    simp -implicitDefEqProofs only [go_sem, Nat.reduceBEq, Nat.reduceAdd, Nat.reduceSub, Nat.reduceMul, Nat.reduceMod, Nat.reduceDiv, Nat.reduceLT, Nat.reduceLeDiff, Int.reduceEq, Int.reduceLT, Int.reduceLE, Int.reduceToNat, Int.reduceBNe, Int.reduceBEq, reduceCtorEq, e0, w1, u8_mod, condJ_true]
  · have e0 : ((l.length : Int) == 0) = false := by rw [beq_eq_false_iff_ne]; omega
    by_cases h1 : i < l.length
    · have h1' : (i : Int) < (l.length : Int) := by omega
      have hg := byte_get h1
      refine ⟨_, bL_lt l i, ?_⟩
      refine callR_of_jv b22 rfl ?_
      simp -implicitDefEqProofs only [go_sem, Nat.reduceBEq, Nat.reduceAdd, Nat.reduceSub, Nat.reduceMul, Nat.reduceMod, Nat.reduceDiv, Nat.reduceLT, Nat.reduceLeDiff, Int.reduceEq, Int.reduceLT, Int.reduceLE, Int.reduceToNat, Int.reduceBNe, Int.reduceBEq, reduceCtorEq, e0, h1', hg, condJ_true, condJ_false]
    · have h1' : ¬ (i : Int) < (l.length : Int) := by omega
      have hL : 0 < l.length := by omega
      have h5 : ¬ ((l.length : Int) = 0) := by omega
      have e1 : (i : Int).tmod (l.length : Int) = ((i % l.length : Nat) : Int) := by rw [Int.tmod_eq_emod_of_nonneg (by omega)]; rfl
      have e2 : IntKind.i64.wrap ((i : Int) * 5) = ((i * 5 : Nat) : Int) := by rw [wrS (by omega)]; omega
      have e3 : IntKind.i64.wrap (((i * 5 : Nat) : Int) + 1) = ((i * 5 + 1 : Nat) : Int) := by rw [wrS (by omega)]; omega
      have e4 : ((i * 5 + 1 : Nat) : Int).tmod (l.length : Int) = (((i * 5 + 1) % l.length : Nat) : Int) := by rw [Int.tmod_eq_emod_of_nonneg (by omega)]; rfl
      have l1 : i % l.length < l.length := Nat.mod_lt _ hL
      have l2 : (i * 5 + 1) % l.length < l.length := Nat.mod_lt _ hL
      have g1 := byte_get l1
      have g2 := byte_get l2
      have l1' : ((i % l.length : Nat) : Int) < (l.length : Int) := by omega
      have l2' : (((i * 5 + 1) % l.length : Nat) : Int) < (l.length : Int) := by omega
      have f1 : IntKind.u8.wrap ((bL l (i % l.length) : Int) * 31) = ((bL l (i % l.length) * 31 % 256 : Nat) : Int) := u8_mod _
      have f2 : ∀ a b : Nat, IntKind.u8.wrap ((a : Int) + (b : Int)) = (((a + b) % 256 : Nat) : Int) := fun a b => u8_mod (a + b)
      refine ⟨_, Nat.mod_lt ((bL l (i % l.length) * 31 % 256 + bL l ((i * 5 + 1) % l.length)) % 256 + i % 256) (by omega), ?_⟩
      refine callR_of_jv b22 rfl ?_
      simp -implicitDefEqProofs only [go_sem, Nat.reduceBEq, Nat.reduceAdd, Nat.reduceSub, Nat.reduceMul, Nat.reduceMod, Nat.reduceDiv, Nat.reduceLT, Nat.reduceLeDiff, Int.reduceEq, Int.reduceLT, Int.reduceLE, Int.reduceToNat, Int.reduceBNe, Int.reduceBEq, reduceCtorEq, e0, h1', h5, e1, e2, e3, e4, g1, g2, l1', l2', f1, f2, u8_mod, condJ_true, condJ_false]
theorem c4_c (l : List UInt8) (hl : l.length ≤ maxLen) : CallR Try.prog 4 [.ro 1 (l.map byteC)] (vB true) [] := by
  refine callR_of_jv b4 rfl ?_
  simp -implicitDefEqProofs only [go_sem, Nat.reduceBEq, Nat.reduceAdd, Nat.reduceSub, Nat.reduceMul, Nat.reduceMod, Nat.reduceDiv, Nat.reduceLT, Nat.reduceLeDiff, Int.reduceEq, Int.reduceLT, Int.reduceLE, Int.reduceToNat, Int.reduceBNe, Int.reduceBEq, reduceCtorEq]
  refine condJ_intro (fun h => ?_) (fun h => ?_)
  · simp -implicitDefEqProofs only [go_sem, Nat.reduceBEq, Nat.reduceAdd, Nat.reduceSub, Nat.reduceMul, Nat.reduceMod, Nat.reduceDiv, Nat.reduceLT, Nat.reduceLeDiff, Int.reduceEq, Int.reduceLT, Int.reduceLE, Int.reduceToNat, Int.reduceBNe, Int.reduceBEq, reduceCtorEq, h]
  · simp -implicitDefEqProofs only [go_sem, Nat.reduceBEq, Nat.reduceAdd, Nat.reduceSub, Nat.reduceMul, Nat.reduceMod, Nat.reduceDiv, Nat.reduceLT, Nat.reduceLeDiff, Int.reduceEq, Int.reduceLT, Int.reduceLE, Int.reduceToNat, Int.reduceBNe, Int.reduceBEq, reduceCtorEq, h]
    obtain ⟨res, σ, ⟨m, ⟨rfl, rfl⟩, hm⟩, hc⟩ := c17_c l hl
    refine WantM.intro hc ?_
    have hp : m.proof.length ≤ maxLen := by have := hm.p; unfold maxLen; omega
    have hle : m.leaves.length ≤ maxLen := by have := hm.l; unfold maxLen; omega
    simp -implicitDefEqProofs only [go_sem, Nat.reduceBEq, Nat.reduceAdd, Nat.reduceSub, Nat.reduceMul, Nat.reduceMod, Nat.reduceDiv, Nat.reduceLT, Nat.reduceLeDiff, Int.reduceEq, Int.reduceLT, Int.reduceLE, Int.reduceToNat, Int.reduceBNe, Int.reduceBEq, reduceCtorEq]
    refine Want.intro (c18_c m hle) ?_
    simp -implicitDefEqProofs only [go_sem, Nat.reduceBEq, Nat.reduceAdd, Nat.reduceSub, Nat.reduceMul, Nat.reduceMod, Nat.reduceDiv, Nat.reduceLT, Nat.reduceLeDiff, Int.reduceEq, Int.reduceLT, Int.reduceLE, Int.reduceToNat, Int.reduceBNe, Int.reduceBEq, reduceCtorEq]
    refine Want.intro (c19_c m hle) ?_
    simp -implicitDefEqProofs only [go_sem, Nat.reduceBEq, Nat.reduceAdd, Nat.reduceSub, Nat.reduceMul, Nat.reduceMod, Nat.reduceDiv, Nat.reduceLT, Nat.reduceLeDiff, Int.reduceEq, Int.reduceLT, Int.reduceLE, Int.reduceToNat, Int.reduceBNe, Int.reduceBEq, reduceCtorEq]
    cases hok : mWireOk m with
    | false =>
      simp -implicitDefEqProofs only [go_sem, Nat.reduceBEq, Nat.reduceAdd, Nat.reduceSub, Nat.reduceMul, Nat.reduceMod, Nat.reduceDiv, Nat.reduceLT, Nat.reduceLeDiff, Int.reduceEq, Int.reduceLT, Int.reduceLE, Int.reduceToNat, Int.reduceBNe, Int.reduceBEq, reduceCtorEq, hok, mWireBytes, condJ_true]
      refine Want.intro (c20_c m hle) ?_
      simp -implicitDefEqProofs only [go_sem, Nat.reduceBEq, Nat.reduceAdd, Nat.reduceSub, Nat.reduceMul, Nat.reduceMod, Nat.reduceDiv, Nat.reduceLT, Nat.reduceLeDiff, Int.reduceEq, Int.reduceLT, Int.reduceLE, Int.reduceToNat, Int.reduceBNe, Int.reduceBEq, reduceCtorEq, hok]
    | true =>
      have hk := WOk.of hok
      have hlen := wbL_len hk
      have hrd := wire_read hok hm.r hm.d
      have hcut := fun k hk => wire_cut (k := k) hok hm.r hm.d hk
      have hmore := wire_more hok hm.r hm.d 120
      have hI := c12_c (bA (wbL m)) (by rw [bA_size]; omega)
      rw [hrd] at hI
      have hM := c12_c (bA (wbL m ++ [120])) (by rw [bA_size]; simp; omega)
      rw [hmore] at hM
      have hC : ∀ k, k < (wbL m).length → CallM Try.prog 12 [] [vS (bA ((wbL m).take k))] (.tup [MMsg.zero.avM, .agg [vI 2, vI k]]) MMsg.zero.out := by
        intro k hk
        have := c12_c (bA ((wbL m).take k)) (by rw [bA_size]; simp; omega)
        rw [hcut k hk] at this
        exact this
      generalize hT : wbL m = T at *
      simp -implicitDefEqProofs only [go_sem, Nat.reduceBEq, Nat.reduceAdd, Nat.reduceSub, Nat.reduceMul, Nat.reduceMod, Nat.reduceDiv, Nat.reduceLT, Nat.reduceLeDiff, Int.reduceEq, Int.reduceLT, Int.reduceLE, Int.reduceToNat, Int.reduceBNe, Int.reduceBEq, reduceCtorEq, hok, mWireBytes, hT, condJ_false]
      refine WantM.intro hI ?_
      simp -implicitDefEqProofs only [go_sem, Nat.reduceBEq, Nat.reduceAdd, Nat.reduceSub, Nat.reduceMul, Nat.reduceMod, Nat.reduceDiv, Nat.reduceLT, Nat.reduceLeDiff, Int.reduceEq, Int.reduceLT, Int.reduceLE, Int.reduceToNat, Int.reduceBNe, Int.reduceBEq, reduceCtorEq]
      refine Want.intro (c20_c m hle) ?_
      have n0 : ((T.length : Int) == 0) = false := by rw [beq_eq_false_iff_ne]; omega
      have n1 : ¬ ((T.length : Int) > 600) := by omega
      simp -implicitDefEqProofs only [go_sem, Nat.reduceBEq, Nat.reduceAdd, Nat.reduceSub, Nat.reduceMul, Nat.reduceMod, Nat.reduceDiv, Nat.reduceLT, Nat.reduceLeDiff, Int.reduceEq, Int.reduceLT, Int.reduceLE, Int.reduceToNat, Int.reduceBNe, Int.reduceBEq, reduceCtorEq, hok, n0, n1, guardP_ff, condJ_false, bne_self_eq_false]
      refine Want.intro (c21_c m hp hle) ?_
      obtain ⟨v, hv, hat⟩ := at_c l 2 hl (by omega)
      simp -implicitDefEqProofs only [go_sem, Nat.reduceBEq, Nat.reduceAdd, Nat.reduceSub, Nat.reduceMul, Nat.reduceMod, Nat.reduceDiv, Nat.reduceLT, Nat.reduceLeDiff, Int.reduceEq, Int.reduceLT, Int.reduceLE, Int.reduceToNat, Int.reduceBNe, Int.reduceBEq, reduceCtorEq, condJ_false]
      refine Want.intro hat ?_
      have e1 : IntKind.i64.wrap (v : Int) = (v : Int) := wrS (by omega)
      have e2 : (v : Int).tmod (T.length : Int) = ((v % T.length : Nat) : Int) := by rw [Int.tmod_eq_emod_of_nonneg (by omega)]; rfl
      have e3 : ¬ ((T.length : Int) = 0) := by omega
      have hk : v % T.length < T.length := Nat.mod_lt _ (by omega)
      generalize v % T.length = k at *
      have g1 : (k : Int) ≤ (T.length : Int) := by omega
      have g2 : (bA T).extract 0 k = bA (T.take k) := by rw [bA_extract]; simp
      have g3 : bA T ++ ⟨#[120]⟩ = bA (T ++ [120]) := bA_app T [120]
      have g4 : ¬ (((T.length + (#[120] : Array UInt8).size : Nat) : Int) > 9223372036854775807) := by simp; omega
      simp -implicitDefEqProofs only [go_sem, Nat.reduceBEq, Nat.reduceAdd, Nat.reduceSub, Nat.reduceMul, Nat.reduceMod, Nat.reduceDiv, Nat.reduceLT, Nat.reduceLeDiff, Int.reduceEq, Int.reduceLT, Int.reduceLE, Int.reduceToNat, Int.reduceBNe, Int.reduceBEq, reduceCtorEq, e1, e2, e3, g1, g2]
      refine WantM.intro (hC k hk) ?_
      simp -implicitDefEqProofs only [go_sem, Nat.reduceBEq, Nat.reduceAdd, Nat.reduceSub, Nat.reduceMul, Nat.reduceMod, Nat.reduceDiv, Nat.reduceLT, Nat.reduceLeDiff, Int.reduceEq, Int.reduceLT, Int.reduceLE, Int.reduceToNat, Int.reduceBNe, Int.reduceBEq, reduceCtorEq, g3, g4]
      refine WantM.intro hM ?_
      simp -implicitDefEqProofs only [go_sem, Nat.reduceBEq, Nat.reduceAdd, Nat.reduceSub, Nat.reduceMul, Nat.reduceMod, Nat.reduceDiv, Nat.reduceLT, Nat.reduceLeDiff, Int.reduceEq, Int.reduceLT, Int.reduceLE, Int.reduceToNat, Int.reduceBNe, Int.reduceBEq, reduceCtorEq, beq_self_eq_true, MMsg.zero]
end Go.Proofs.Ytfcfggefdifgkaa.E
