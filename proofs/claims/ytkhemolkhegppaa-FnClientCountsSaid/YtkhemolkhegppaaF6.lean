/-
  Contracts: what comes of a letter to a client, in the program.
-/
import Derived.Test.YtkhemolkhegppaaF5
import Derived.Test.YtkhemolkhegppaaF2
namespace Go.Proofs.Ytkhemolkhegppaa.E
open Go Go.RowKit
set_option maxHeartbeats 4000000
set_option maxRecDepth 10000
set_option linter.unusedSimpArgs false
set_option linter.unusedVariables false
set_option linter.unusedSectionVars false
@[go_sem] def c98 : SC J := .sq [0] (.reg [.p (.as 2 (.const (.slice none 0 0)))])
 (.sq [0] (.sq [0, 6] (.reg [.p (.mv 4 (.tmp 0)), .p (.ln 5 28 (.tmp 4)), .p (.bn 6 .eql 3 (.tmp 5) (.const (.int .i64 0)) 3)])
   (.cond (.tmp 6)
    (.sq [2] (.reg [.p (.as 2 (.const (.slice none 0 0)))])
     (.ret))
    (.skip)))
  (.sq [0, 3] (.reg [.p (.mv 7 (.tmp 0)), .p (.ln 8 28 (.tmp 7)), .p (.ms 9 28 (.tmp 8) (.tmp 8)), .p (.as 3 (.tmp 9))])
   (.sq [3] (.reg [.p (.mv 10 (.tmp 3)), .p (.mv 11 (.tmp 0)), .p (.cp (some 12) 28 28 (.tmp 10) (.tmp 11))])
    (.sq [2] (.reg [.p (.mv 13 (.tmp 3)), .p (.as 2 (.tmp 13))])
     (.ret)))))
theorem b98 : BodyOK Try.prog 98 c98 14 [.tmp 2] := ⟨Try.f98, by kernel_rfl, by kernel_rfl, by kernel_rfl, by kernel_rfl, by kernel_rfl⟩

@[go_sem] def c52 : SC J := .sq [0] (.reg [.p (.as 2 (.const (.slice none 0 0)))])
 (.sq [0] (.sq [0, 6] (.reg [.p (.mv 4 (.tmp 0)), .p (.ln 5 34 (.tmp 4)), .p (.bn 6 .eql 3 (.tmp 5) (.const (.int .i64 0)) 3)])
   (.cond (.tmp 6)
    (.sq [2] (.reg [.p (.as 2 (.const (.slice none 0 0)))])
     (.ret))
    (.skip)))
  (.sq [0, 3] (.reg [.p (.mv 7 (.tmp 0)), .p (.ln 8 34 (.tmp 7)), .p (.ms 9 34 (.tmp 8) (.tmp 8)), .p (.as 3 (.tmp 9))])
   (.sq [3] (.reg [.p (.mv 10 (.tmp 3)), .p (.mv 11 (.tmp 0)), .p (.cp (some 12) 34 34 (.tmp 10) (.tmp 11))])
    (.sq [2] (.reg [.p (.mv 13 (.tmp 3)), .p (.as 2 (.tmp 13))])
     (.ret)))))
theorem b52 : BodyOK Try.prog 52 c52 14 [.tmp 2] := ⟨Try.f52, by kernel_rfl, by kernel_rfl, by kernel_rfl, by kernel_rfl, by kernel_rfl⟩

@[go_sem] def c46 : SC J := .sq [1, 2] (.reg [.p (.bx 1 30 (.tmp 0)), .p (.al 2 30)])
 (.sq [1, 2, 3] (.reg [.p (.ld 4 30 (.tmp 1)), .p (.al 3 30), .p (.st 30 (.tmp 3) (.tmp 4))])
  (.sq [2, 3] (.reg [.p (.fa 5 30 (.tmp 1) 5), .p (.ld 6 28 (.tmp 5)), .p (.cl (some 7) 98 [.tmp 6] [28]), .p (.fa 8 30 (.tmp 3) 5), .p (.st 28 (.tmp 8) (.tmp 7))])
   (.sq [2] (.reg [.p (.ld 9 30 (.tmp 3)), .p (.st 30 (.tmp 2) (.tmp 9))])
    (.ret))))
theorem b46 : BodyOK Try.prog 46 c46 10 [.cell 2 30] := ⟨Try.f46, by kernel_rfl, by kernel_rfl, by kernel_rfl, by kernel_rfl, by kernel_rfl⟩

@[go_sem] def c50 : SC J := .sq [1, 3, 5, 6] (.reg [.p (.bx 3 38 (.tmp 0)), .p (.bx 5 27 (.tmp 2)), .p (.al 6 38)])
 (.sq [1, 3, 5, 6, 7] (.reg [.p (.fa 9 38 (.tmp 3) 0), .p (.as 7 (.tmp 9))])
  (.sq [3, 6] (.block 0 (.sq [1, 3, 5, 6, 7, 42] (.dr (.pu 0 (.pu 1 (.pu 2 (.pu 3 (.pu 4 (.pu 5 (.pu 6 (.pu 7 (.pu 8 (.pu 9 (.pu 10 (.pu 11 (.pu 12 (.pu 13 (.pu 14 (.pu 15 (.pu 16 (.pu 17 (.pu 18 (.pu 19 (.pu 20 (.pu 21 (.nil))))))))))))))))))))))) [[], [0], [0, 1], [0, 1, 2], [0, 1, 2, 3], [0, 1, 2, 3, 4], [0, 1, 2, 3], [0, 1, 2, 3, 6], [0, 1, 2, 3, 6, 7], [0, 1, 2, 3, 6, 7, 8], [0, 1, 2, 3, 6, 7, 8, 9], [0, 1, 2, 3, 4, 5, 6, 7, 8, 9, 10], [0, 1, 2, 3, 4, 5, 6, 7, 8, 9, 10, 11], [0, 1, 2, 3, 4, 5, 6, 7, 8, 9, 10, 11, 12], [0, 1, 2, 3, 4, 5, 6, 7, 8, 9, 10, 11, 12, 13], [0, 1, 2, 3, 4, 5, 6, 7, 8, 9, 10, 11, 12, 13], [0, 1, 2, 3, 4, 5, 6, 7, 8, 9, 10, 11, 12, 13, 15], [0, 1, 2, 3, 4, 5, 6, 7, 8, 9, 10, 11, 12, 13, 15, 16], [0, 1, 2, 3, 4, 5, 6, 7, 8, 9, 10, 11, 12, 13, 15, 16, 17], [0, 1, 2, 3, 4, 5, 6, 7, 8, 9, 10, 11, 12, 13, 14, 15, 16, 17, 18], [0, 1, 2, 3, 4, 5, 6, 7, 8, 9, 10, 11, 12, 13, 14, 15, 16, 17, 18, 19], [0, 1, 2, 3, 4, 5, 6, 7, 8, 9, 10, 11, 12, 13, 14, 15, 16, 17, 18, 19, 20]] [.p (.fa 43 27 (.tmp 5) 0), .p (.ld 44 3 (.tmp 43)), .p (.bn 45 .eql 3 (.tmp 44) (.const (.int .i64 0)) 3), .p (.mv 46 (.tmp 45)), .g 46 false (.fa 47 27 (.tmp 5) 0), .g 46 false (.ld 48 3 (.tmp 47)), .g 46 false (.mv 49 (.tmp 7)), .g 46 false (.nc 50 (.tmp 49)), .g 46 false (.fa 51 30 (.tmp 50) 6), .g 46 false (.fa 52 27 (.tmp 51) 0), .g 46 false (.ld 53 3 (.tmp 52)), .g 46 false (.bn 54 .lss 3 (.tmp 48) (.tmp 53) 3), .p (.pk 55 (.tmp 46) (.const (.bool true)) (.tmp 54)), .p (.mv 56 (.tmp 55)), .g 56 false (.ld 57 27 (.tmp 5)), .g 56 false (.mv 58 (.tmp 7)), .g 56 false (.nc 59 (.tmp 58)), .g 56 false (.fa 60 30 (.tmp 59) 6), .g 56 false (.ld 61 27 (.tmp 60)), .g 56 false (.bn 62 .eql 27 (.tmp 57) (.tmp 61) 27), .p (.pk 63 (.tmp 56) (.const (.bool true)) (.tmp 62)), .p (.as 42 (.tmp 63))] [[], [0], [1], [2], [3], [4, 3], [3], [6, 3], [7, 3], [8, 3], [9, 3], [5, 10, 3], [3, 11], [12, 3], [13], [13], [15, 13], [16, 13], [17, 13], [14, 18, 13], [13, 19], [20, 13]])
     (.cond (.tmp 42)
      (.skip)
      (.sq [1, 3, 5, 6, 7, 64] (.dr (.pu 0 (.pu 1 (.pu 2 (.pu 3 (.pu 4 (.pu 5 (.pu 6 (.pu 7 (.pu 8 (.nil)))))))))) [[], [0], [], [2], [2, 3], [2, 3, 4], [2, 3, 4, 5], [0, 1, 2, 3, 4, 5, 6], [0, 1, 2, 3, 4, 5, 6, 7]] [.p (.fa 65 27 (.tmp 5) 0), .p (.ld 66 3 (.tmp 65)), .p (.mv 67 (.tmp 7)), .p (.nc 68 (.tmp 67)), .p (.fa 69 30 (.tmp 68) 6), .p (.fa 70 27 (.tmp 69) 0), .p (.ld 71 3 (.tmp 70)), .p (.bn 72 .eql 3 (.tmp 66) (.tmp 71) 3), .p (.as 64 (.tmp 72))] [[], [0], [], [2], [3], [4], [5], [1, 6], [7]])
       (.cond (.tmp 64)
        (.dr (.pu 0 (.pu 1 (.pu 2 (.pu 3 (.pu 4 (.pu 5 (.ef 6 [] (.pu 7 (.ef 8 [] (.nil)))))))))) [[], [0], [0, 1], [0, 1, 2], [], [0, 1, 2, 3, 4], [0, 1, 2, 3, 4, 5], [0, 1, 2, 3, 4, 5, 6], [0, 1, 2, 3, 4, 5, 6, 7]] [.p (.mv 73 (.tmp 7)), .p (.nc 74 (.tmp 73)), .p (.fa 75 30 (.tmp 74) 6), .p (.ld 76 27 (.tmp 75)), .p (.ld 77 27 (.tmp 5)), .p (.bd 78 151 [(0, .const (.int .i64 1)), (2, .tmp 76), (3, .tmp 77)]), .p (.bs 79 35 1 [(0, .tmp 78)]), .p (.fa 80 38 (.tmp 3) 2), .p (.st 35 (.tmp 80) (.tmp 79))] [[], [0], [1], [2], [], [3, 4], [5], [0, 1, 2, 3, 4, 5, 6], [7, 6, 0, 1, 2, 3, 4, 5, 6]])
        (.sq [1, 3, 5, 6, 7] (.reg [.p (.mv 10 (.tmp 7)), .p (.nc 11 (.tmp 10)), .p (.fa 12 30 (.tmp 11) 3), .p (.st 3 (.tmp 12) (.const (.int .i64 2)))])
         (.sq [1, 3, 5, 6, 7] (.reg [.p (.mv 13 (.tmp 7)), .p (.ld 14 27 (.tmp 5)), .p (.nc 15 (.tmp 13)), .p (.fa 16 30 (.tmp 15) 4), .p (.st 27 (.tmp 16) (.tmp 14))])
          (.sq [1, 3, 5, 6, 7, 8] (.reg [.p (.as 8 (.const (.int .i64 1)))])
           (.block 1 (.lp [1, 3, 5, 6, 7, 8] (.sq [1, 3, 5, 6, 7, 8] (.sq [1, 3, 5, 6, 7, 8, 22] (.reg [.p (.mv 17 (.tmp 8)), .p (.mv 18 (.tmp 7)), .p (.nc 19 (.tmp 18)), .p (.fa 20 30 (.tmp 19) 1), .p (.ld 21 3 (.tmp 20)), .p (.bn 22 .leq 3 (.tmp 17) (.tmp 21) 3)])
               (.cond (.tmp 22)
                (.skip)
                (.exit 1)))
              (.sq [1, 3, 5, 6, 7, 8] (.block 2 (.dr (.pu 0 (.pu 1 (.pu 2 (.pu 3 (.pu 4 (.pu 5 (.pu 6 (.pu 7 (.pu 8 (.pu 9 (.pu 10 (.pu 11 (.pu 12 (.ef 13 [1] (.ef 14 [1] (.ef 15 [] (.pu 16 (.ef 17 [] (.nil))))))))))))))))))) [[], [0], [], [], [], [4], [4, 5], [4, 5, 6], [], [8], [], [10], [4, 5, 6, 7, 8, 9, 10, 11], [2, 3, 4, 5, 6, 7, 8, 9, 10, 11, 12], [2, 3, 4, 5, 6, 7, 8, 9, 10, 11, 12, 13], [0, 1, 2, 3, 4, 5, 6, 7, 8, 9, 10, 11, 12, 13, 14], [0, 1, 2, 3, 4, 5, 6, 7, 8, 9, 10, 11, 12, 13, 14, 15], [0, 1, 2, 3, 4, 5, 6, 7, 8, 9, 10, 11, 12, 13, 14, 15, 16]] [.p (.fa 25 38 (.tmp 3) 1), .p (.ld 26 34 (.tmp 25)), .p (.mv 27 (.tmp 1)), .p (.mv 28 (.tmp 8)), .p (.mv 29 (.tmp 7)), .p (.nc 30 (.tmp 29)), .p (.fa 31 30 (.tmp 30) 2), .p (.ld 32 3 (.tmp 31)), .p (.fa 33 27 (.tmp 5) 0), .p (.ld 34 3 (.tmp 33)), .p (.fa 35 27 (.tmp 5) 1), .p (.ld 36 25 (.tmp 35)), .p (.bd 37 45 [(0, .const (.int .i64 3)), (1, .tmp 32), (3, .tmp 34), (4, .tmp 36)]), .p (.cl (some 38) 47 [.tmp 27, .tmp 28, .tmp 37] [3, 3, 45]), .p (.bs 39 34 1 [(0, .tmp 38)]), .p (.ap (some 40) 34 34 (.tmp 26) (.tmp 39)), .p (.fa 41 38 (.tmp 3) 1), .p (.st 34 (.tmp 41) (.tmp 40))] [[], [0], [], [], [], [4], [5], [6], [], [8], [], [10], [7, 9, 11], [2, 3, 12], [13], [1, 14, 13], [0, 1, 2, 3, 4, 5, 6, 7, 8, 9, 10, 11, 12, 13, 14, 15], [16, 15, 15, 0, 1, 2, 3, 4, 5, 6, 7, 8, 9, 10, 11, 12, 13, 14, 15]]))
               (.reg [.p (.mv 23 (.tmp 8)), .p (.bn 24 .add 3 (.tmp 23) (.const (.int .i64 1)) 3), .p (.as 8 (.tmp 24))])))))))))))))
   (.sq [6] (.reg [.p (.ld 81 38 (.tmp 3)), .p (.st 38 (.tmp 6) (.tmp 81))])
    (.ret))))
theorem b50 : BodyOK Try.prog 50 c50 82 [.cell 6 38] := ⟨Try.f50, by kernel_rfl, by kernel_rfl, by kernel_rfl, by kernel_rfl, by kernel_rfl⟩
set_option maxRecDepth 100000 in
@[go_sem] theorem k50_0 : chkT (.pu 0 (.pu 1 (.pu 2 (.pu 3 (.pu 4 (.pu 5 (.ef 6 [] (.pu 7 (.ef 8 [] (.nil)))))))))) [[], [0], [0, 1], [0, 1, 2], [], [0, 1, 2, 3, 4], [0, 1, 2, 3, 4, 5], [0, 1, 2, 3, 4, 5, 6], [0, 1, 2, 3, 4, 5, 6, 7]] (soI [.p (.mv 73 (.tmp 7)), .p (.nc 74 (.tmp 73)), .p (.fa 75 30 (.tmp 74) 6), .p (.ld 76 27 (.tmp 75)), .p (.ld 77 27 (.tmp 5)), .p (.bd 78 151 [(0, .const (.int .i64 1)), (2, .tmp 76), (3, .tmp 77)]), .p (.bs 79 35 1 [(0, .tmp 78)]), .p (.fa 80 38 (.tmp 3) 2), .p (.st 35 (.tmp 80) (.tmp 79))]) [[], [0], [1], [2], [], [3, 4], [5], [0, 1, 2, 3, 4, 5, 6], [7, 6, 0, 1, 2, 3, 4, 5, 6]] = true := by kernel_rfl
set_option maxRecDepth 100000 in
@[go_sem] theorem k50_1 : chkT (.pu 0 (.pu 1 (.pu 2 (.pu 3 (.pu 4 (.pu 5 (.pu 6 (.pu 7 (.pu 8 (.pu 9 (.pu 10 (.pu 11 (.pu 12 (.ef 13 [1] (.ef 14 [1] (.ef 15 [] (.pu 16 (.ef 17 [] (.nil))))))))))))))))))) [[], [0], [], [], [], [4], [4, 5], [4, 5, 6], [], [8], [], [10], [4, 5, 6, 7, 8, 9, 10, 11], [2, 3, 4, 5, 6, 7, 8, 9, 10, 11, 12], [2, 3, 4, 5, 6, 7, 8, 9, 10, 11, 12, 13], [0, 1, 2, 3, 4, 5, 6, 7, 8, 9, 10, 11, 12, 13, 14], [0, 1, 2, 3, 4, 5, 6, 7, 8, 9, 10, 11, 12, 13, 14, 15], [0, 1, 2, 3, 4, 5, 6, 7, 8, 9, 10, 11, 12, 13, 14, 15, 16]] (soI [.p (.fa 25 38 (.tmp 3) 1), .p (.ld 26 34 (.tmp 25)), .p (.mv 27 (.tmp 1)), .p (.mv 28 (.tmp 8)), .p (.mv 29 (.tmp 7)), .p (.nc 30 (.tmp 29)), .p (.fa 31 30 (.tmp 30) 2), .p (.ld 32 3 (.tmp 31)), .p (.fa 33 27 (.tmp 5) 0), .p (.ld 34 3 (.tmp 33)), .p (.fa 35 27 (.tmp 5) 1), .p (.ld 36 25 (.tmp 35)), .p (.bd 37 45 [(0, .const (.int .i64 3)), (1, .tmp 32), (3, .tmp 34), (4, .tmp 36)]), .p (.cl (some 38) 47 [.tmp 27, .tmp 28, .tmp 37] [3, 3, 45]), .p (.bs 39 34 1 [(0, .tmp 38)]), .p (.ap (some 40) 34 34 (.tmp 26) (.tmp 39)), .p (.fa 41 38 (.tmp 3) 1), .p (.st 34 (.tmp 41) (.tmp 40))]) [[], [0], [], [], [], [4], [5], [6], [], [8], [], [10], [7, 9, 11], [2, 3, 12], [13], [1, 14, 13], [0, 1, 2, 3, 4, 5, 6, 7, 8, 9, 10, 11, 12, 13, 14, 15], [16, 15, 15, 0, 1, 2, 3, 4, 5, 6, 7, 8, 9, 10, 11, 12, 13, 14, 15]] = true := by kernel_rfl
set_option maxRecDepth 100000 in
@[go_sem] theorem k50_2 : chkT (.pu 0 (.pu 1 (.pu 2 (.pu 3 (.pu 4 (.pu 5 (.pu 6 (.pu 7 (.pu 8 (.nil)))))))))) [[], [0], [], [2], [2, 3], [2, 3, 4], [2, 3, 4, 5], [0, 1, 2, 3, 4, 5, 6], [0, 1, 2, 3, 4, 5, 6, 7]] (soI [.p (.fa 65 27 (.tmp 5) 0), .p (.ld 66 3 (.tmp 65)), .p (.mv 67 (.tmp 7)), .p (.nc 68 (.tmp 67)), .p (.fa 69 30 (.tmp 68) 6), .p (.fa 70 27 (.tmp 69) 0), .p (.ld 71 3 (.tmp 70)), .p (.bn 72 .eql 3 (.tmp 66) (.tmp 71) 3), .p (.as 64 (.tmp 72))]) [[], [0], [], [2], [3], [4], [5], [1, 6], [7]] = true := by kernel_rfl
set_option maxRecDepth 100000 in
@[go_sem] theorem k50_3 : chkT (.pu 0 (.pu 1 (.pu 2 (.pu 3 (.pu 4 (.pu 5 (.pu 6 (.pu 7 (.pu 8 (.pu 9 (.pu 10 (.pu 11 (.pu 12 (.pu 13 (.pu 14 (.pu 15 (.pu 16 (.pu 17 (.pu 18 (.pu 19 (.pu 20 (.pu 21 (.nil))))))))))))))))))))))) [[], [0], [0, 1], [0, 1, 2], [0, 1, 2, 3], [0, 1, 2, 3, 4], [0, 1, 2, 3], [0, 1, 2, 3, 6], [0, 1, 2, 3, 6, 7], [0, 1, 2, 3, 6, 7, 8], [0, 1, 2, 3, 6, 7, 8, 9], [0, 1, 2, 3, 4, 5, 6, 7, 8, 9, 10], [0, 1, 2, 3, 4, 5, 6, 7, 8, 9, 10, 11], [0, 1, 2, 3, 4, 5, 6, 7, 8, 9, 10, 11, 12], [0, 1, 2, 3, 4, 5, 6, 7, 8, 9, 10, 11, 12, 13], [0, 1, 2, 3, 4, 5, 6, 7, 8, 9, 10, 11, 12, 13], [0, 1, 2, 3, 4, 5, 6, 7, 8, 9, 10, 11, 12, 13, 15], [0, 1, 2, 3, 4, 5, 6, 7, 8, 9, 10, 11, 12, 13, 15, 16], [0, 1, 2, 3, 4, 5, 6, 7, 8, 9, 10, 11, 12, 13, 15, 16, 17], [0, 1, 2, 3, 4, 5, 6, 7, 8, 9, 10, 11, 12, 13, 14, 15, 16, 17, 18], [0, 1, 2, 3, 4, 5, 6, 7, 8, 9, 10, 11, 12, 13, 14, 15, 16, 17, 18, 19], [0, 1, 2, 3, 4, 5, 6, 7, 8, 9, 10, 11, 12, 13, 14, 15, 16, 17, 18, 19, 20]] (soI [.p (.fa 43 27 (.tmp 5) 0), .p (.ld 44 3 (.tmp 43)), .p (.bn 45 .eql 3 (.tmp 44) (.const (.int .i64 0)) 3), .p (.mv 46 (.tmp 45)), .g 46 false (.fa 47 27 (.tmp 5) 0), .g 46 false (.ld 48 3 (.tmp 47)), .g 46 false (.mv 49 (.tmp 7)), .g 46 false (.nc 50 (.tmp 49)), .g 46 false (.fa 51 30 (.tmp 50) 6), .g 46 false (.fa 52 27 (.tmp 51) 0), .g 46 false (.ld 53 3 (.tmp 52)), .g 46 false (.bn 54 .lss 3 (.tmp 48) (.tmp 53) 3), .p (.pk 55 (.tmp 46) (.const (.bool true)) (.tmp 54)), .p (.mv 56 (.tmp 55)), .g 56 false (.ld 57 27 (.tmp 5)), .g 56 false (.mv 58 (.tmp 7)), .g 56 false (.nc 59 (.tmp 58)), .g 56 false (.fa 60 30 (.tmp 59) 6), .g 56 false (.ld 61 27 (.tmp 60)), .g 56 false (.bn 62 .eql 27 (.tmp 57) (.tmp 61) 27), .p (.pk 63 (.tmp 56) (.const (.bool true)) (.tmp 62)), .p (.as 42 (.tmp 63))]) [[], [0], [1], [2], [3], [4, 3], [3], [6, 3], [7, 3], [8, 3], [9, 3], [5, 10, 3], [3, 11], [12, 3], [13], [13], [15, 13], [16, 13], [17, 13], [14, 18, 13], [13, 19], [20, 13]] = true := by kernel_rfl

@[go_sem] def c51 : SC J := .sq [1, 2, 4] (.reg [.p (.bx 2 38 (.tmp 0)), .p (.al 4 38)])
 (.sq [1, 2, 4, 5] (.reg [.p (.fa 10 38 (.tmp 2) 0), .p (.as 5 (.tmp 10))])
  (.sq [1, 2, 4, 5, 6] (.reg [.p (.as 6 (.const (.slice none 0 0)))])
   (.sq [1, 2, 4, 5, 6, 7] (.reg [.p (.as 7 (.const (.bool false)))])
    (.sq [1, 2, 4, 5, 6, 7] (.sq [1, 2, 4, 5, 6, 7, 14, 15, 16] (.reg [.p (.mv 11 (.tmp 5)), .p (.nc 12 (.tmp 11)), .p (.fa 13 30 (.tmp 12) 5), .p (.ld 14 28 (.tmp 13)), .p (.ln 15 28 (.tmp 14)), .p (.mv 16 (.const (.int .i64 0)))])
      (.block 0 (.lp [1, 2, 4, 5, 6, 7, 14, 15, 16] (.sq [1, 2, 4, 5, 6, 7, 14, 15, 16, 17] (.reg [.p (.bn 17 .lss 3 (.tmp 16) (.tmp 15) 3)])
         (.sq [1, 2, 4, 5, 6, 7, 14, 15, 16] (.cond (.tmp 17)
           (.skip)
           (.exit 0))
          (.sq [1, 2, 4, 5, 6, 7, 14, 15, 16] (.block 1 (.sq [1, 2, 4, 5, 6, 7, 9, 14, 15, 16] (.reg [.p (.ia 18 28 (.tmp 14) (.tmp 16)), .p (.ld 19 3 (.tmp 18)), .p (.as 9 (.tmp 19))])
             (.sq [1, 2, 4, 5, 6, 7, 9, 14, 15, 16] (.sq [1, 2, 4, 5, 6, 7, 9, 14, 15, 16, 26] (.reg [.p (.mv 20 (.tmp 7)), .p (.un 21 .not 4 (.tmp 20)), .p (.mv 22 (.tmp 21)), .g 22 true (.mv 23 (.tmp 9)), .g 22 true (.mv 24 (.tmp 1)), .g 22 true (.bn 25 .geq 3 (.tmp 23) (.tmp 24) 3), .p (.pk 26 (.tmp 22) (.tmp 25) (.const (.bool false)))])
               (.cond (.tmp 26)
                (.sq [1, 2, 4, 5, 6, 9, 14, 15, 16] (.reg [.p (.mv 27 (.tmp 6)), .p (.mv 28 (.tmp 1)), .p (.bs 29 28 1 [(0, .tmp 28)]), .p (.ap (some 30) 28 28 (.tmp 27) (.tmp 29)), .p (.as 6 (.tmp 30))])
                 (.reg [.p (.as 7 (.const (.bool true)))]))
                (.skip)))
              (.sq [1, 2, 4, 5, 6, 7, 9, 14, 15, 16, 33] (.reg [.p (.mv 31 (.tmp 9)), .p (.mv 32 (.tmp 1)), .p (.bn 33 .neq 3 (.tmp 31) (.tmp 32) 3)])
               (.cond (.tmp 33)
                (.reg [.p (.mv 34 (.tmp 6)), .p (.mv 35 (.tmp 9)), .p (.bs 36 28 1 [(0, .tmp 35)]), .p (.ap (some 37) 28 28 (.tmp 34) (.tmp 36)), .p (.as 6 (.tmp 37))])
                (.skip))))))
           (.reg [.p (.bn 38 .add 3 (.tmp 16) (.const (.int .i64 1)) 3), .p (.mv 16 (.tmp 38))])))))))
     (.sq [2, 4, 5, 6] (.sq [1, 2, 4, 5, 6, 40] (.reg [.p (.mv 39 (.tmp 7)), .p (.un 40 .not 4 (.tmp 39))])
       (.cond (.tmp 40)
        (.reg [.p (.mv 41 (.tmp 6)), .p (.mv 42 (.tmp 1)), .p (.bs 43 28 1 [(0, .tmp 42)]), .p (.ap (some 44) 28 28 (.tmp 41) (.tmp 43)), .p (.as 6 (.tmp 44))])
        (.skip)))
      (.sq [2, 4, 5, 6] (.reg [.p (.mv 45 (.tmp 5)), .p (.mv 46 (.tmp 6)), .p (.cl (some 47) 98 [.tmp 46] [28]), .p (.nc 48 (.tmp 45)), .p (.fa 49 30 (.tmp 48) 5), .p (.st 28 (.tmp 49) (.tmp 47))])
       (.sq [2, 4] (.sq [2, 4, 5, 56] (.reg [.p (.mv 50 (.tmp 6)), .p (.ln 51 28 (.tmp 50)), .p (.mv 52 (.tmp 5)), .p (.nc 53 (.tmp 52)), .p (.fa 54 30 (.tmp 53) 0), .p (.ld 55 3 (.tmp 54)), .p (.bn 56 .geq 3 (.tmp 51) (.tmp 55) 3)])
         (.cond (.tmp 56)
          (.sq [2, 4, 5] (.reg [.p (.mv 57 (.tmp 5)), .p (.nc 58 (.tmp 57)), .p (.fa 59 30 (.tmp 58) 4), .p (.ld 60 27 (.tmp 59)), .p (.bs 61 36 1 [(0, .tmp 60)]), .p (.fa 62 38 (.tmp 2) 3), .p (.st 36 (.tmp 62) (.tmp 61))])
           (.sq [2, 4, 5] (.reg [.p (.mv 63 (.tmp 5)), .p (.mv 64 (.tmp 5)), .p (.nc 65 (.tmp 64)), .p (.fa 66 30 (.tmp 65) 4), .p (.ld 67 27 (.tmp 66)), .p (.nc 68 (.tmp 63)), .p (.fa 69 30 (.tmp 68) 6), .p (.st 27 (.tmp 69) (.tmp 67))])
            (.sq [2, 4, 5] (.reg [.p (.mv 70 (.tmp 5)), .p (.nc 71 (.tmp 70)), .p (.fa 72 30 (.tmp 71) 3), .p (.st 3 (.tmp 72) (.const (.int .i64 0)))])
             (.sq [2, 4, 5] (.reg [.p (.mv 73 (.tmp 5)), .p (.bd 74 27 []), .p (.nc 75 (.tmp 73)), .p (.fa 76 30 (.tmp 75) 4), .p (.st 27 (.tmp 76) (.tmp 74))])
              (.reg [.p (.mv 77 (.tmp 5)), .p (.nc 78 (.tmp 77)), .p (.fa 79 30 (.tmp 78) 5), .p (.st 28 (.tmp 79) (.const (.slice none 0 0)))])))))
          (.skip)))
        (.sq [4] (.reg [.p (.ld 80 38 (.tmp 2)), .p (.st 38 (.tmp 4) (.tmp 80))])
         (.ret)))))))))
theorem b51 : BodyOK Try.prog 51 c51 81 [.cell 4 38] := ⟨Try.f51, by kernel_rfl, by kernel_rfl, by kernel_rfl, by kernel_rfl, by kernel_rfl⟩

theorem MLet.wide (l : List MLet) : wideB 3 (l.map MLet.cs) = true := by
  induction l with
  | nil => rfl
  | cons a l ih => simp only [List.map_cons, wideB, ih, MLet.cs]; rfl
theorem MLet.flat (l : List MLet) : flL (l.map MLet.cs) = 2 := by
  induction l with
  | nil => rfl
  | cons a l ih => simp only [List.map_cons, flL, ih, MLet.cs]; rfl
theorem int_wide (l : List Int) : wideB 1 (l.map intC) = true := by
  induction l with
  | nil => rfl
  | cons a l ih => simp only [List.map_cons, wideB, ih, intC]; rfl
theorem int_flat (l : List Int) : flL (l.map intC) = 2 := by
  induction l with
  | nil => rfl
  | cons a l ih => simp only [List.map_cons, flL, ih, intC]; rfl
attribute [go_sem] MLet.wide MLet.flat int_wide int_flat
theorem c98_c (l : List Int) (hl : l.length * 8 ≤ 140737488355328) : CallR Try.prog 98 [.ro 1 (l.map intC)] (.blk 0 0 [] 1 0 l.length) [([], ⟨1, l.map intC, 2, false⟩)] := by
  refine callR_of_jv b98 rfl ?_
  simp -implicitDefEqProofs only [go_sem]
  refine condJ_intro (fun h => ?_) (fun h => ?_)
  · have : l = [] := by simpa using h
    subst this
    simp -implicitDefEqProofs only [go_sem]
  · have hm := ok_len hl (by omega)
    have hmk : ((8 : Nat) : Int) * (l.length : Int) ≤ 281474976710656 ∧ (l.length : Int) ≤ 9223372036854775807 := by unfold maxLen at hm; omega
    simp -implicitDefEqProofs only [go_sem, h, hmk, List.length_replicate]
theorem c52_c (l : List MLet) (hl : l.length * 32 ≤ 140737488355328) : CallR Try.prog 52 [.ro 3 (l.map MLet.cs)] (.blk 0 0 [] 3 0 l.length) [([], ⟨3, l.map MLet.cs, 2, false⟩)] := by
  refine callR_of_jv b52 rfl ?_
  simp -implicitDefEqProofs only [go_sem]
  refine condJ_intro (fun h => ?_) (fun h => ?_)
  · have : l = [] := by simpa using h
    subst this
    simp -implicitDefEqProofs only [go_sem]
  · have hm := ok_len hl (by omega)
    have hmk : ((32 : Nat) : Int) * (l.length : Int) ≤ 281474976710656 ∧ (l.length : Int) ≤ 9223372036854775807 := by unfold maxLen at hm; omega
    simp -implicitDefEqProofs only [go_sem, h, hmk, List.length_replicate]
theorem c46_c (c : MCl) (hl : c.acks.length ≤ 100) : CallM Try.prog 46 [] [c.ro] (c.av []) [(0, 0, one c.ar)] := by
  refine callM_of_jv b46 rfl ?_
  simp -implicitDefEqProofs only [go_sem]
  refine Want.intro (c98_c c.acks (by omega)) ?_
  simp -implicitDefEqProofs only [go_sem]
/-- A client's rows of its own in the argument; what comes of it in new rows. -/
def MCl.tIn (c : MCl) : AV := .agg (MTold.cs ⟨c, [], [], []⟩ (.blk 1000000 0 [] 1 0 c.acks.length) .nilS .nilS .nilS)
def MTold.avP (t : MTold) : AV := .agg (t.cs (.blk 1000000 0 [] 1 0 t.cl.acks.length) (.blk 0 0 [] 3 0 t.letters.length) (.blk 1 0 [] 13 0 t.alarms.length) (.blk 2 0 [] 5 0 t.acc.length))
def MTold.outP (t : MTold) : Sig := [(1000000, 0, one t.cl.ar), (0, 0, one t.lr), (1, 0, one t.xr), (2, 0, one t.pr)]
def MTold.avQ (t : MTold) : AV := .agg (t.cs (.blk 0 0 [] 1 0 t.cl.acks.length) (.blk 1 0 [] 3 0 t.letters.length) (.blk 2 0 [] 13 0 t.alarms.length) (.blk 3 0 [] 5 0 t.acc.length))
def MTold.outQ (t : MTold) : Sig := [(0, 0, one t.cl.ar), (1, 0, one t.lr), (2, 0, one t.xr), (3, 0, one t.pr)]
attribute [go_sem] MCl.tIn MTold.avP MTold.outP MTold.avQ MTold.outQ
theorem c50_c (c : MCl) (me : Int) (p : MPt) (hm : c.many ≤ 100) : CallM Try.prog 50 [(1000000, 0, one c.ar)] [c.tIn, vI me, .agg p.cs] (mHead c me p).avP (mHead c me p).outP := by
  refine callM_of_jv b50 rfl ?_
  simp -implicitDefEqProofs only [go_sem]
  unfold mHead
  by_cases a : p.size = 0
  · have a' : (p.size == 0) = true := by simpa using a
    rw [if_pos (.inl a)]
    simp -implicitDefEqProofs only [go_sem, a', guardP_tf, condJ_true, MTold.base]
  · have a' : (p.size == 0) = false := by simpa using a
    by_cases b : p.size < c.pin.size
    · rw [if_pos (.inr (.inl b))]
      simp -implicitDefEqProofs only [go_sem, a', b, guardP_ff, guardP_tf, condJ_true, MTold.base]
    · cases e : eqP p c.pin with
      | true =>
        rw [if_pos (.inr (.inr rfl))]
        have e' : (p.size == c.pin.size && (((p.root.a : Int) == c.pin.root.a) && (((p.root.b : Int) == c.pin.root.b) && (((p.root.c : Int) == c.pin.root.c) && ((p.root.d : Int) == c.pin.root.d))))) = true := e
        simp -implicitDefEqProofs only [go_sem, a', b, e', guardP_ff, condJ_true, MTold.base]
      | false =>
        rw [if_neg (by simp only [not_or]; exact ⟨a, b, by simp⟩)]
        have e' : (p.size == c.pin.size && (((p.root.a : Int) == c.pin.root.a) && (((p.root.b : Int) == c.pin.root.b) && (((p.root.c : Int) == c.pin.root.c) && ((p.root.d : Int) == c.pin.root.d))))) = false := e
        by_cases d : p.size = c.pin.size
        · have d' : (p.size == c.pin.size) = true := by simpa using d
          rw [if_pos d]
          simp only [d', Bool.true_and] at e'
          simp -implicitDefEqProofs only [go_sem, a', b, e', d', guardP_ff, condJ_true, condJ_false]
          try rfl
        · have d' : (p.size == c.pin.size) = false := by simpa using d
          rw [if_neg d]
          simp -implicitDefEqProofs only [go_sem, a', b, e', d', guardP_ff, condJ_true, condJ_false]
          generalize hF : (fun i : Nat => MLet.mk me ((i : Int) + 1) (mWireBytes (mVouch c p))) = F
          have hv := fun i : Nat => c47_c me ((i : Int) + 1) (mVouch c p) rfl rfl
          refine jv_lpN [(16003, 3)] (fun x s => ∃ i : Nat, i ≤ c.many.toNat ∧ x = c.many.toNat - i ∧ s = ⟨82, [(1, vI me), (3, .ptr 3 0 [] 18 0 0), (5, .ptr 5 0 [] 5 0 0), (6, .ptr 6 0 [] 18 0 0), (7, .ptr 3 0 [] 18 0 0), (8, vI ((i : Int) + 1))], [(1000000, 0, one c.ar), (3, 0, one ⟨18, [MTold.cs ⟨{ c with phase := 2, goal := p }, [], [], []⟩ (.blk 1000000 0 [] 1 0 c.acks.length) (.blk 10003 0 [] 3 0 ((List.range i).map F).length) .nilS .nilS], 0, false⟩), (10003, 0, one ⟨3, ((List.range i).map F).map MLet.cs, 2, false⟩), (5, 0, one ⟨5, [p.cs], 0, false⟩), (6, 0, one ⟨18, [zTd], 0, false⟩)], 1⟩) c.many.toNat ?_ ?_
          · simp -implicitDefEqProofs only [go_sem]
            exact ⟨0, Nat.zero_le _, rfl, rfl⟩
          · rintro x s ⟨i, hi, rfl, rfl⟩
            rcases Nat.lt_or_ge i c.many.toNat with hlt | hge
            · have hlt' : (i : Int) + 1 ≤ c.many := by omega
              have w1 : IntKind.i64.wrap ((i : Int) + 1 + 1) = ((i + 1 : Nat) : Int) + 1 := by rw [wrS (by omega)]; omega
              have ha : ∀ x, _ := fun x => app_ok (E := MLet.cs) (l := (List.range i).map F) (xs := [x]) (b := 32) (n := 1000) (by simp; omega) (by omega) (by omega)
              simp -implicitDefEqProofs only [go_sem, hlt']
              refine Want.intro (hv i) ?_
              simp -implicitDefEqProofs only [go_sem, ha, w1]
              refine ⟨_, by omega, i + 1, hlt, rfl, ?_⟩
              rw [List.range_succ, List.map_append, List.map_cons, List.map_nil, ← hF]
              simp only [List.map_append, List.length_append, List.length_map, List.map_cons, List.map_nil, List.length_cons, List.length_nil, MLet.cs]
              try rfl
            · have hi : i = c.many.toNat := by omega
              subst hi
              have hlt' : ¬ ((c.many.toNat : Int) + 1 ≤ c.many) := by omega
              simp -implicitDefEqProofs only [go_sem, hlt']
              try rfl
theorem c51_c (c : MCl) (w : Int) (hl : c.acks.length ≤ 100) : CallM Try.prog 51 [(1000000, 0, one c.ar)] [c.tIn, vI w] (mAck c w).avQ (mAck c w).outQ := by
  refine callM_of_jv b51 rfl ?_
  simp -implicitDefEqProofs only [go_sem]
  have hl' : c.acks.length ≤ maxLen := by unfold maxLen; omega
  generalize hL : c.acks = l at *
  refine jv_lpN [(6, 1)] (fun m s => ∃ (i : Nat) (o : List Int) (put : Bool), i ≤ l.length ∧ m = l.length - i ∧ o.length ≤ 2 * i ∧ o ++ ackGo w (l.drop i) put = mAcks l w ∧ s = ⟨81, [(1, vI w), (2, .ptr 2 0 [] 18 0 0), (4, .ptr 4 0 [] 18 0 0), (5, .ptr 2 0 [] 18 0 0), (6, .blk 6 0 [] 1 0 o.length), (7, vB put), (14, .blk 1000000 0 [] 1 0 l.length), (15, vI l.length), (16, vI i)], [(1000000, 0, one ⟨1, l.map intC, 2, false⟩), (2, 0, one ⟨18, [MTold.cs ⟨c, [], [], []⟩ (.blk 1000000 0 [] 1 0 l.length) .nilS .nilS .nilS], 0, false⟩), (4, 0, one ⟨18, [zTd], 0, false⟩), (6, 0, one ⟨1, o.map intC, 2, false⟩)], 1⟩) l.length ?_ ?_
  · simp -implicitDefEqProofs only [go_sem]
    exact ⟨0, [], false, Nat.zero_le _, rfl, Nat.le_refl _, rfl, rfl⟩
  · rintro m s ⟨i, o, put, hi, rfl, ho, hx, rfl⟩
    rcases Nat.lt_or_ge i l.length with hlt | hge
    · have hlt' : (i : Int) < (l.length : Int) := by omega
      have hg : l[i]? = some l[i] := List.getElem?_eq_getElem hlt
      have hw := wrap_succ hlt hl'
      rw [ackGo_drop hlt] at hx
      have ha : ∀ x, _ := fun x => app_ok (E := intC) (l := o) (xs := [x]) (b := 8) (n := 1000) (by simp; omega) (by omega) (by omega)
      have ha2 : ∀ x y : List AV, (o.map intC ++ [x] ++ [y]).length ≤ maxLen ∧ (o.map intC ++ [x] ++ [y]).length * 8 ≤ 140737488355328 := fun x y => by unfold maxLen; simp; omega
      cases hd : decide (l[i] ≥ w) <;> cases he : (l[i] != w) <;> cases put
      all_goals simp only [hd, he, Bool.not_true, Bool.not_false, Bool.and_true, Bool.and_false, Bool.true_and, Bool.false_and, if_true, if_false, Bool.false_eq_true, Bool.or_true, Bool.or_false, List.nil_append] at hx
      all_goals simp -implicitDefEqProofs only [go_sem, hlt', hg]
      all_goals repeat' first | (refine guardP_intro (fun h => ?_) (fun h => ?_) <;> try simp -implicitDefEqProofs only [go_sem, hlt', hg, hd, he, hw, ha, ha2, guardP_tt, guardP_ff, guardP_tf, guardP_ft, condJ_true, condJ_false, h]) | (refine condJ_intro (fun h => ?_) (fun h => ?_) <;> try simp -implicitDefEqProofs only [go_sem, hlt', hg, hd, he, hw, ha, ha2, guardP_tt, guardP_ff, guardP_tf, guardP_ft, condJ_true, condJ_false, h])
      all_goals first
        | (rw [hd] at h; cases h; done)
        | (rw [he] at h; cases h; done)
        | (refine ⟨_, by omega, i + 1, o, true, hlt, rfl, ?_, ?_, ?_⟩; all_goals first | omega | (simp; omega) | (rw [← hx]; simp; done) | (simp [intC]; done))
        | (refine ⟨_, by omega, i + 1, o, false, hlt, rfl, ?_, ?_, ?_⟩; all_goals first | omega | (simp; omega) | (rw [← hx]; simp; done) | (simp [intC]; done))
        | (refine ⟨_, by omega, i + 1, o ++ [l[i]], true, hlt, rfl, ?_, ?_, ?_⟩; all_goals first | omega | (simp; omega) | (rw [← hx]; simp; done) | (simp [intC]; done))
        | (refine ⟨_, by omega, i + 1, o ++ [l[i]], false, hlt, rfl, ?_, ?_, ?_⟩; all_goals first | omega | (simp; omega) | (rw [← hx]; simp; done) | (simp [intC]; done))
        | (refine ⟨_, by omega, i + 1, o ++ [w], true, hlt, rfl, ?_, ?_, ?_⟩; all_goals first | omega | (simp; omega) | (rw [← hx]; simp; done) | (simp [intC]; done))
        | (refine ⟨_, by omega, i + 1, o ++ [w], false, hlt, rfl, ?_, ?_, ?_⟩; all_goals first | omega | (simp; omega) | (rw [← hx]; simp; done) | (simp [intC]; done))
        | (refine ⟨_, by omega, i + 1, o ++ [w] ++ [l[i]], true, hlt, rfl, ?_, ?_, ?_⟩; all_goals first | omega | (simp; omega) | (rw [← hx]; simp; done) | (simp [intC]; done))
        | (refine ⟨_, by omega, i + 1, o ++ [w] ++ [l[i]], false, hlt, rfl, ?_, ?_, ?_⟩; all_goals first | omega | (simp; omega) | (rw [← hx]; simp; done) | (simp [intC]; done))
        | trace_state
    · have hi : i = l.length := by omega
      subst hi
      have hlt' : ¬ ((l.length : Int) < (l.length : Int)) := by omega
      rw [List.drop_length] at hx
      have ha : ∀ x, _ := fun x => app_ok (E := intC) (l := o) (xs := [x]) (b := 8) (n := 1000) (by simp; omega) (by omega) (by omega)
      have hml := ackGo_len w l false
      have fin : ∀ o : List Int, o = mAcks l w → o.length ≤ 2 * l.length + 1 := fun o h => by rw [h]; exact hml
      obtain ⟨o', ho'⟩ : ∃ o', o' = mAcks l w := ⟨_, rfl⟩
      unfold mAck
      rw [hL, ← ho']
      have hfl := fin o' ho'
      simp -implicitDefEqProofs only [go_sem, hlt']
      cases put
      · have e : o ++ [w] = o' := by rw [ho', ← hx]; simp [ackGo]
        have eM : o.map intC ++ [[vI w]] = o'.map intC := by rw [← e]; simp [intC]
        have hao := ha [vI w]
        rw [eM, List.length_map] at hao
        simp -implicitDefEqProofs only [go_sem, eM, hao, condJ_true]
        refine Want.intro (c98_c o' (by omega)) ?_
        simp -implicitDefEqProofs only [go_sem]
        refine condJ_intro (fun h => ?_) (fun h => ?_)
        · have h' := of_decide_eq_true h
          rw [if_neg (by omega)]
          simp -implicitDefEqProofs only [go_sem, h]
          try rfl
        · have h' := of_decide_eq_false h
          rw [if_pos (by omega)]
          simp -implicitDefEqProofs only [go_sem, h]
          try rfl
      · have e : o = o' := by rw [ho', ← hx]; simp [ackGo]
        subst e
        simp -implicitDefEqProofs only [go_sem, condJ_false]
        refine Want.intro (c98_c o (by omega)) ?_
        simp -implicitDefEqProofs only [go_sem]
        refine condJ_intro (fun h => ?_) (fun h => ?_)
        · have h' := of_decide_eq_true h
          rw [if_neg (by omega)]
          simp -implicitDefEqProofs only [go_sem, h]
          try rfl
        · have h' := of_decide_eq_false h
          rw [if_pos (by omega)]
          simp -implicitDefEqProofs only [go_sem, h]
          try rfl
end Go.Proofs.Ytkhemolkhegppaa.E
