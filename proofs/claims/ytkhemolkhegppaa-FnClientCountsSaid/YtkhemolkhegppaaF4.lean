/-
  Contracts: what comes of letters to clients, in the reference.
-/
import Derived.Test.YtkhemolkhegppaaF3
namespace Go.Proofs.Ytkhemolkhegppaa.E
open Go Go.RowKit
set_option maxHeartbeats 4000000
set_option maxRecDepth 10000
set_option linter.unusedSimpArgs false
set_option linter.unusedVariables false
set_option linter.unusedSectionVars false
@[go_sem] def c62 : SC J := .sq [1, 2] (.reg [.p (.bx 1 30 (.tmp 0)), .p (.al 2 30)])
 (.sq [1, 2, 3] (.reg [.p (.bs 5 28 0 []), .p (.as 3 (.tmp 5))])
  (.sq [1, 2, 3] (.sq [1, 2, 3, 4] (.reg [.p (.as 4 (.const (.int .i64 0)))])
    (.block 0 (.lp [1, 2, 3, 4] (.sq [1, 2, 3, 4] (.sq [1, 2, 3, 4, 10] (.reg [.p (.mv 6 (.tmp 4)), .p (.fa 7 30 (.tmp 1) 5), .p (.ld 8 28 (.tmp 7)), .p (.ln 9 28 (.tmp 8)), .p (.bn 10 .lss 3 (.tmp 6) (.tmp 9) 3)])
        (.cond (.tmp 10)
         (.skip)
         (.exit 0)))
       (.sq [1, 2, 3, 4] (.block 1 (.reg [.p (.mv 13 (.tmp 3)), .p (.fa 14 30 (.tmp 1) 5), .p (.ld 15 28 (.tmp 14)), .p (.mv 16 (.tmp 4)), .p (.ia 17 28 (.tmp 15) (.tmp 16)), .p (.ld 18 3 (.tmp 17)), .p (.bs 19 28 1 [(0, .tmp 18)]), .p (.ap (some 20) 28 28 (.tmp 13) (.tmp 19)), .p (.as 3 (.tmp 20))]))
        (.reg [.p (.mv 11 (.tmp 4)), .p (.bn 12 .add 3 (.tmp 11) (.const (.int .i64 1)) 3), .p (.as 4 (.tmp 12))]))))))
   (.sq [1, 2] (.reg [.p (.mv 21 (.tmp 3)), .p (.fa 22 30 (.tmp 1) 5), .p (.st 28 (.tmp 22) (.tmp 21))])
    (.sq [2] (.reg [.p (.ld 23 30 (.tmp 1)), .p (.st 30 (.tmp 2) (.tmp 23))])
     (.ret)))))
theorem b62 : BodyOK Try.prog 62 c62 24 [.cell 2 30] := ⟨Try.f62, by kernel_rfl, by kernel_rfl, by kernel_rfl, by kernel_rfl, by kernel_rfl⟩

@[go_sem] def c59 : SC J := .sq [0] (.reg [.p (.as 2 (.const (.bool false)))])
 (.sq [2] (.reg [.p (.mv 3 (.tmp 0)), .p (.cl (some 4) 42 [.tmp 3, .const (.int .i64 1), .const (.int .i64 20)] [3, 3, 3]), .p (.as 2 (.tmp 4))])
  (.ret))
theorem b59 : BodyOK Try.prog 59 c59 5 [.tmp 2] := ⟨Try.f59, by kernel_rfl, by kernel_rfl, by kernel_rfl, by kernel_rfl, by kernel_rfl⟩

@[go_sem] def c109 : SC J := .sq [0, 1] (.reg [.p (.as 4 (.const (.slice none 0 0)))])
 (.sq [0, 1, 5] (.reg [.p (.bs 8 28 0 []), .p (.as 5 (.tmp 8))])
  (.sq [0, 1, 5, 6] (.reg [.p (.as 6 (.const (.bool false)))])
   (.sq [1, 5, 6] (.sq [0, 1, 5, 6, 7] (.reg [.p (.as 7 (.const (.int .i64 0)))])
     (.block 0 (.lp [0, 1, 5, 6, 7] (.sq [0, 1, 5, 6, 7] (.sq [0, 1, 5, 6, 7, 12] (.reg [.p (.mv 9 (.tmp 7)), .p (.mv 10 (.tmp 0)), .p (.ln 11 28 (.tmp 10)), .p (.bn 12 .lss 3 (.tmp 9) (.tmp 11) 3)])
         (.cond (.tmp 12)
          (.skip)
          (.exit 0)))
        (.sq [0, 1, 5, 6, 7] (.block 1 (.sq [0, 1, 5, 6, 7] (.sq [0, 1, 5, 6, 7, 24] (.reg [.p (.mv 15 (.tmp 6)), .p (.un 16 .not 4 (.tmp 15)), .p (.mv 17 (.tmp 16)), .g 17 true (.mv 18 (.tmp 0)), .g 17 true (.mv 19 (.tmp 7)), .g 17 true (.ia 20 28 (.tmp 18) (.tmp 19)), .g 17 true (.ld 21 3 (.tmp 20)), .g 17 true (.mv 22 (.tmp 1)), .g 17 true (.bn 23 .geq 3 (.tmp 21) (.tmp 22) 3), .p (.pk 24 (.tmp 17) (.tmp 23) (.const (.bool false)))])
            (.cond (.tmp 24)
             (.sq [0, 1, 5, 7] (.reg [.p (.mv 25 (.tmp 5)), .p (.mv 26 (.tmp 1)), .p (.bs 27 28 1 [(0, .tmp 26)]), .p (.ap (some 28) 28 28 (.tmp 25) (.tmp 27)), .p (.as 5 (.tmp 28))])
              (.reg [.p (.as 6 (.const (.bool true)))]))
             (.skip)))
           (.sq [0, 1, 5, 6, 7, 34] (.reg [.p (.mv 29 (.tmp 0)), .p (.mv 30 (.tmp 7)), .p (.ia 31 28 (.tmp 29) (.tmp 30)), .p (.ld 32 3 (.tmp 31)), .p (.mv 33 (.tmp 1)), .p (.bn 34 .neq 3 (.tmp 32) (.tmp 33) 3)])
            (.cond (.tmp 34)
             (.reg [.p (.mv 35 (.tmp 5)), .p (.mv 36 (.tmp 0)), .p (.mv 37 (.tmp 7)), .p (.ia 38 28 (.tmp 36) (.tmp 37)), .p (.ld 39 3 (.tmp 38)), .p (.bs 40 28 1 [(0, .tmp 39)]), .p (.ap (some 41) 28 28 (.tmp 35) (.tmp 40)), .p (.as 5 (.tmp 41))])
             (.skip)))))
         (.reg [.p (.mv 13 (.tmp 7)), .p (.bn 14 .add 3 (.tmp 13) (.const (.int .i64 1)) 3), .p (.as 7 (.tmp 14))]))))))
    (.sq [5] (.sq [1, 5, 43] (.reg [.p (.mv 42 (.tmp 6)), .p (.un 43 .not 4 (.tmp 42))])
      (.cond (.tmp 43)
       (.reg [.p (.mv 44 (.tmp 5)), .p (.mv 45 (.tmp 1)), .p (.bs 46 28 1 [(0, .tmp 45)]), .p (.ap (some 47) 28 28 (.tmp 44) (.tmp 46)), .p (.as 5 (.tmp 47))])
       (.skip)))
     (.sq [4] (.reg [.p (.mv 48 (.tmp 5)), .p (.as 4 (.tmp 48))])
      (.ret))))))
theorem b109 : BodyOK Try.prog 109 c109 49 [.tmp 4] := ⟨Try.f109, by kernel_rfl, by kernel_rfl, by kernel_rfl, by kernel_rfl, by kernel_rfl⟩

@[go_sem] def c61 : SC J := .sq [1, 2, 4] (.reg [.p (.bx 2 30 (.tmp 0)), .p (.al 4 38)])
 (.sq [1, 2, 4, 5] (.reg [.p (.ld 7 30 (.tmp 2)), .p (.cm (some 8) 62 [false] [.tmp 7] [30]), .p (.bd 9 38 [(0, .tmp 8)]), .p (.al 5 38), .p (.st 38 (.tmp 5) (.tmp 9))])
  (.sq [2, 4, 5, 6] (.reg [.p (.fa 10 30 (.tmp 2) 5), .p (.ld 11 28 (.tmp 10)), .p (.mv 12 (.tmp 1)), .p (.cl (some 13) 109 [.tmp 11, .tmp 12] [28, 3]), .p (.as 6 (.tmp 13))])
   (.sq [2, 4, 5] (.sq [2, 4, 5, 6, 18] (.reg [.p (.mv 14 (.tmp 6)), .p (.ln 15 28 (.tmp 14)), .p (.fa 16 30 (.tmp 2) 0), .p (.ld 17 3 (.tmp 16)), .p (.bn 18 .lss 3 (.tmp 15) (.tmp 17) 3)])
     (.cond (.tmp 18)
      (.sq [4, 5] (.reg [.p (.mv 19 (.tmp 6)), .p (.fa 20 38 (.tmp 5) 0), .p (.fa 21 30 (.tmp 20) 5), .p (.st 28 (.tmp 21) (.tmp 19))])
       (.sq [4] (.reg [.p (.ld 22 38 (.tmp 5)), .p (.st 38 (.tmp 4) (.tmp 22))])
        (.ret)))
      (.skip)))
    (.sq [2, 4, 5] (.reg [.p (.fa 23 30 (.tmp 2) 4), .p (.ld 24 27 (.tmp 23)), .p (.bs 25 36 1 [(0, .tmp 24)]), .p (.fa 26 38 (.tmp 5) 3), .p (.st 36 (.tmp 26) (.tmp 25))])
     (.sq [4, 5] (.reg [.p (.fa 27 30 (.tmp 2) 4), .p (.ld 28 27 (.tmp 27)), .p (.fa 29 38 (.tmp 5) 0), .p (.fa 30 30 (.tmp 29) 6), .p (.st 27 (.tmp 30) (.tmp 28))])
      (.sq [4, 5] (.reg [.p (.fa 31 38 (.tmp 5) 0), .p (.fa 32 30 (.tmp 31) 3), .p (.st 3 (.tmp 32) (.const (.int .i64 0)))])
       (.sq [4, 5] (.reg [.p (.bd 33 27 []), .p (.fa 34 38 (.tmp 5) 0), .p (.fa 35 30 (.tmp 34) 4), .p (.st 27 (.tmp 35) (.tmp 33))])
        (.sq [4, 5] (.reg [.p (.bs 36 28 0 []), .p (.fa 37 38 (.tmp 5) 0), .p (.fa 38 30 (.tmp 37) 5), .p (.st 28 (.tmp 38) (.tmp 36))])
         (.sq [4] (.reg [.p (.ld 39 38 (.tmp 5)), .p (.st 38 (.tmp 4) (.tmp 39))])
          (.ret))))))))))
theorem b61 : BodyOK Try.prog 61 c61 40 [.cell 4 38] := ⟨Try.f61, by kernel_rfl, by kernel_rfl, by kernel_rfl, by kernel_rfl, by kernel_rfl⟩

@[go_sem] def c60 : SC J := .sq [1, 3, 5, 6] (.reg [.p (.bx 3 30 (.tmp 0)), .p (.bx 5 45 (.tmp 2)), .p (.al 6 38)])
 (.sq [1, 3, 5, 6, 7] (.reg [.p (.ld 11 30 (.tmp 3)), .p (.cm (some 12) 62 [false] [.tmp 11] [30]), .p (.bd 13 38 [(0, .tmp 12)]), .p (.al 7 38), .p (.st 38 (.tmp 7) (.tmp 13))])
  (.sq [1, 3, 6, 7, 8] (.reg [.p (.fa 14 45 (.tmp 5) 3), .p (.ld 15 3 (.tmp 14)), .p (.fa 16 45 (.tmp 5) 4), .p (.ld 17 25 (.tmp 16)), .p (.bd 18 27 [(0, .tmp 15), (1, .tmp 17)]), .p (.al 8 27), .p (.st 27 (.tmp 8) (.tmp 18))])
   (.sq [1, 3, 6, 7, 8] (.sq [1, 3, 6, 7, 8, 35] (.reg [.p (.fa 19 27 (.tmp 8) 0), .p (.ld 20 3 (.tmp 19)), .p (.bn 21 .eql 3 (.tmp 20) (.const (.int .i64 0)) 3), .p (.mv 22 (.tmp 21)), .g 22 false (.fa 23 27 (.tmp 8) 0), .g 22 false (.ld 24 3 (.tmp 23)), .g 22 false (.fa 25 30 (.tmp 3) 6), .g 22 false (.fa 26 27 (.tmp 25) 0), .g 22 false (.ld 27 3 (.tmp 26)), .g 22 false (.bn 28 .lss 3 (.tmp 24) (.tmp 27) 3), .p (.pk 29 (.tmp 22) (.const (.bool true)) (.tmp 28)), .p (.mv 30 (.tmp 29)), .g 30 false (.ld 31 27 (.tmp 8)), .g 30 false (.fa 32 30 (.tmp 3) 6), .g 30 false (.ld 33 27 (.tmp 32)), .g 30 false (.bn 34 .eql 27 (.tmp 31) (.tmp 33) 27), .p (.pk 35 (.tmp 30) (.const (.bool true)) (.tmp 34))])
     (.cond (.tmp 35)
      (.sq [6] (.reg [.p (.ld 36 38 (.tmp 7)), .p (.st 38 (.tmp 6) (.tmp 36))])
       (.ret))
      (.skip)))
    (.sq [1, 3, 6, 7, 8] (.sq [1, 3, 6, 7, 8, 42] (.reg [.p (.fa 37 27 (.tmp 8) 0), .p (.ld 38 3 (.tmp 37)), .p (.fa 39 30 (.tmp 3) 6), .p (.fa 40 27 (.tmp 39) 0), .p (.ld 41 3 (.tmp 40)), .p (.bn 42 .eql 3 (.tmp 38) (.tmp 41) 3)])
      (.cond (.tmp 42)
       (.sq [6, 7] (.reg [.p (.fa 43 30 (.tmp 3) 6), .p (.ld 44 27 (.tmp 43)), .p (.ld 45 27 (.tmp 8)), .p (.bd 46 151 [(0, .const (.int .i64 1)), (2, .tmp 44), (3, .tmp 45)]), .p (.bs 47 35 1 [(0, .tmp 46)]), .p (.fa 48 38 (.tmp 7) 2), .p (.st 35 (.tmp 48) (.tmp 47))])
        (.sq [6] (.reg [.p (.ld 49 38 (.tmp 7)), .p (.st 38 (.tmp 6) (.tmp 49))])
         (.ret)))
       (.skip)))
     (.sq [1, 3, 6, 7, 8] (.reg [.p (.fa 50 38 (.tmp 7) 0), .p (.fa 51 30 (.tmp 50) 3), .p (.st 3 (.tmp 51) (.const (.int .i64 2)))])
      (.sq [1, 3, 6, 7, 8] (.reg [.p (.ld 52 27 (.tmp 8)), .p (.fa 53 38 (.tmp 7) 0), .p (.fa 54 30 (.tmp 53) 4), .p (.st 27 (.tmp 54) (.tmp 52))])
       (.sq [1, 3, 6, 7, 9] (.reg [.p (.fa 55 30 (.tmp 3) 2), .p (.ld 56 3 (.tmp 55)), .p (.fa 57 27 (.tmp 8) 0), .p (.ld 58 3 (.tmp 57)), .p (.fa 59 27 (.tmp 8) 1), .p (.ld 60 25 (.tmp 59)), .p (.bd 61 45 [(0, .const (.int .i64 3)), (1, .tmp 56), (3, .tmp 58), (4, .tmp 60)]), .p (.al 9 45), .p (.st 45 (.tmp 9) (.tmp 61))])
        (.sq [6, 7] (.sq [1, 3, 6, 7, 9, 10] (.reg [.p (.as 10 (.const (.int .i64 1)))])
          (.block 0 (.lp [1, 3, 6, 7, 9, 10] (.sq [1, 3, 6, 7, 9, 10] (.sq [1, 3, 6, 7, 9, 10, 65] (.reg [.p (.mv 62 (.tmp 10)), .p (.fa 63 30 (.tmp 3) 1), .p (.ld 64 3 (.tmp 63)), .p (.bn 65 .leq 3 (.tmp 62) (.tmp 64) 3)])
              (.cond (.tmp 65)
               (.skip)
               (.exit 0)))
             (.sq [1, 3, 6, 7, 9, 10] (.block 1 (.dr (.pu 0 (.pu 1 (.pu 2 (.pu 3 (.pu 4 (.ef 5 [1] (.pu 6 (.ef 7 [1] (.ef 8 [] (.pu 9 (.ef 10 [] (.nil)))))))))))) [[], [0], [], [], [], [4], [2, 3, 4, 5], [2, 3, 4, 5, 6], [0, 1, 2, 3, 4, 5, 6, 7], [0, 1, 2, 3, 4, 5, 6, 7, 8], [0, 1, 2, 3, 4, 5, 6, 7, 8, 9]] [.p (.fa 68 38 (.tmp 7) 1), .p (.ld 69 34 (.tmp 68)), .p (.mv 70 (.tmp 1)), .p (.mv 71 (.tmp 10)), .p (.ld 72 45 (.tmp 9)), .p (.cl (some 73) 12 [.tmp 72] [45]), .p (.bd 74 47 [(0, .tmp 70), (1, .tmp 71), (2, .tmp 73)]), .p (.bs 75 34 1 [(0, .tmp 74)]), .p (.ap (some 76) 34 34 (.tmp 69) (.tmp 75)), .p (.fa 77 38 (.tmp 7) 1), .p (.st 34 (.tmp 77) (.tmp 76))] [[], [0], [], [], [], [4], [2, 3, 5], [6], [1, 7, 5], [0, 1, 2, 3, 4, 5, 6, 7, 8], [9, 8, 8, 0, 1, 2, 3, 4, 5, 6, 7, 8]]))
              (.reg [.p (.mv 66 (.tmp 10)), .p (.bn 67 .add 3 (.tmp 66) (.const (.int .i64 1)) 3), .p (.as 10 (.tmp 67))]))))))
         (.sq [6] (.reg [.p (.ld 78 38 (.tmp 7)), .p (.st 38 (.tmp 6) (.tmp 78))])
          (.ret))))))))))
theorem b60 : BodyOK Try.prog 60 c60 79 [.cell 6 38] := ⟨Try.f60, by kernel_rfl, by kernel_rfl, by kernel_rfl, by kernel_rfl, by kernel_rfl⟩
set_option maxRecDepth 100000 in
@[go_sem] theorem k60_0 : chkT (.pu 0 (.pu 1 (.pu 2 (.pu 3 (.pu 4 (.ef 5 [1] (.pu 6 (.ef 7 [1] (.ef 8 [] (.pu 9 (.ef 10 [] (.nil)))))))))))) [[], [0], [], [], [], [4], [2, 3, 4, 5], [2, 3, 4, 5, 6], [0, 1, 2, 3, 4, 5, 6, 7], [0, 1, 2, 3, 4, 5, 6, 7, 8], [0, 1, 2, 3, 4, 5, 6, 7, 8, 9]] (soI [.p (.fa 68 38 (.tmp 7) 1), .p (.ld 69 34 (.tmp 68)), .p (.mv 70 (.tmp 1)), .p (.mv 71 (.tmp 10)), .p (.ld 72 45 (.tmp 9)), .p (.cl (some 73) 12 [.tmp 72] [45]), .p (.bd 74 47 [(0, .tmp 70), (1, .tmp 71), (2, .tmp 73)]), .p (.bs 75 34 1 [(0, .tmp 74)]), .p (.ap (some 76) 34 34 (.tmp 69) (.tmp 75)), .p (.fa 77 38 (.tmp 7) 1), .p (.st 34 (.tmp 77) (.tmp 76))]) [[], [0], [], [], [], [4], [2, 3, 5], [6], [1, 7, 5], [0, 1, 2, 3, 4, 5, 6, 7, 8], [9, 8, 8, 0, 1, 2, 3, 4, 5, 6, 7, 8]] = true := by kernel_rfl

@[go_sem] def c15 : SC J := .sq [1, 3, 5, 6] (.reg [.p (.bx 3 30 (.tmp 0)), .p (.bx 5 47 (.tmp 2)), .p (.al 6 38)])
 (.sq [1, 3, 5, 6] (.sq [1, 3, 5, 6, 22] (.reg [.p (.ld 10 30 (.tmp 3)), .p (.cl (some 11) 9 [.tmp 10] [30]), .p (.un 12 .not 4 (.tmp 11)), .p (.mv 13 (.tmp 12)), .g 13 false (.mv 14 (.tmp 1)), .g 13 false (.cl (some 15) 59 [.tmp 14] [3]), .g 13 false (.un 16 .not 4 (.tmp 15)), .p (.pk 17 (.tmp 13) (.const (.bool true)) (.tmp 16)), .p (.mv 18 (.tmp 17)), .g 18 false (.ld 19 47 (.tmp 5)), .g 18 false (.cl (some 20) 16 [.tmp 19] [47]), .g 18 false (.un 21 .not 4 (.tmp 20)), .p (.pk 22 (.tmp 18) (.const (.bool true)) (.tmp 21))])
   (.cond (.tmp 22)
    (.sq [6] (.reg [.p (.bd 23 38 []), .p (.st 38 (.tmp 6) (.tmp 23))])
     (.ret))
    (.skip)))
  (.sq [1, 3, 5, 6, 7, 8] (.reg [.p (.fa 25 47 (.tmp 5) 2), .p (.ld 26 9 (.tmp 25)), .p (.cl (some 27) 17 [.tmp 26] [9]), .p (.mv 24 (.tmp 27)), .p (.ex 28 (.tmp 24) 0), .p (.ex 29 (.tmp 24) 1), .p (.al 7 45), .p (.al 8 55), .p (.st 45 (.tmp 7) (.tmp 28)), .p (.st 55 (.tmp 8) (.tmp 29))])
   (.sq [3, 5, 6, 7, 8] (.sq [1, 3, 5, 6, 7, 8, 54] (.reg [.p (.fa 30 55 (.tmp 8) 0), .p (.ld 31 3 (.tmp 30)), .p (.bn 32 .eql 3 (.tmp 31) (.const (.int .i64 0)) 3), .p (.mv 33 (.tmp 32)), .g 33 true (.fa 34 45 (.tmp 7) 0), .g 33 true (.ld 35 3 (.tmp 34)), .g 33 true (.bn 36 .eql 3 (.tmp 35) (.const (.int .i64 2)) 3), .p (.pk 37 (.tmp 33) (.tmp 36) (.const (.bool false))), .p (.mv 38 (.tmp 37)), .g 38 true (.fa 39 47 (.tmp 5) 0), .g 38 true (.ld 40 3 (.tmp 39)), .g 38 true (.bn 41 .eql 3 (.tmp 40) (.const (.int .i64 0)) 3), .p (.pk 42 (.tmp 38) (.tmp 41) (.const (.bool false))), .p (.mv 43 (.tmp 42)), .g 43 true (.fa 44 30 (.tmp 3) 3), .g 43 true (.ld 45 3 (.tmp 44)), .g 43 true (.bn 46 .eql 3 (.tmp 45) (.const (.int .i64 1)) 3), .p (.pk 47 (.tmp 43) (.tmp 46) (.const (.bool false))), .p (.mv 48 (.tmp 47)), .g 48 true (.fa 49 45 (.tmp 7) 1), .g 48 true (.ld 50 3 (.tmp 49)), .g 48 true (.fa 51 30 (.tmp 3) 2), .g 48 true (.ld 52 3 (.tmp 51)), .g 48 true (.bn 53 .eql 3 (.tmp 50) (.tmp 52) 3), .p (.pk 54 (.tmp 48) (.tmp 53) (.const (.bool false)))])
     (.cond (.tmp 54)
      (.sq [6] (.reg [.p (.ld 55 30 (.tmp 3)), .p (.mv 56 (.tmp 1)), .p (.ld 57 45 (.tmp 7)), .p (.cl (some 58) 60 [.tmp 55, .tmp 56, .tmp 57] [30, 3, 45]), .p (.st 38 (.tmp 6) (.tmp 58))])
       (.ret))
      (.skip)))
    (.sq [3, 6] (.sq [3, 5, 6, 7, 85] (.reg [.p (.fa 59 55 (.tmp 8) 0), .p (.ld 60 3 (.tmp 59)), .p (.bn 61 .eql 3 (.tmp 60) (.const (.int .i64 0)) 3), .p (.mv 62 (.tmp 61)), .g 62 true (.fa 63 45 (.tmp 7) 0), .g 62 true (.ld 64 3 (.tmp 63)), .g 62 true (.bn 65 .eql 3 (.tmp 64) (.const (.int .i64 6)) 3), .p (.pk 66 (.tmp 62) (.tmp 65) (.const (.bool false))), .p (.mv 67 (.tmp 66)), .g 67 true (.fa 68 47 (.tmp 5) 0), .g 67 true (.ld 69 3 (.tmp 68)), .g 67 true (.fa 70 30 (.tmp 3) 1), .g 67 true (.ld 71 3 (.tmp 70)), .g 67 true (.cl (some 72) 42 [.tmp 69, .const (.int .i64 1), .tmp 71] [3, 3, 3]), .p (.pk 73 (.tmp 67) (.tmp 72) (.const (.bool false))), .p (.mv 74 (.tmp 73)), .g 74 true (.fa 75 30 (.tmp 3) 3), .g 74 true (.ld 76 3 (.tmp 75)), .g 74 true (.bn 77 .eql 3 (.tmp 76) (.const (.int .i64 2)) 3), .p (.pk 78 (.tmp 74) (.tmp 77) (.const (.bool false))), .p (.mv 79 (.tmp 78)), .g 79 true (.fa 80 45 (.tmp 7) 1), .g 79 true (.ld 81 3 (.tmp 80)), .g 79 true (.fa 82 30 (.tmp 3) 2), .g 79 true (.ld 83 3 (.tmp 82)), .g 79 true (.bn 84 .eql 3 (.tmp 81) (.tmp 83) 3), .p (.pk 85 (.tmp 79) (.tmp 84) (.const (.bool false)))])
      (.cond (.tmp 85)
       (.sq [3, 5, 6, 9] (.reg [.p (.fa 86 45 (.tmp 7) 3), .p (.ld 87 3 (.tmp 86)), .p (.fa 88 45 (.tmp 7) 4), .p (.ld 89 25 (.tmp 88)), .p (.bd 90 27 [(0, .tmp 87), (1, .tmp 89)]), .p (.al 9 27), .p (.st 27 (.tmp 9) (.tmp 90))])
        (.sq [3, 5, 6, 94] (.reg [.p (.ld 91 27 (.tmp 9)), .p (.fa 92 30 (.tmp 3) 4), .p (.ld 93 27 (.tmp 92)), .p (.bn 94 .eql 27 (.tmp 91) (.tmp 93) 27)])
         (.cond (.tmp 94)
          (.sq [6] (.reg [.p (.ld 95 30 (.tmp 3)), .p (.fa 96 47 (.tmp 5) 0), .p (.ld 97 3 (.tmp 96)), .p (.cl (some 98) 61 [.tmp 95, .tmp 97] [30, 3]), .p (.st 38 (.tmp 6) (.tmp 98))])
           (.ret))
          (.skip))))
       (.skip)))
     (.sq [6] (.reg [.p (.ld 99 30 (.tmp 3)), .p (.cm (some 100) 62 [false] [.tmp 99] [30]), .p (.bd 101 38 [(0, .tmp 100)]), .p (.st 38 (.tmp 6) (.tmp 101))])
      (.ret))))))
theorem b15 : BodyOK Try.prog 15 c15 102 [.cell 6 38] := ⟨Try.f15, by kernel_rfl, by kernel_rfl, by kernel_rfl, by kernel_rfl, by kernel_rfl⟩

structure MAl where
  kind : Int
  who : Int
  held : MPt
  told : MPt
  code : Int
def MAl.cs (a : MAl) : List AV := [vI a.kind, vI a.who, vI a.held.size, vU a.held.root.a, vU a.held.root.b, vU a.held.root.c, vU a.held.root.d, vI a.told.size, vU a.told.root.a, vU a.told.root.b, vU a.told.root.c, vU a.told.root.d, vI a.code]
structure MTold where
  cl : MCl
  letters : List MLet
  alarms : List MAl
  acc : List MPt
def MCl.av (c : MCl) (p : List Nat) : AV := .agg (c.cs (.blk 0 0 p 1 0 c.acks.length))
def MTold.cs (t : MTold) (a l x p : AV) : List AV := t.cl.cs a ++ [l, x, p]
def MTold.av (t : MTold) : AV := .agg (t.cs (.blk 0 0 [9] 1 0 t.cl.acks.length) (.blk 0 0 [15] 3 0 t.letters.length) (.blk 0 0 [16] 13 0 t.alarms.length) (.blk 0 0 [17] 5 0 t.acc.length))
def MCl.ar (c : MCl) : Row := ⟨1, c.acks.map intC, 2, false⟩
def MTold.lr (t : MTold) : Row := ⟨3, t.letters.map MLet.cs, 2, false⟩
def MTold.xr (t : MTold) : Row := ⟨13, t.alarms.map MAl.cs, 2, false⟩
def MTold.pr (t : MTold) : Row := ⟨5, t.acc.map MPt.cs, 2, false⟩
def MTold.rf (t : MTold) : List (List Nat × Row) := [([9], t.cl.ar), ([15], t.lr), ([16], t.xr), ([17], t.pr)]
def zCl : List AV := [vI 0, vI 0, vI 0, vI 0, vI 0, .sc (.int .u64 0), .sc (.int .u64 0), .sc (.int .u64 0), .sc (.int .u64 0), .nilS, vI 0, .sc (.int .u64 0), .sc (.int .u64 0), .sc (.int .u64 0), .sc (.int .u64 0)]
attribute [go_sem] zCl MAl.cs MCl.av MTold.cs MTold.av MCl.ar MTold.lr MTold.xr MTold.pr MTold.rf
theorem take_step {α : Type} {l : List α} {i : Nat} (h : i < l.length) : l.take (i + 1) = l.take i ++ [l[i]] := List.take_succ_eq_append_getElem h
theorem c62_c (c : MCl) (hl : c.acks.length ≤ 100) : CallM Try.prog 62 [] [c.ro] (c.av []) [(0, 0, one c.ar)] := by
  refine callM_of_jv b62 rfl ?_
  have hl' : c.acks.length ≤ maxLen := by unfold maxLen; omega
  simp -implicitDefEqProofs only [go_sem]
  refine jv_lp (fun m s => ∃ i : Nat, i ≤ c.acks.length ∧ m = c.acks.length - i ∧ s = ⟨24, [(1, .ptr 1 0 [] 15 0 0), (2, .ptr 2 0 [] 15 0 0), (3, .blk 3 0 [] 1 0 (c.acks.take i).length), (4, vI i)], [(1, 0, one ⟨15, [c.cs (.ro 1 (c.acks.map intC))], 0, false⟩), (2, 0, one ⟨15, [zCl], 0, false⟩), (3, 0, one ⟨1, (c.acks.take i).map intC, 2, false⟩)], 1⟩) c.acks.length ?_ ?_
  · simp -implicitDefEqProofs only [go_sem]
    exact ⟨0, Nat.zero_le _, rfl, rfl⟩
  · rintro m s ⟨i, hi, rfl, rfl⟩
    rcases Nat.lt_or_ge i c.acks.length with hlt | hge
    · have hlt' : (i : Int) < (c.acks.length : Int) := by omega
      have hg : c.acks[i]? = some c.acks[i] := List.getElem?_eq_getElem hlt
      have hw := wrap_succ hlt hl'
      have ha : ∀ x, _ := fun x => app_ok (E := intC) (l := c.acks.take i) (xs := [x]) (b := 8) (n := 1000) (by simp; omega) (by omega) (by omega)
      simp -implicitDefEqProofs only [go_sem, hlt', hg, hw, ha]
      refine ⟨_, by omega, i + 1, hlt, rfl, ?_⟩
      rw [take_step hlt]
      simp only [List.map_append, List.length_append, List.length_map, List.map_cons, List.map_nil, List.length_cons, List.length_nil, intC]
      try rfl
    · have hi : i = c.acks.length := by omega
      subst hi
      have hlt' : ¬ ((c.acks.length : Int) < (c.acks.length : Int)) := by omega
      simp -implicitDefEqProofs only [go_sem, hlt', List.take_length]
theorem c59_c (n : Int) : CallR Try.prog 59 [vI n] (vB (mIn n 1 20)) [] := by
  refine callR_of_jv b59 rfl ?_
  simp -implicitDefEqProofs only [go_sem]
  refine Want.intro (c42_c _ _ _) ?_
  simp -implicitDefEqProofs only [go_sem]
/-- The witnesses with one more, from a place on. -/
def ackGo (w : Int) : List Int → Bool → List Int
  | [], put => if put then [] else [w]
  | a :: l, put => (if !put && decide (a ≥ w) then [w] else []) ++ ((if a != w then [a] else []) ++ ackGo w l (put || decide (a ≥ w)))
def mAcks (l : List Int) (w : Int) : List Int := ackGo w l false
theorem ackGo_len (w : Int) : ∀ (l : List Int) (put : Bool), (ackGo w l put).length ≤ 2 * l.length + 1
  | [], put => by cases put <;> simp [ackGo]
  | a :: l, put => by
    have := ackGo_len w l (put || decide (a ≥ w))
    simp only [ackGo, List.length_append, List.length_cons]
    split <;> split <;> simp only [List.length_cons, List.length_nil] <;> omega
theorem ackGo_drop {w : Int} {l : List Int} {i : Nat} (h : i < l.length) (put : Bool) : ackGo w (l.drop i) put = (if !put && decide (l[i] ≥ w) then [w] else []) ++ ((if l[i] != w then [l[i]] else []) ++ ackGo w (l.drop (i + 1)) (put || decide (l[i] ≥ w))) := by
  rw [List.drop_eq_getElem_cons h]; rfl
theorem c109_c (l : List Int) (w : Int) (hl : l.length ≤ 100) : CallR Try.prog 109 [.ro 1 (l.map intC), vI w] (.blk 0 0 [] 1 0 (mAcks l w).length) [([], ⟨1, (mAcks l w).map intC, 2, false⟩)] := by
  refine callR_of_jv b109 rfl ?_
  have hl' : l.length ≤ maxLen := by unfold maxLen; omega
  simp -implicitDefEqProofs only [go_sem]
  refine jv_lp (fun m s => ∃ (i : Nat) (o : List Int) (put : Bool), i ≤ l.length ∧ m = l.length - i ∧ o.length ≤ 2 * i ∧ o ++ ackGo w (l.drop i) put = mAcks l w ∧ s = ⟨49, [(0, .ro 1 (l.map intC)), (1, vI w), (5, .blk 5 0 [] 1 0 o.length), (6, vB put), (7, vI i)], [(5, 0, one ⟨1, o.map intC, 2, false⟩)], 1⟩) l.length ?_ ?_
  · simp -implicitDefEqProofs only [go_sem]
    exact ⟨0, [], false, Nat.zero_le _, rfl, Nat.le_refl _, rfl, rfl⟩
  · rintro m s ⟨i, o, put, hi, rfl, ho, hx, rfl⟩
    rcases Nat.lt_or_ge i l.length with hlt | hge
    · have hlt' : (i : Int) < (l.length : Int) := by omega
      have hg : l[i]? = some l[i] := List.getElem?_eq_getElem hlt
      have hw := wrap_succ hlt hl'
      rw [ackGo_drop hlt] at hx
      have ha : ∀ x, _ := fun x => app_ok (E := intC) (l := o) (xs := [x]) (b := 8) (n := 1000) (by simp; omega) (by omega) (by omega)
      have ha2 : ∀ x y : List AV, (o.map intC ++ [x] ++ [y]).length ≤ maxLen ∧ (o.map intC ++ [x] ++ [y]).length * 8 ≤ 140737488355328 := fun x y => by unfold maxLen; simp; omega
      cases hd : decide (l[i] ≥ w) <;> cases he : (l[i] != w) <;> cases put
      all_goals simp only [hd, he, Bool.not_true, Bool.not_false, Bool.and_true, Bool.and_false, Bool.true_and, Bool.false_and, if_true, if_false, Bool.false_eq_true, Bool.or_true, Bool.or_false, List.nil_append] at hx
      all_goals simp -implicitDefEqProofs only [go_sem, hlt', hg]
      all_goals repeat' first | (refine guardP_intro (fun h => ?_) (fun h => ?_) <;> try simp -implicitDefEqProofs only [go_sem, hlt', hg, hd, he, hw, ha, ha2, guardP_tt, guardP_ff, guardP_tf, guardP_ft, condJ_true, condJ_false, h]) | (refine condJ_intro (fun h => ?_) (fun h => ?_) <;> try simp -implicitDefEqProofs only [go_sem, hlt', hg, hd, he, hw, ha, ha2, guardP_tt, guardP_ff, guardP_tf, guardP_ft, condJ_true, condJ_false, h])
      all_goals first
        | (rw [hd] at h; cases h; done)
        | (rw [he] at h; cases h; done)
        | (refine ⟨_, by omega, i + 1, o, true, hlt, rfl, ?_, ?_, ?_⟩; all_goals first | omega | (simp; omega) | (rw [← hx]; simp; done) | (simp [intC]; done))
        | (refine ⟨_, by omega, i + 1, o, false, hlt, rfl, ?_, ?_, ?_⟩; all_goals first | omega | (simp; omega) | (rw [← hx]; simp; done) | (simp [intC]; done))
        | (refine ⟨_, by omega, i + 1, o ++ [l[i]], true, hlt, rfl, ?_, ?_, ?_⟩; all_goals first | omega | (simp; omega) | (rw [← hx]; simp; done) | (simp [intC]; done))
        | (refine ⟨_, by omega, i + 1, o ++ [l[i]], false, hlt, rfl, ?_, ?_, ?_⟩; all_goals first | omega | (simp; omega) | (rw [← hx]; simp; done) | (simp [intC]; done))
        | (refine ⟨_, by omega, i + 1, o ++ [w], true, hlt, rfl, ?_, ?_, ?_⟩; all_goals first | omega | (simp; omega) | (rw [← hx]; simp; done) | (simp [intC]; done))
        | (refine ⟨_, by omega, i + 1, o ++ [w], false, hlt, rfl, ?_, ?_, ?_⟩; all_goals first | omega | (simp; omega) | (rw [← hx]; simp; done) | (simp [intC]; done))
        | (refine ⟨_, by omega, i + 1, o ++ [w] ++ [l[i]], true, hlt, rfl, ?_, ?_, ?_⟩; all_goals first | omega | (simp; omega) | (rw [← hx]; simp; done) | (simp [intC]; done))
        | (refine ⟨_, by omega, i + 1, o ++ [w] ++ [l[i]], false, hlt, rfl, ?_, ?_, ?_⟩; all_goals first | omega | (simp; omega) | (rw [← hx]; simp; done) | (simp [intC]; done))
        | trace_state
    · have hi : i = l.length := by omega
      subst hi
      have hlt' : ¬ ((l.length : Int) < (l.length : Int)) := by omega
      rw [List.drop_length] at hx
      have ha : ∀ x, _ := fun x => app_ok (E := intC) (l := o) (xs := [x]) (b := 8) (n := 1000) (by simp; omega) (by omega) (by omega)
      simp -implicitDefEqProofs only [go_sem, hlt']
      cases put
      · simp -implicitDefEqProofs only [go_sem, ha, condJ_true]
        simp only [ackGo, Bool.false_eq_true, if_false] at hx
        rw [← hx]
        simp [intC]
      · simp -implicitDefEqProofs only [go_sem, condJ_false]
        simp only [ackGo, if_true, List.append_nil] at hx
        rw [← hx]
        try simp
def zTd : List AV := [vI 0, vI 0, vI 0, vI 0, vI 0, .sc (.int .u64 0), .sc (.int .u64 0), .sc (.int .u64 0), .sc (.int .u64 0), .nilS, vI 0, .sc (.int .u64 0), .sc (.int .u64 0), .sc (.int .u64 0), .sc (.int .u64 0), .nilS, .nilS, .nilS]
attribute [go_sem] zTd
def MTold.base (c : MCl) : MTold := ⟨c, [], [], []⟩
def mAck (c : MCl) (w : Int) : MTold :=
  if ((mAcks c.acks w).length : Int) < c.need then ⟨{ c with acks := mAcks c.acks w }, [], [], []⟩
  else ⟨{ c with phase := 0, goal := .zero, acks := [], pin := c.goal }, [], [], [c.goal]⟩
theorem c61_c (c : MCl) (w : Int) (hl : c.acks.length ≤ 100) : CallR Try.prog 61 [c.ro, vI w] (mAck c w).av (mAck c w).rf := by
  refine callR_of_jv b61 rfl ?_
  simp -implicitDefEqProofs only [go_sem]
  refine WantM.intro (c62_c c hl) ?_
  simp -implicitDefEqProofs only [go_sem]
  refine Want.intro (c109_c c.acks w hl) ?_
  unfold mAck
  simp -implicitDefEqProofs only [go_sem]
  refine condJ_intro (fun h => ?_) (fun h => ?_)
  · rw [if_pos (of_decide_eq_true h)]
    simp -implicitDefEqProofs only [go_sem, h]
  · rw [if_neg (of_decide_eq_false h)]
    simp -implicitDefEqProofs only [go_sem, h]
    rfl
def eqP (a b : MPt) : Bool := a.size == b.size && (((a.root.a : Int) == b.root.a) && (((a.root.b : Int) == b.root.b) && (((a.root.c : Int) == b.root.c) && ((a.root.d : Int) == b.root.d))))
def mVouch (c : MCl) (p : MPt) : MMsg := ⟨3, c.session, 0, p.size, p.root, 0, [], []⟩
def mHead (c : MCl) (me : Int) (p : MPt) : MTold :=
  if p.size = 0 ∨ p.size < c.pin.size ∨ eqP p c.pin = true then .base c
  else if p.size = c.pin.size then ⟨c, [], [⟨1, 0, c.pin, p, 0⟩], []⟩
  else ⟨{ c with phase := 2, goal := p }, (List.range c.many.toNat).map (fun i : Nat => MLet.mk me ((i : Int) + 1) (mWireBytes (mVouch c p))), [], []⟩
theorem c60_c (c : MCl) (me : Int) (m : MMsg) (hl : c.acks.length ≤ 100) (hm : c.many ≤ 100) (hr : m.root.ok) : CallR Try.prog 60 [c.ro, vI me, m.ro] (mHead c me ⟨m.size, m.root⟩).av (mHead c me ⟨m.size, m.root⟩).rf := by
  refine callR_of_jv b60 rfl ?_
  simp -implicitDefEqProofs only [go_sem]
  refine WantM.intro (c62_c c hl) ?_
  unfold mHead
  by_cases a : m.size = 0
  · have a' : (m.size == 0) = true := by simpa using a
    rw [if_pos (.inl a)]
    simp -implicitDefEqProofs only [go_sem, a', guardP_tf, condJ_true, MTold.base]
  · have a' : (m.size == 0) = false := by simpa using a
    by_cases b : m.size < c.pin.size
    · rw [if_pos (.inr (.inl b))]
      simp -implicitDefEqProofs only [go_sem, a', b, guardP_ff, guardP_tf, condJ_true, MTold.base]
    · cases e : eqP ⟨m.size, m.root⟩ c.pin with
      | true =>
        rw [if_pos (.inr (.inr rfl))]
        have e' : (m.size == c.pin.size && (((m.root.a : Int) == c.pin.root.a) && (((m.root.b : Int) == c.pin.root.b) && (((m.root.c : Int) == c.pin.root.c) && ((m.root.d : Int) == c.pin.root.d))))) = true := e
        simp -implicitDefEqProofs only [go_sem, a', b, e', guardP_ff, condJ_true, MTold.base]
      | false =>
        rw [if_neg (by simp only [not_or]; exact ⟨a, b, by simp⟩)]
        have e' : (m.size == c.pin.size && (((m.root.a : Int) == c.pin.root.a) && (((m.root.b : Int) == c.pin.root.b) && (((m.root.c : Int) == c.pin.root.c) && ((m.root.d : Int) == c.pin.root.d))))) = false := e
        by_cases d : m.size = c.pin.size
        · have d' : (m.size == c.pin.size) = true := by simpa using d
          rw [if_pos d]
          simp only [d', Bool.true_and] at e'
          simp -implicitDefEqProofs only [go_sem, a', b, e', d', guardP_ff, condJ_true, condJ_false]
          try rfl
        · have d' : (m.size == c.pin.size) = false := by simpa using d
          rw [if_neg d]
          simp -implicitDefEqProofs only [go_sem, a', b, e', d', guardP_ff, condJ_true, condJ_false]
          generalize hF : (fun i : Nat => MLet.mk me ((i : Int) + 1) (mWireBytes (mVouch c ⟨m.size, m.root⟩))) = F
          have hv := wbS (mVouch c ⟨m.size, m.root⟩) rfl rfl hr
          refine jv_lpN [(16007, 3)] (fun x s => ∃ i : Nat, i ≤ c.many.toNat ∧ x = c.many.toNat - i ∧ s = ⟨79, [(1, vI me), (3, .ptr 3 0 [] 15 0 0), (6, .ptr 6 0 [] 18 0 0), (7, .ptr 7 0 [] 18 0 0), (9, .ptr 9 0 [] 11 0 0), (10, vI ((i : Int) + 1))], [(3, 0, one ⟨15, [c.cs (.ro 1 (c.acks.map intC))], 0, false⟩), (6, 0, one ⟨18, [zTd], 0, false⟩), (7, 0, one ⟨18, [MTold.cs ⟨{ c with phase := 2, goal := ⟨m.size, m.root⟩ }, [], [], []⟩ (.blk 10007 0 [] 1 0 c.acks.length) (.blk 20007 0 [] 3 0 ((List.range i).map F).length) .nilS .nilS], 0, false⟩), (10007, 0, one c.ar), (20007, 0, one ⟨3, ((List.range i).map F).map MLet.cs, 2, false⟩), (9, 0, one ⟨11, [[vI 3, vI c.session, vI 0, vI m.size, vU m.root.a, vU m.root.b, vU m.root.c, vU m.root.d, vI 0, .nilS, .nilS]], 0, false⟩)], 1⟩) c.many.toNat ?_ ?_
          · simp -implicitDefEqProofs only [go_sem]
            exact ⟨0, Nat.zero_le _, rfl, rfl⟩
          · rintro x s ⟨i, hi, rfl, rfl⟩
            rcases Nat.lt_or_ge i c.many.toNat with hlt | hge
            · have hlt' : (i : Int) + 1 ≤ c.many := by omega
              have w1 : IntKind.i64.wrap ((i : Int) + 1 + 1) = ((i + 1 : Nat) : Int) + 1 := by rw [wrS (by omega)]; omega
              have ha : ∀ x, _ := fun x => app_ok (E := MLet.cs) (l := (List.range i).map F) (xs := [x]) (b := 32) (n := 1000) (by simp; omega) (by omega) (by omega)
              simp -implicitDefEqProofs only [go_sem, hlt']
              refine Want.intro hv ?_
              simp -implicitDefEqProofs only [go_sem, ha, w1]
              refine ⟨_, by omega, i + 1, hlt, rfl, ?_⟩
              rw [List.range_succ, List.map_append, List.map_cons, List.map_nil, ← hF]
              simp only [List.map_append, List.length_append, List.length_map, List.map_cons, List.map_nil, List.length_cons, List.length_nil, MLet.cs]
              try rfl
            · have hi : i = c.many.toNat := by omega
              subst hi
              have hlt' : ¬ ((c.many.toNat : Int) + 1 ≤ c.many) := by omega
              simp -implicitDefEqProofs only [go_sem, hlt']
              trace_state
end Go.Proofs.Ytkhemolkhegppaa.E
