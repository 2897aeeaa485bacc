/-
  Contracts: readers of the wire.
-/
import Derived.Test.YtkhemolkhegppaaD1
namespace Go.Proofs.Ytkhemolkhegppaa.E
open Go Go.RowKit
set_option maxHeartbeats 4000000
set_option maxRecDepth 10000
set_option linter.unusedSimpArgs false
set_option linter.unusedVariables false
set_option linter.unusedSectionVars false
@[go_sem] def c66 : SC J := .sq [0, 1, 2, 11] (.reg [.p (.mv 6 (.tmp 0)), .p (.nc 7 (.tmp 6)), .p (.fa 8 114 (.tmp 7) 2), .p (.fa 9 55 (.tmp 8) 0), .p (.ld 10 3 (.tmp 9)), .p (.bn 11 .eql 3 (.tmp 10) (.const (.int .i64 0)) 3)])
 (.cond (.tmp 11)
  (.reg [.p (.mv 12 (.tmp 0)), .p (.mv 13 (.tmp 1)), .p (.mv 14 (.tmp 2)), .p (.bd 15 55 [(0, .tmp 13), (1, .tmp 14)]), .p (.nc 16 (.tmp 12)), .p (.fa 17 114 (.tmp 16) 2), .p (.st 55 (.tmp 17) (.tmp 15))])
  (.skip))
theorem b66 : BodyOK Try.prog 66 c66 18 [] := ⟨Try.f66, by kernel_rfl, by kernel_rfl, by kernel_rfl, by kernel_rfl, by kernel_rfl⟩

@[go_sem] def c65 : SC J := .sq [0, 1] (.reg [.p (.as 4 (.const (.string { data := #[] })))])
 (.sq [0, 1] (.sq [0, 1, 11] (.reg [.p (.mv 6 (.tmp 0)), .p (.nc 7 (.tmp 6)), .p (.fa 8 114 (.tmp 7) 2), .p (.fa 9 55 (.tmp 8) 0), .p (.ld 10 3 (.tmp 9)), .p (.bn 11 .neq 3 (.tmp 10) (.const (.int .i64 0)) 3)])
   (.cond (.tmp 11)
    (.sq [4] (.reg [.p (.as 4 (.const (.string { data := #[] })))])
     (.ret))
    (.skip)))
  (.sq [0, 1] (.sq [0, 1, 23] (.dr (.pu 0 (.pu 1 (.pu 2 (.pu 3 (.pu 4 (.pu 5 (.pu 6 (.pu 7 (.pu 8 (.pu 9 (.pu 10 (.pu 11 (.nil))))))))))))) [[], [], [1], [1, 2], [1, 2, 3], [1, 2, 3, 4], [], [6], [6, 7], [6, 7, 8], [1, 2, 3, 4, 5, 6, 7, 8, 9], [0, 1, 2, 3, 4, 5, 6, 7, 8, 9, 10]] [.p (.mv 12 (.tmp 1)), .p (.mv 13 (.tmp 0)), .p (.nc 14 (.tmp 13)), .p (.fa 15 114 (.tmp 14) 0), .p (.ld 16 9 (.tmp 15)), .p (.ln 17 9 (.tmp 16)), .p (.mv 18 (.tmp 0)), .p (.nc 19 (.tmp 18)), .p (.fa 20 114 (.tmp 19) 1), .p (.ld 21 3 (.tmp 20)), .p (.bn 22 .sub 3 (.tmp 17) (.tmp 21) 3), .p (.bn 23 .gtr 3 (.tmp 12) (.tmp 22) 3)] [[], [], [1], [2], [3], [4], [], [6], [7], [8], [5, 9], [0, 10]])
    (.cond (.tmp 23)
     (.sq [] (.reg [.p (.mv 24 (.tmp 0)), .p (.mv 25 (.tmp 0)), .p (.nc 26 (.tmp 25)), .p (.fa 27 114 (.tmp 26) 0), .p (.ld 28 9 (.tmp 27)), .p (.ln 29 9 (.tmp 28)), .p (.cm (some 30) 66 [true, false, false] [.tmp 24, .const (.int .i64 2), .tmp 29] [112, 3, 3])])
      (.sq [4] (.reg [.p (.as 4 (.const (.string { data := #[] })))])
       (.ret)))
     (.skip)))
   (.sq [0, 1, 5] (.dr (.pu 0 (.pu 1 (.pu 2 (.pu 3 (.pu 4 (.pu 5 (.pu 6 (.pu 7 (.pu 8 (.pu 9 (.pu 10 (.pu 11 (.pu 12 (.pu 13 (.pu 14 (.pu 15 (.nil))))))))))))))))) [[], [0], [0, 1], [0, 1, 2], [], [4], [4, 5], [4, 5, 6], [], [8], [8, 9], [8, 9, 10], [], [8, 9, 10, 11, 12], [0, 1, 2, 3, 4, 5, 6, 7, 8, 9, 10, 11, 12, 13], [0, 1, 2, 3, 4, 5, 6, 7, 8, 9, 10, 11, 12, 13, 14]] [.p (.mv 31 (.tmp 0)), .p (.nc 32 (.tmp 31)), .p (.fa 33 114 (.tmp 32) 0), .p (.ld 34 9 (.tmp 33)), .p (.mv 35 (.tmp 0)), .p (.nc 36 (.tmp 35)), .p (.fa 37 114 (.tmp 36) 1), .p (.ld 38 3 (.tmp 37)), .p (.mv 39 (.tmp 0)), .p (.nc 40 (.tmp 39)), .p (.fa 41 114 (.tmp 40) 1), .p (.ld 42 3 (.tmp 41)), .p (.mv 43 (.tmp 1)), .p (.bn 44 .add 3 (.tmp 42) (.tmp 43) 3), .p (.sl 45 9 (.tmp 34) (some (.tmp 38)) (some (.tmp 44)) none), .p (.as 5 (.tmp 45))] [[], [0], [1], [2], [], [4], [5], [6], [], [8], [9], [10], [], [11, 12], [3, 7, 13], [14, 0, 1, 2, 3, 4, 5, 6, 7, 8, 9, 10, 11, 12, 13, 14]])
    (.sq [5] (.reg [.p (.mv 46 (.tmp 0)), .p (.mv 47 (.tmp 0)), .p (.nc 48 (.tmp 47)), .p (.fa 49 114 (.tmp 48) 1), .p (.ld 50 3 (.tmp 49)), .p (.mv 51 (.tmp 1)), .p (.bn 52 .add 3 (.tmp 50) (.tmp 51) 3), .p (.nc 53 (.tmp 46)), .p (.fa 54 114 (.tmp 53) 1), .p (.st 3 (.tmp 54) (.tmp 52))])
     (.sq [4] (.reg [.p (.mv 55 (.tmp 5)), .p (.as 4 (.tmp 55))])
      (.ret))))))
theorem b65 : BodyOK Try.prog 65 c65 56 [.tmp 4] := ⟨Try.f65, by kernel_rfl, by kernel_rfl, by kernel_rfl, by kernel_rfl, by kernel_rfl⟩
set_option maxRecDepth 100000 in
@[go_sem] theorem k65_0 : chkT (.pu 0 (.pu 1 (.pu 2 (.pu 3 (.pu 4 (.pu 5 (.pu 6 (.pu 7 (.pu 8 (.pu 9 (.pu 10 (.pu 11 (.pu 12 (.pu 13 (.pu 14 (.pu 15 (.nil))))))))))))))))) [[], [0], [0, 1], [0, 1, 2], [], [4], [4, 5], [4, 5, 6], [], [8], [8, 9], [8, 9, 10], [], [8, 9, 10, 11, 12], [0, 1, 2, 3, 4, 5, 6, 7, 8, 9, 10, 11, 12, 13], [0, 1, 2, 3, 4, 5, 6, 7, 8, 9, 10, 11, 12, 13, 14]] (soI [.p (.mv 31 (.tmp 0)), .p (.nc 32 (.tmp 31)), .p (.fa 33 114 (.tmp 32) 0), .p (.ld 34 9 (.tmp 33)), .p (.mv 35 (.tmp 0)), .p (.nc 36 (.tmp 35)), .p (.fa 37 114 (.tmp 36) 1), .p (.ld 38 3 (.tmp 37)), .p (.mv 39 (.tmp 0)), .p (.nc 40 (.tmp 39)), .p (.fa 41 114 (.tmp 40) 1), .p (.ld 42 3 (.tmp 41)), .p (.mv 43 (.tmp 1)), .p (.bn 44 .add 3 (.tmp 42) (.tmp 43) 3), .p (.sl 45 9 (.tmp 34) (some (.tmp 38)) (some (.tmp 44)) none), .p (.as 5 (.tmp 45))]) [[], [0], [1], [2], [], [4], [5], [6], [], [8], [9], [10], [], [11, 12], [3, 7, 13], [14, 0, 1, 2, 3, 4, 5, 6, 7, 8, 9, 10, 11, 12, 13, 14]] = true := by kernel_rfl
set_option maxRecDepth 100000 in
@[go_sem] theorem k65_1 : chkT (.pu 0 (.pu 1 (.pu 2 (.pu 3 (.pu 4 (.pu 5 (.pu 6 (.pu 7 (.pu 8 (.pu 9 (.pu 10 (.pu 11 (.nil))))))))))))) [[], [], [1], [1, 2], [1, 2, 3], [1, 2, 3, 4], [], [6], [6, 7], [6, 7, 8], [1, 2, 3, 4, 5, 6, 7, 8, 9], [0, 1, 2, 3, 4, 5, 6, 7, 8, 9, 10]] (soI [.p (.mv 12 (.tmp 1)), .p (.mv 13 (.tmp 0)), .p (.nc 14 (.tmp 13)), .p (.fa 15 114 (.tmp 14) 0), .p (.ld 16 9 (.tmp 15)), .p (.ln 17 9 (.tmp 16)), .p (.mv 18 (.tmp 0)), .p (.nc 19 (.tmp 18)), .p (.fa 20 114 (.tmp 19) 1), .p (.ld 21 3 (.tmp 20)), .p (.bn 22 .sub 3 (.tmp 17) (.tmp 21) 3), .p (.bn 23 .gtr 3 (.tmp 12) (.tmp 22) 3)]) [[], [], [1], [2], [3], [4], [], [6], [7], [8], [5, 9], [0, 10]] = true := by kernel_rfl

@[go_sem] def c63 : SC J := .sq [0, 1, 2, 3] (.reg [.p (.as 8 (.const (.int .i64 0)))])
 (.sq [0, 1, 2, 3, 9] (.reg [.p (.mv 13 (.tmp 0)), .p (.nc 14 (.tmp 13)), .p (.fa 15 114 (.tmp 14) 1), .p (.ld 16 3 (.tmp 15)), .p (.as 9 (.tmp 16))])
  (.sq [0, 2, 3, 9, 10] (.reg [.p (.mv 17 (.tmp 0)), .p (.mv 18 (.tmp 1)), .p (.cm (some 19) 65 [true, false] [.tmp 17, .tmp 18] [112, 3]), .p (.as 10 (.tmp 19))])
   (.sq [0, 2, 3, 9, 10, 11] (.reg [.p (.as 11 (.const (.int .i64 0)))])
    (.sq [0, 2, 3, 9, 11] (.sq [0, 2, 3, 9, 10, 11, 12] (.reg [.p (.as 12 (.const (.int .i64 0)))])
      (.block 0 (.lp [0, 2, 3, 9, 10, 11, 12] (.sq [0, 2, 3, 9, 10, 11, 12] (.sq [0, 2, 3, 9, 10, 11, 12, 23] (.reg [.p (.mv 20 (.tmp 12)), .p (.mv 21 (.tmp 10)), .p (.ln 22 9 (.tmp 21)), .p (.bn 23 .lss 3 (.tmp 20) (.tmp 22) 3)])
          (.cond (.tmp 23)
           (.skip)
           (.exit 0)))
         (.sq [0, 2, 3, 9, 10, 11, 12] (.block 1 (.reg [.p (.mv 26 (.tmp 11)), .p (.bn 27 .mul 3 (.const (.int .i64 256)) (.tmp 26) 3), .p (.mv 28 (.tmp 10)), .p (.mv 29 (.tmp 12)), .p (.ix 30 9 (.tmp 28) (.tmp 29)), .p (.cv 31 5 3 (.tmp 30)), .p (.bn 32 .add 3 (.tmp 27) (.tmp 31) 3), .p (.as 11 (.tmp 32))]))
          (.reg [.p (.mv 24 (.tmp 12)), .p (.bn 25 .add 3 (.tmp 24) (.const (.int .i64 1)) 3), .p (.as 12 (.tmp 25))]))))))
     (.sq [0, 11] (.sq [0, 9, 11, 45] (.reg [.p (.mv 33 (.tmp 0)), .p (.nc 34 (.tmp 33)), .p (.fa 35 114 (.tmp 34) 2), .p (.fa 36 55 (.tmp 35) 0), .p (.ld 37 3 (.tmp 36)), .p (.bn 38 .eql 3 (.tmp 37) (.const (.int .i64 0)) 3), .p (.mv 39 (.tmp 38)), .g 39 true (.mv 40 (.tmp 11)), .g 39 true (.mv 41 (.tmp 2)), .g 39 true (.mv 42 (.tmp 3)), .g 39 true (.cl (some 43) 42 [.tmp 40, .tmp 41, .tmp 42] [3, 3, 3]), .g 39 true (.un 44 .not 4 (.tmp 43)), .p (.pk 45 (.tmp 39) (.tmp 44) (.const (.bool false)))])
       (.cond (.tmp 45)
        (.reg [.p (.mv 46 (.tmp 0)), .p (.mv 47 (.tmp 9)), .p (.cm (some 48) 66 [true, false, false] [.tmp 46, .const (.int .i64 3), .tmp 47] [112, 3, 3])])
        (.skip)))
      (.sq [11] (.sq [11, 54] (.reg [.p (.mv 49 (.tmp 0)), .p (.nc 50 (.tmp 49)), .p (.fa 51 114 (.tmp 50) 2), .p (.fa 52 55 (.tmp 51) 0), .p (.ld 53 3 (.tmp 52)), .p (.bn 54 .neq 3 (.tmp 53) (.const (.int .i64 0)) 3)])
        (.cond (.tmp 54)
         (.sq [8] (.reg [.p (.as 8 (.const (.int .i64 0)))])
          (.ret))
         (.skip)))
       (.sq [8] (.reg [.p (.mv 55 (.tmp 11)), .p (.as 8 (.tmp 55))])
        (.ret))))))))
theorem b63 : BodyOK Try.prog 63 c63 56 [.tmp 8] := ⟨Try.f63, by kernel_rfl, by kernel_rfl, by kernel_rfl, by kernel_rfl, by kernel_rfl⟩

@[go_sem] def c64 : SC J := .sq [0, 2] (.reg [.p (.al 2 25)])
 (.sq [2, 3] (.reg [.p (.mv 6 (.tmp 0)), .p (.cm (some 7) 65 [true, false] [.tmp 6, .const (.int .i64 32)] [112, 3]), .p (.cl (some 8) 110 [.tmp 7] [9]), .p (.mv 5 (.tmp 8)), .p (.ex 9 (.tmp 5) 0), .p (.ex 10 (.tmp 5) 1), .p (.al 3 25), .p (.st 25 (.tmp 3) (.tmp 9)), .p (.as 4 (.tmp 10))])
  (.sq [2] (.reg [.p (.ld 11 25 (.tmp 3)), .p (.st 25 (.tmp 2) (.tmp 11))])
   (.ret)))
theorem b64 : BodyOK Try.prog 64 c64 12 [.cell 2 25] := ⟨Try.f64, by kernel_rfl, by kernel_rfl, by kernel_rfl, by kernel_rfl, by kernel_rfl⟩

@[go_sem] def c99 : SC J := .sq [0, 1] (.reg [.p (.as 4 (.const (.string { data := #[] })))])
 (.sq [0, 1] (.sq [0, 1, 10] (.reg [.p (.mv 5 (.tmp 0)), .p (.nc 6 (.tmp 5)), .p (.fa 7 147 (.tmp 6) 2), .p (.fa 8 55 (.tmp 7) 0), .p (.ld 9 3 (.tmp 8)), .p (.bn 10 .neq 3 (.tmp 9) (.const (.int .i64 0)) 3)])
   (.cond (.tmp 10)
    (.sq [4] (.reg [.p (.as 4 (.const (.string { data := #[] })))])
     (.ret))
    (.skip)))
  (.sq [0, 1] (.sq [0, 1, 22] (.dr (.pu 0 (.pu 1 (.pu 2 (.pu 3 (.pu 4 (.pu 5 (.pu 6 (.pu 7 (.pu 8 (.pu 9 (.pu 10 (.pu 11 (.nil))))))))))))) [[], [0], [0, 1], [0, 1, 2], [], [0, 1, 2, 3, 4], [], [6], [6, 7], [6, 7, 8], [6, 7, 8, 9], [0, 1, 2, 3, 4, 5, 6, 7, 8, 9, 10]] [.p (.mv 11 (.tmp 0)), .p (.nc 12 (.tmp 11)), .p (.fa 13 147 (.tmp 12) 1), .p (.ld 14 3 (.tmp 13)), .p (.mv 15 (.tmp 1)), .p (.bn 16 .add 3 (.tmp 14) (.tmp 15) 3), .p (.mv 17 (.tmp 0)), .p (.nc 18 (.tmp 17)), .p (.fa 19 147 (.tmp 18) 0), .p (.ld 20 9 (.tmp 19)), .p (.ln 21 9 (.tmp 20)), .p (.bn 22 .gtr 3 (.tmp 16) (.tmp 21) 3)] [[], [0], [1], [2], [], [3, 4], [], [6], [7], [8], [9], [5, 10]])
    (.cond (.tmp 22)
     (.sq [] (.reg [.p (.mv 23 (.tmp 0)), .p (.mv 24 (.tmp 0)), .p (.nc 25 (.tmp 24)), .p (.fa 26 147 (.tmp 25) 0), .p (.ld 27 9 (.tmp 26)), .p (.ln 28 9 (.tmp 27)), .p (.bd 29 55 [(0, .const (.int .i64 2)), (1, .tmp 28)]), .p (.nc 30 (.tmp 23)), .p (.fa 31 147 (.tmp 30) 2), .p (.st 55 (.tmp 31) (.tmp 29))])
      (.sq [4] (.reg [.p (.as 4 (.const (.string { data := #[] })))])
       (.ret)))
     (.skip)))
   (.sq [0, 1] (.reg [.p (.mv 32 (.tmp 0)), .p (.nc 33 (.tmp 32)), .p (.fa 34 147 (.tmp 33) 1), .p (.ld 35 3 (.tmp 34)), .p (.mv 36 (.tmp 1)), .p (.bn 37 .add 3 (.tmp 35) (.tmp 36) 3), .p (.nc 38 (.tmp 32)), .p (.fa 39 147 (.tmp 38) 1), .p (.st 3 (.tmp 39) (.tmp 37))])
    (.sq [4] (.dr (.pu 0 (.pu 1 (.pu 2 (.pu 3 (.pu 4 (.pu 5 (.pu 6 (.pu 7 (.pu 8 (.pu 9 (.pu 10 (.pu 11 (.pu 12 (.pu 13 (.pu 14 (.pu 15 (.nil))))))))))))))))) [[], [0], [0, 1], [0, 1, 2], [], [4], [4, 5], [4, 5, 6], [], [4, 5, 6, 7, 8], [], [10], [10, 11], [10, 11, 12], [0, 1, 2, 3, 4, 5, 6, 7, 8, 9, 10, 11, 12, 13], [0, 1, 2, 3, 4, 5, 6, 7, 8, 9, 10, 11, 12, 13, 14]] [.p (.mv 40 (.tmp 0)), .p (.nc 41 (.tmp 40)), .p (.fa 42 147 (.tmp 41) 0), .p (.ld 43 9 (.tmp 42)), .p (.mv 44 (.tmp 0)), .p (.nc 45 (.tmp 44)), .p (.fa 46 147 (.tmp 45) 1), .p (.ld 47 3 (.tmp 46)), .p (.mv 48 (.tmp 1)), .p (.bn 49 .sub 3 (.tmp 47) (.tmp 48) 3), .p (.mv 50 (.tmp 0)), .p (.nc 51 (.tmp 50)), .p (.fa 52 147 (.tmp 51) 1), .p (.ld 53 3 (.tmp 52)), .p (.sl 54 9 (.tmp 43) (some (.tmp 49)) (some (.tmp 53)) none), .p (.as 4 (.tmp 54))] [[], [0], [1], [2], [], [4], [5], [6], [], [7, 8], [], [10], [11], [12], [3, 9, 13], [14, 0, 1, 2, 3, 4, 5, 6, 7, 8, 9, 10, 11, 12, 13, 14]])
     (.ret)))))
theorem b99 : BodyOK Try.prog 99 c99 55 [.tmp 4] := ⟨Try.f99, by kernel_rfl, by kernel_rfl, by kernel_rfl, by kernel_rfl, by kernel_rfl⟩
set_option maxRecDepth 100000 in
@[go_sem] theorem k99_0 : chkT (.pu 0 (.pu 1 (.pu 2 (.pu 3 (.pu 4 (.pu 5 (.pu 6 (.pu 7 (.pu 8 (.pu 9 (.pu 10 (.pu 11 (.pu 12 (.pu 13 (.pu 14 (.pu 15 (.nil))))))))))))))))) [[], [0], [0, 1], [0, 1, 2], [], [4], [4, 5], [4, 5, 6], [], [4, 5, 6, 7, 8], [], [10], [10, 11], [10, 11, 12], [0, 1, 2, 3, 4, 5, 6, 7, 8, 9, 10, 11, 12, 13], [0, 1, 2, 3, 4, 5, 6, 7, 8, 9, 10, 11, 12, 13, 14]] (soI [.p (.mv 40 (.tmp 0)), .p (.nc 41 (.tmp 40)), .p (.fa 42 147 (.tmp 41) 0), .p (.ld 43 9 (.tmp 42)), .p (.mv 44 (.tmp 0)), .p (.nc 45 (.tmp 44)), .p (.fa 46 147 (.tmp 45) 1), .p (.ld 47 3 (.tmp 46)), .p (.mv 48 (.tmp 1)), .p (.bn 49 .sub 3 (.tmp 47) (.tmp 48) 3), .p (.mv 50 (.tmp 0)), .p (.nc 51 (.tmp 50)), .p (.fa 52 147 (.tmp 51) 1), .p (.ld 53 3 (.tmp 52)), .p (.sl 54 9 (.tmp 43) (some (.tmp 49)) (some (.tmp 53)) none), .p (.as 4 (.tmp 54))]) [[], [0], [1], [2], [], [4], [5], [6], [], [7, 8], [], [10], [11], [12], [3, 9, 13], [14, 0, 1, 2, 3, 4, 5, 6, 7, 8, 9, 10, 11, 12, 13, 14]] = true := by kernel_rfl
set_option maxRecDepth 100000 in
@[go_sem] theorem k99_1 : chkT (.pu 0 (.pu 1 (.pu 2 (.pu 3 (.pu 4 (.pu 5 (.pu 6 (.pu 7 (.pu 8 (.pu 9 (.pu 10 (.pu 11 (.nil))))))))))))) [[], [0], [0, 1], [0, 1, 2], [], [0, 1, 2, 3, 4], [], [6], [6, 7], [6, 7, 8], [6, 7, 8, 9], [0, 1, 2, 3, 4, 5, 6, 7, 8, 9, 10]] (soI [.p (.mv 11 (.tmp 0)), .p (.nc 12 (.tmp 11)), .p (.fa 13 147 (.tmp 12) 1), .p (.ld 14 3 (.tmp 13)), .p (.mv 15 (.tmp 1)), .p (.bn 16 .add 3 (.tmp 14) (.tmp 15) 3), .p (.mv 17 (.tmp 0)), .p (.nc 18 (.tmp 17)), .p (.fa 19 147 (.tmp 18) 0), .p (.ld 20 9 (.tmp 19)), .p (.ln 21 9 (.tmp 20)), .p (.bn 22 .gtr 3 (.tmp 16) (.tmp 21) 3)]) [[], [0], [1], [2], [], [3, 4], [], [6], [7], [8], [9], [5, 10]] = true := by kernel_rfl

@[go_sem] def c101 : SC J := .sq [0, 1, 2, 3] (.reg [.p (.as 8 (.const (.int .i64 0)))])
 (.sq [0, 1, 2, 3, 9] (.reg [.p (.mv 13 (.tmp 0)), .p (.nc 14 (.tmp 13)), .p (.fa 15 147 (.tmp 14) 1), .p (.ld 16 3 (.tmp 15)), .p (.as 9 (.tmp 16))])
  (.sq [0, 2, 3, 9, 10] (.reg [.p (.mv 17 (.tmp 0)), .p (.mv 18 (.tmp 1)), .p (.cm (some 19) 99 [true, false] [.tmp 17, .tmp 18] [145, 3]), .p (.as 10 (.tmp 19))])
   (.sq [0, 2, 3, 9, 10] (.sq [0, 2, 3, 9, 10, 25] (.reg [.p (.mv 20 (.tmp 0)), .p (.nc 21 (.tmp 20)), .p (.fa 22 147 (.tmp 21) 2), .p (.fa 23 55 (.tmp 22) 0), .p (.ld 24 3 (.tmp 23)), .p (.bn 25 .neq 3 (.tmp 24) (.const (.int .i64 0)) 3)])
     (.cond (.tmp 25)
      (.sq [8] (.reg [.p (.as 8 (.const (.int .i64 0)))])
       (.ret))
      (.skip)))
    (.sq [0, 2, 3, 9, 10, 11] (.reg [.p (.as 11 (.const (.int .i64 0)))])
     (.sq [0, 2, 3, 9, 11] (.sq [0, 2, 3, 9, 10, 11, 12] (.reg [.p (.as 12 (.const (.int .i64 0)))])
       (.block 0 (.lp [0, 2, 3, 9, 10, 11, 12] (.sq [0, 2, 3, 9, 10, 11, 12] (.sq [0, 2, 3, 9, 10, 11, 12, 29] (.reg [.p (.mv 26 (.tmp 12)), .p (.mv 27 (.tmp 10)), .p (.ln 28 9 (.tmp 27)), .p (.bn 29 .lss 3 (.tmp 26) (.tmp 28) 3)])
           (.cond (.tmp 29)
            (.skip)
            (.exit 0)))
          (.sq [0, 2, 3, 9, 10, 11, 12] (.block 1 (.reg [.p (.mv 32 (.tmp 11)), .p (.bn 33 .mul 3 (.const (.int .i64 256)) (.tmp 32) 3), .p (.mv 34 (.tmp 10)), .p (.mv 35 (.tmp 12)), .p (.ix 36 9 (.tmp 34) (.tmp 35)), .p (.cv 37 5 3 (.tmp 36)), .p (.bn 38 .add 3 (.tmp 33) (.tmp 37) 3), .p (.as 11 (.tmp 38))]))
           (.reg [.p (.mv 30 (.tmp 12)), .p (.bn 31 .add 3 (.tmp 30) (.const (.int .i64 1)) 3), .p (.as 12 (.tmp 31))]))))))
      (.sq [11] (.sq [0, 9, 11, 43] (.reg [.p (.mv 39 (.tmp 11)), .p (.mv 40 (.tmp 2)), .p (.mv 41 (.tmp 3)), .p (.cl (some 42) 45 [.tmp 39, .tmp 40, .tmp 41] [3, 3, 3]), .p (.un 43 .not 4 (.tmp 42))])
        (.cond (.tmp 43)
         (.sq [] (.reg [.p (.mv 44 (.tmp 0)), .p (.mv 45 (.tmp 9)), .p (.bd 46 55 [(0, .const (.int .i64 3)), (1, .tmp 45)]), .p (.nc 47 (.tmp 44)), .p (.fa 48 147 (.tmp 47) 2), .p (.st 55 (.tmp 48) (.tmp 46))])
          (.sq [8] (.reg [.p (.as 8 (.const (.int .i64 0)))])
           (.ret)))
         (.skip)))
       (.sq [8] (.reg [.p (.mv 49 (.tmp 11)), .p (.as 8 (.tmp 49))])
        (.ret))))))))
theorem b101 : BodyOK Try.prog 101 c101 50 [.tmp 8] := ⟨Try.f101, by kernel_rfl, by kernel_rfl, by kernel_rfl, by kernel_rfl, by kernel_rfl⟩

@[go_sem] def c102 : SC J := .sq [0, 2] (.reg [.p (.al 2 25)])
 (.sq [2, 3] (.reg [.p (.mv 6 (.tmp 0)), .p (.cm (some 7) 99 [true, false] [.tmp 6, .const (.int .i64 32)] [145, 3]), .p (.cl (some 8) 132 [.tmp 7] [9]), .p (.mv 5 (.tmp 8)), .p (.ex 9 (.tmp 5) 0), .p (.ex 10 (.tmp 5) 1), .p (.al 3 25), .p (.st 25 (.tmp 3) (.tmp 9)), .p (.as 4 (.tmp 10))])
  (.sq [2] (.reg [.p (.ld 11 25 (.tmp 3)), .p (.st 25 (.tmp 2) (.tmp 11))])
   (.ret)))
theorem b102 : BodyOK Try.prog 102 c102 12 [.cell 2 25] := ⟨Try.f102, by kernel_rfl, by kernel_rfl, by kernel_rfl, by kernel_rfl, by kernel_rfl⟩

@[go_sem] def c42 : SC J := .sq [0, 1, 2] (.reg [.p (.as 6 (.const (.bool false)))])
 (.sq [6] (.reg [.p (.mv 7 (.tmp 0)), .p (.mv 8 (.tmp 1)), .p (.bn 9 .geq 3 (.tmp 7) (.tmp 8) 3), .p (.mv 10 (.tmp 9)), .g 10 true (.mv 11 (.tmp 0)), .g 10 true (.mv 12 (.tmp 2)), .g 10 true (.bn 13 .leq 3 (.tmp 11) (.tmp 12) 3), .p (.pk 14 (.tmp 10) (.tmp 13) (.const (.bool false))), .p (.as 6 (.tmp 14))])
  (.ret))
theorem b42 : BodyOK Try.prog 42 c42 15 [.tmp 6] := ⟨Try.f42, by kernel_rfl, by kernel_rfl, by kernel_rfl, by kernel_rfl, by kernel_rfl⟩

@[go_sem] def c45 : SC J := .sq [0, 1, 2] (.reg [.p (.as 6 (.const (.bool false)))])
 (.sq [6] (.reg [.p (.mv 7 (.tmp 0)), .p (.mv 8 (.tmp 1)), .p (.bn 9 .geq 3 (.tmp 7) (.tmp 8) 3), .p (.mv 10 (.tmp 9)), .g 10 true (.mv 11 (.tmp 0)), .g 10 true (.mv 12 (.tmp 2)), .g 10 true (.bn 13 .leq 3 (.tmp 11) (.tmp 12) 3), .p (.pk 14 (.tmp 10) (.tmp 13) (.const (.bool false))), .p (.as 6 (.tmp 14))])
  (.ret))
theorem b45 : BodyOK Try.prog 45 c45 15 [.tmp 6] := ⟨Try.f45, by kernel_rfl, by kernel_rfl, by kernel_rfl, by kernel_rfl, by kernel_rfl⟩

def mIn (a b c : Int) : Bool := decide (b ≤ a) && decide (a ≤ c)
structure MRd where
  t : ByteArray
  p : Nat
  code : Int
  at_ : Int
def MRd.cs (r : MRd) : List AV := [vS r.t, vI r.p, vI r.code, vI r.at_]
def MRd.row (r : MRd) : Sig := [(1000000, 0, one ⟨4, [r.cs], 0, false⟩)]
attribute [go_sem] MRd.cs MRd.row
abbrev vP : AV := .ptr 1000000 0 [] 4 0 0
def mFail (r : MRd) (c a : Int) : MRd := if r.code = 0 then ⟨r.t, r.p, c, a⟩ else r
def mRaw (r : MRd) (n : Nat) : ByteArray × MRd := if r.code = 0 then (if r.p + n > r.t.size then (⟨#[]⟩, ⟨r.t, r.p, 2, r.t.size⟩) else (r.t.extract r.p (r.p + n), ⟨r.t, r.p + n, r.code, r.at_⟩)) else (⟨#[]⟩, r)
theorem c42_c (a b c : Int) : CallR Try.prog 42 [vI a, vI b, vI c] (vB (mIn a b c)) [] := by
  refine callR_of_jv b42 rfl ?_
  simp -implicitDefEqProofs only [go_sem]
  refine guardP_intro (fun h => ?_) (fun h => ?_)
  · simp -implicitDefEqProofs only [go_sem, h]
    simp_all [mIn]
  · simp -implicitDefEqProofs only [go_sem, h]
    simp_all [mIn]
    omega
theorem c45_c (a b c : Int) : CallR Try.prog 45 [vI a, vI b, vI c] (vB (mIn a b c)) [] := by
  refine callR_of_jv b45 rfl ?_
  simp -implicitDefEqProofs only [go_sem]
  refine guardP_intro (fun h => ?_) (fun h => ?_)
  · simp -implicitDefEqProofs only [go_sem, h]
    simp_all [mIn]
  · simp -implicitDefEqProofs only [go_sem, h]
    simp_all [mIn]
    omega
theorem c66_c (r : MRd) (c a : Int) : CallM Try.prog 66 r.row [vP, vI c, vI a] (.tup []) (mFail r c a).row := by
  refine callM_of_jv b66 rfl ?_
  simp -implicitDefEqProofs only [go_sem]
  refine condJ_intro (fun h => ?_) (fun h => ?_)
  · have h' : r.code = 0 := by simpa using h
    simp -implicitDefEqProofs only [go_sem, h, mFail, h']
  · have h' : ¬ r.code = 0 := by simpa using h
    simp -implicitDefEqProofs only [go_sem, h, mFail, h']
theorem c65_c (r : MRd) (n : Nat) (hn : n ≤ 1000) (hp : r.p ≤ r.t.size) (ht : r.t.size ≤ 1000000000000) : CallM Try.prog 65 r.row [vP, vI n] (vS (mRaw r n).1) (mRaw r n).2.row := by
  refine callM_of_jv b65 rfl ?_
  simp -implicitDefEqProofs only [go_sem]
  refine condJ_intro (fun h => ?_) (fun h => ?_)
  · have h' : ¬ r.code = 0 := by simpa using h
    simp -implicitDefEqProofs only [go_sem, h, mRaw, h']
  · have h' : r.code = 0 := by simpa using h
    have hw1 : IntKind.i64.wrap ((r.t.size : Int) - r.p) = (r.t.size : Int) - r.p := wrS (by omega)
    have hw2 : IntKind.i64.wrap ((r.p : Int) + n) = ((r.p + n : Nat) : Int) := by rw [wrS (by omega)]; rfl
    simp -implicitDefEqProofs only [go_sem, h, hw1, hw2]
    refine condJ_intro (fun h => ?_) (fun h => ?_)
    · have hd : r.p + n > r.t.size := by have := of_decide_eq_true h; omega
      simp -implicitDefEqProofs only [go_sem, h]
      refine WantM.intro (c66_c r 2 r.t.size) ?_
      simp -implicitDefEqProofs only [go_sem, mFail, h', mRaw, hd]
    · have hd : ¬ r.p + n > r.t.size := by have := of_decide_eq_false h; omega
      have hsl : (r.p : Int) ≤ ((r.p + n : Nat) : Int) ∧ ((r.p + n : Nat) : Int) ≤ (r.t.size : Int) := by omega
      simp -implicitDefEqProofs only [go_sem, h, hw1, hw2, mRaw, h', hd, hsl]
theorem c99_c (r : MRd) (n : Nat) (hn : n ≤ 1000) (hp : r.p ≤ r.t.size) (ht : r.t.size ≤ 1000000000000) : CallM Try.prog 99 r.row [vP, vI n] (vS (mRaw r n).1) (mRaw r n).2.row := by
  refine callM_of_jv b99 rfl ?_
  simp -implicitDefEqProofs only [go_sem]
  refine condJ_intro (fun h => ?_) (fun h => ?_)
  · have h' : ¬ r.code = 0 := by simpa using h
    simp -implicitDefEqProofs only [go_sem, h, mRaw, h']
  · have h' : r.code = 0 := by simpa using h
    have hw2 : IntKind.i64.wrap ((r.p : Int) + n) = ((r.p + n : Nat) : Int) := by rw [wrS (by omega)]; rfl
    have hw3 : IntKind.i64.wrap (((r.p + n : Nat) : Int) - n) = (r.p : Int) := by rw [wrS (by omega)]; omega
    simp -implicitDefEqProofs only [go_sem, h, hw2]
    refine condJ_intro (fun h => ?_) (fun h => ?_)
    · have hd : r.p + n > r.t.size := by have := of_decide_eq_true h; omega
      simp -implicitDefEqProofs only [go_sem, h, h', mRaw, hd]
    · have hd : ¬ r.p + n > r.t.size := by have := of_decide_eq_false h; omega
      have hsl : (r.p : Int) ≤ ((r.p + n : Nat) : Int) ∧ ((r.p + n : Nat) : Int) ≤ (r.t.size : Int) := by omega
      simp -implicitDefEqProofs only [go_sem, h, hw2, hw3, mRaw, h', hd, hsl]
def numN (s : ByteArray) : Nat → Nat
  | 0 => 0
  | k + 1 => 256 * numN s k + bN s k
theorem numN_lt (s : ByteArray) (k : Nat) : numN s k < 256 ^ k := by
  induction k with
  | zero => simp [numN]
  | succ k ih =>
    have := bN_lt s k
    simp only [numN, Nat.pow_succ]
    omega
theorem numN_lt3 (s : ByteArray) {k : Nat} (h : k ≤ 3) : numN s k < 16777216 := Nat.lt_of_lt_of_le (numN_lt s k) (by
  have : 256 ^ k ≤ 256 ^ 3 := Nat.pow_le_pow_right (by omega) h
  omega)
def mNum (r : MRd) (n : Nat) (low high : Int) : Int × MRd :=
  if (mRaw r n).2.code = 0 then
    (if mIn (numN (mRaw r n).1 (mRaw r n).1.size) low high then (numN (mRaw r n).1 (mRaw r n).1.size, (mRaw r n).2) else (0, ⟨(mRaw r n).2.t, (mRaw r n).2.p, 3, r.p⟩))
  else (0, (mRaw r n).2)
theorem mRaw_size (r : MRd) (n : Nat) : (mRaw r n).1.size ≤ n := by
  unfold mRaw
  split
  · split
    · simp [ByteArray.size]
    · rw [ByteArray.size_extract]; omega
  · simp [ByteArray.size]
theorem c101_c (r : MRd) (n : Nat) (low high : Int) (hn : n ≤ 3) (hp : r.p ≤ r.t.size) (ht : r.t.size ≤ 1000000000000) : CallM Try.prog 101 r.row [vP, vI n, vI low, vI high] (vI (mNum r n low high).1) (mNum r n low high).2.row := by
  refine callM_of_jv b101 rfl ?_
  simp -implicitDefEqProofs only [go_sem]
  refine WantM.intro (c99_c r n (by omega) hp ht) ?_
  have hsz := mRaw_size r n
  unfold mNum
  generalize mRaw r n = x at *
  obtain ⟨b, t1, p1, c1, a1⟩ := x
  simp only at *
  simp -implicitDefEqProofs only [go_sem]
  refine condJ_intro (fun h => ?_) (fun h => ?_)
  · have h' : ¬ c1 = 0 := by simpa using h
    simp -implicitDefEqProofs only [go_sem, h, h']
  · have h' : c1 = 0 := by simpa using h
    subst h'
    simp -implicitDefEqProofs only [go_sem, h]
    refine jv_lp (fun m z => ∃ k, k ≤ b.size ∧ m = b.size - k ∧ z = ⟨50, [(0, vP), (2, vI low), (3, vI high), (9, vI r.p), (10, vS b), (11, vI (numN b k)), (12, vI k)], [(1000000, 0, one ⟨4, [[vS t1, vI p1, vI 0, vI a1]], 0, false⟩)], 1⟩) b.size ?_ ?_
    · simp -implicitDefEqProofs only [go_sem]
      exact ⟨0, Nat.zero_le _, rfl, rfl⟩
    · rintro m z ⟨k, hk, rfl, rfl⟩
      rcases Nat.lt_or_ge k b.size with hlt | hge
      · have hlt' : (k : Int) < (b.size : Int) := by omega
        have hg := data_get (s := b) (i := k) hlt
        have hb := bN_lt b k
        have hv := numN_lt3 b (k := k) (by omega)
        have w1 : IntKind.i64.wrap (bN b k : Int) = (bN b k : Int) := wrS (by omega)
        have w2 : IntKind.i64.wrap (256 * (numN b k : Int)) = ((256 * numN b k : Nat) : Int) := by rw [wrS (by omega)]; omega
        have w3 : IntKind.i64.wrap (((256 * numN b k : Nat) : Int) + (bN b k : Int)) = ((256 * numN b k + bN b k : Nat) : Int) := by rw [wrS (by omega)]; omega
        have w4 : IntKind.i64.wrap ((k : Int) + 1) = ((k + 1 : Nat) : Int) := by rw [wrS (by omega)]; omega
        simp -implicitDefEqProofs only [go_sem, hlt', hg, w1, w2, w3, w4]
        exact ⟨_, by omega, k + 1, hlt, rfl, rfl⟩
      · have hk : k = b.size := by omega
        subst hk
        have hlt' : ¬ ((b.size : Int) < (b.size : Int)) := by omega
        simp -implicitDefEqProofs only [go_sem, hlt']
        refine Want.intro (c45_c _ _ _) ?_
        simp -implicitDefEqProofs only [go_sem]
        cases hin : mIn (numN b b.size : Int) low high with
        | true => simp -implicitDefEqProofs only [go_sem, hin, condJ_true, condJ_false]
        | false => simp -implicitDefEqProofs only [go_sem, hin, condJ_true, condJ_false]
theorem c63_c (r : MRd) (n : Nat) (low high : Int) (hn : n ≤ 3) (hp : r.p ≤ r.t.size) (ht : r.t.size ≤ 1000000000000) : CallM Try.prog 63 r.row [vP, vI n, vI low, vI high] (vI (mNum r n low high).1) (mNum r n low high).2.row := by
  refine callM_of_jv b63 rfl ?_
  simp -implicitDefEqProofs only [go_sem]
  refine WantM.intro (c65_c r n (by omega) hp ht) ?_
  have hsz := mRaw_size r n
  unfold mNum
  generalize mRaw r n = x at *
  obtain ⟨b, t1, p1, c1, a1⟩ := x
  simp only at *
  simp -implicitDefEqProofs only [go_sem]
  refine jv_lp (fun m z => ∃ k, k ≤ b.size ∧ m = b.size - k ∧ z = ⟨56, [(0, vP), (2, vI low), (3, vI high), (9, vI r.p), (10, vS b), (11, vI (numN b k)), (12, vI k)], [(1000000, 0, one ⟨4, [[vS t1, vI p1, vI c1, vI a1]], 0, false⟩)], 1⟩) b.size ?_ ?_
  · simp -implicitDefEqProofs only [go_sem]
    exact ⟨0, Nat.zero_le _, rfl, rfl⟩
  · rintro m z ⟨k, hk, rfl, rfl⟩
    rcases Nat.lt_or_ge k b.size with hlt | hge
    · have hlt' : (k : Int) < (b.size : Int) := by omega
      have hg := data_get (s := b) (i := k) hlt
      have hb := bN_lt b k
      have hv := numN_lt3 b (k := k) (by omega)
      have w1 : IntKind.i64.wrap (bN b k : Int) = (bN b k : Int) := wrS (by omega)
      have w2 : IntKind.i64.wrap (256 * (numN b k : Int)) = ((256 * numN b k : Nat) : Int) := by rw [wrS (by omega)]; omega
      have w3 : IntKind.i64.wrap (((256 * numN b k : Nat) : Int) + (bN b k : Int)) = ((256 * numN b k + bN b k : Nat) : Int) := by rw [wrS (by omega)]; omega
      have w4 : IntKind.i64.wrap ((k : Int) + 1) = ((k + 1 : Nat) : Int) := by rw [wrS (by omega)]; omega
      simp -implicitDefEqProofs only [go_sem, hlt', hg, w1, w2, w3, w4]
      exact ⟨_, by omega, k + 1, hlt, rfl, rfl⟩
    · have hk : k = b.size := by omega
      subst hk
      have hlt' : ¬ ((b.size : Int) < (b.size : Int)) := by omega
      simp -implicitDefEqProofs only [go_sem, hlt']
      refine guardP_intro (fun h => ?_) (fun h => ?_)
      · have h' : c1 = 0 := by simpa using h
        subst h'
        simp -implicitDefEqProofs only [go_sem]
        refine Want.intro (c42_c _ _ _) ?_
        simp -implicitDefEqProofs only [go_sem]
        cases hin : mIn (numN b b.size : Int) low high with
        | true => simp -implicitDefEqProofs only [go_sem, hin, condJ_true, condJ_false, bne_self_eq_false]
        | false =>
          simp -implicitDefEqProofs only [go_sem, hin, condJ_true, condJ_false]
          refine WantM.intro (c66_c ⟨t1, p1, 0, a1⟩ 3 r.p) ?_
          simp -implicitDefEqProofs only [go_sem, mFail, condJ_true, condJ_false]
      · have h' : ¬ c1 = 0 := by simpa using h
        have h2 : (c1 != 0) = true := by simpa using h'
        simp -implicitDefEqProofs only [go_sem, h, h', h2, condJ_true, condJ_false]
def mDigR (r : MRd) : MDig × MRd := ((mHashBack (mRaw r 32).1).1, (mRaw r 32).2)
theorem c64_c (r : MRd) (hp : r.p ≤ r.t.size) (ht : r.t.size ≤ 1000000000000) : CallM Try.prog 64 r.row [vP] (.agg (mDigR r).1.cs) (mDigR r).2.row := by
  refine callM_of_jv b64 rfl ?_
  simp -implicitDefEqProofs only [go_sem]
  refine WantM.intro (c65_c r 32 (by omega) hp ht) ?_
  have hsz := mRaw_size r 32
  unfold mDigR
  generalize mRaw r 32 = x at *
  obtain ⟨b, t1, p1, c1, a1⟩ := x
  simp only at *
  simp -implicitDefEqProofs only [go_sem]
  refine Want.intro (c110_c b (by omega)) ?_
  simp -implicitDefEqProofs only [go_sem]
theorem c102_c (r : MRd) (hp : r.p ≤ r.t.size) (ht : r.t.size ≤ 1000000000000) : CallM Try.prog 102 r.row [vP] (.agg (mDigR r).1.cs) (mDigR r).2.row := by
  refine callM_of_jv b102 rfl ?_
  simp -implicitDefEqProofs only [go_sem]
  refine WantM.intro (c99_c r 32 (by omega) hp ht) ?_
  have hsz := mRaw_size r 32
  unfold mDigR
  generalize mRaw r 32 = x at *
  obtain ⟨b, t1, p1, c1, a1⟩ := x
  simp only at *
  simp -implicitDefEqProofs only [go_sem]
  refine Want.intro (c132_c b (by omega)) ?_
  simp -implicitDefEqProofs only [go_sem]
end Go.Proofs.Ytkhemolkhegppaa.E
