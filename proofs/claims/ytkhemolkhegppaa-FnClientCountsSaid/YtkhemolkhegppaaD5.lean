/-
  Contracts: a message read, in the program.
-/
import Derived.Test.YtkhemolkhegppaaD4
namespace Go.Proofs.Ytkhemolkhegppaa.E
open Go Go.RowKit
set_option maxHeartbeats 4000000
set_option maxRecDepth 10000
set_option linter.unusedSimpArgs false
set_option linter.unusedVariables false
set_option linter.unusedSectionVars false
@[go_sem] def c49 : SC J := .sq [0, 2, 3] (.reg [.p (.al 2 45), .p (.al 3 55)])
 (.sq [0, 2, 3, 4] (.reg [.p (.mv 11 (.tmp 0)), .p (.bd 12 147 [(0, .tmp 11)]), .p (.bx 13 147 (.tmp 12)), .p (.as 4 (.tmp 13))])
  (.sq [0, 2, 3, 4, 5] (.reg [.p (.mv 14 (.tmp 4)), .p (.cm (some 15) 99 [true, false] [.tmp 14, .const (.int .i64 1)] [145, 3]), .p (.as 5 (.tmp 15))])
   (.sq [0, 2, 3, 4, 5] (.sq [0, 2, 3, 4, 5, 28] (.reg [.p (.mv 16 (.tmp 4)), .p (.nc 17 (.tmp 16)), .p (.fa 18 147 (.tmp 17) 2), .p (.fa 19 55 (.tmp 18) 0), .p (.ld 20 3 (.tmp 19)), .p (.bn 21 .eql 3 (.tmp 20) (.const (.int .i64 0)) 3), .p (.mv 22 (.tmp 21)), .g 22 true (.mv 23 (.tmp 5)), .g 22 true (.ix 24 9 (.tmp 23) (.const (.int .i64 0))), .g 22 true (.cv 25 5 3 (.tmp 24)), .g 22 true (.cl (some 26) 45 [.tmp 25, .const (.int .i64 1), .const (.int .i64 8)] [3, 3, 3]), .g 22 true (.un 27 .not 4 (.tmp 26)), .p (.pk 28 (.tmp 22) (.tmp 27) (.const (.bool false)))])
     (.cond (.tmp 28)
      (.reg [.p (.mv 29 (.tmp 4)), .p (.bd 30 55 [(0, .const (.int .i64 1)), (1, .const (.int .i64 0))]), .p (.nc 31 (.tmp 29)), .p (.fa 32 147 (.tmp 31) 2), .p (.st 55 (.tmp 32) (.tmp 30))])
      (.skip)))
    (.sq [0, 2, 3, 4, 5] (.sq [0, 2, 3, 4, 5, 38] (.reg [.p (.mv 33 (.tmp 4)), .p (.nc 34 (.tmp 33)), .p (.fa 35 147 (.tmp 34) 2), .p (.fa 36 55 (.tmp 35) 0), .p (.ld 37 3 (.tmp 36)), .p (.bn 38 .neq 3 (.tmp 37) (.const (.int .i64 0)) 3)])
      (.cond (.tmp 38)
       (.sq [2, 3] (.dr (.pu 0 (.pu 1 (.pu 2 (.pu 3 (.pu 4 (.ef 5 [4] (.ef 6 [] (.nil)))))))) [[], [], [1], [1, 2], [1, 2, 3], [0], [0, 1, 2, 3, 4, 5]] [.p (.bd 39 45 []), .p (.mv 40 (.tmp 4)), .p (.nc 41 (.tmp 40)), .p (.fa 42 147 (.tmp 41) 2), .p (.ld 43 55 (.tmp 42)), .p (.st 45 (.tmp 2) (.tmp 39)), .p (.st 55 (.tmp 3) (.tmp 43))] [[], [], [1], [2], [3], [0, 0], [4, 5, 0, 1, 2, 3, 4, 5]])
        (.ret))
       (.skip)))
     (.sq [0, 2, 3, 4, 6] (.reg [.p (.mv 44 (.tmp 5)), .p (.ix 45 9 (.tmp 44) (.const (.int .i64 0))), .p (.cv 46 5 3 (.tmp 45)), .p (.bd 47 45 [(0, .tmp 46)]), .p (.al 6 45), .p (.st 45 (.tmp 6) (.tmp 47))])
      (.sq [0, 2, 3, 4, 6] (.rng 0 [.p (.fa 48 45 (.tmp 6) 0), .p (.ld 49 3 (.tmp 48)), .p (.cl (some 50) 100 [.tmp 49] [3])] 51 9 (.tmp 50) 52 53
        (.block 1 (.sq [0, 2, 3, 4, 6, 8, 51] (.reg [.p (.ex 54 (.tmp 52) 2), .p (.as 8 (.tmp 54))])
          (.sq [0, 2, 3, 4, 6, 51, 55] (.reg [.p (.mv 55 (.tmp 8))])
           (.block 2 (.sq [0, 2, 3, 4, 6, 51, 55, 56] (.reg [.p (.bn 57 .eql 21 (.tmp 55) (.const (.int .i32 115)) 21), .p (.as 56 (.tmp 57))])
             (.cond (.tmp 56)
              (.reg [.p (.mv 58 (.tmp 4)), .p (.cm (some 59) 101 [true, false, false, false] [.tmp 58, .const (.int .i64 3), .const (.int .i64 1), .const (.int .i64 1000000)] [145, 3, 3, 3]), .p (.fa 60 45 (.tmp 6) 1), .p (.st 3 (.tmp 60) (.tmp 59))])
              (.sq [0, 2, 3, 4, 6, 51, 55, 61] (.reg [.p (.bn 62 .eql 21 (.tmp 55) (.const (.int .i32 102)) 21), .p (.as 61 (.tmp 62))])
               (.cond (.tmp 61)
                (.reg [.p (.mv 63 (.tmp 4)), .p (.cm (some 64) 101 [true, false, false, false] [.tmp 63, .const (.int .i64 2), .const (.int .i64 0), .const (.int .i64 256)] [145, 3, 3, 3]), .p (.fa 65 45 (.tmp 6) 2), .p (.st 3 (.tmp 65) (.tmp 64))])
                (.sq [0, 2, 3, 4, 6, 51, 55, 66] (.reg [.p (.bn 67 .eql 21 (.tmp 55) (.const (.int .i32 122)) 21), .p (.as 66 (.tmp 67))])
                 (.cond (.tmp 66)
                  (.reg [.p (.mv 68 (.tmp 4)), .p (.cm (some 69) 101 [true, false, false, false] [.tmp 68, .const (.int .i64 2), .const (.int .i64 0), .const (.int .i64 256)] [145, 3, 3, 3]), .p (.fa 70 45 (.tmp 6) 3), .p (.st 3 (.tmp 70) (.tmp 69))])
                  (.sq [0, 2, 3, 4, 6, 51, 55, 71] (.reg [.p (.bn 72 .eql 21 (.tmp 55) (.const (.int .i32 114)) 21), .p (.as 71 (.tmp 72))])
                   (.cond (.tmp 71)
                    (.reg [.p (.mv 73 (.tmp 4)), .p (.cm (some 74) 102 [true] [.tmp 73] [145]), .p (.fa 75 45 (.tmp 6) 4), .p (.st 25 (.tmp 75) (.tmp 74))])
                    (.sq [0, 2, 3, 4, 6, 51, 55, 76] (.reg [.p (.bn 77 .eql 21 (.tmp 55) (.const (.int .i32 99)) 21), .p (.as 76 (.tmp 77))])
                     (.cond (.tmp 76)
                      (.reg [.p (.mv 78 (.tmp 4)), .p (.cm (some 79) 101 [true, false, false, false] [.tmp 78, .const (.int .i64 1), .const (.int .i64 1), .const (.int .i64 8)] [145, 3, 3, 3]), .p (.fa 80 45 (.tmp 6) 5), .p (.st 3 (.tmp 80) (.tmp 79))])
                      (.sq [0, 2, 3, 4, 6, 51, 55, 81] (.reg [.p (.bn 82 .eql 21 (.tmp 55) (.const (.int .i32 112)) 21), .p (.as 81 (.tmp 82))])
                       (.cond (.tmp 81)
                        (.sq [0, 2, 3, 4, 6, 9, 51] (.reg [.p (.mv 83 (.tmp 4)), .p (.cm (some 84) 101 [true, false, false, false] [.tmp 83, .const (.int .i64 1), .const (.int .i64 0), .const (.int .i64 16)] [145, 3, 3, 3]), .p (.as 9 (.tmp 84))])
                         (.block 3 (.lp [0, 2, 3, 4, 6, 9, 51] (.sq [0, 2, 3, 4, 6, 9, 51] (.sq [0, 2, 3, 4, 6, 9, 51, 86] (.reg [.p (.mv 85 (.tmp 9)), .p (.bn 86 .gtr 3 (.tmp 85) (.const (.int .i64 0)) 3)])
                             (.cond (.tmp 86)
                              (.skip)
                              (.exit 3)))
                            (.sq [0, 2, 3, 4, 6, 9, 51] (.block 4 (.dr (.pu 0 (.pu 1 (.pu 2 (.ef 3 [1] (.ef 4 [1] (.ef 5 [] (.pu 6 (.ef 7 [] (.nil))))))))) [[], [0], [], [2], [2, 3], [0, 1, 2, 3, 4], [0, 1, 2, 3, 4, 5], [0, 1, 2, 3, 4, 5, 6]] [.p (.fa 89 45 (.tmp 6) 6), .p (.ld 90 42 (.tmp 89)), .p (.mv 91 (.tmp 4)), .p (.cm (some 92) 102 [true] [.tmp 91] [145]), .p (.bs 93 42 1 [(0, .tmp 92)]), .p (.ap (some 94) 42 42 (.tmp 90) (.tmp 93)), .p (.fa 95 45 (.tmp 6) 6), .p (.st 42 (.tmp 95) (.tmp 94))] [[], [0], [], [2], [3], [1, 4, 3], [0, 1, 2, 3, 4, 5], [6, 5, 5, 0, 1, 2, 3, 4, 5]]))
                             (.reg [.p (.mv 87 (.tmp 9)), .p (.bn 88 .sub 3 (.tmp 87) (.const (.int .i64 1)) 3), .p (.as 9 (.tmp 88))]))))))
                        (.sq [0, 2, 3, 4, 6, 51, 96] (.reg [.p (.bn 97 .eql 21 (.tmp 55) (.const (.int .i32 108)) 21), .p (.as 96 (.tmp 97))])
                         (.cond (.tmp 96)
                          (.sq [0, 2, 3, 4, 6, 10, 51] (.reg [.p (.mv 98 (.tmp 4)), .p (.cm (some 99) 101 [true, false, false, false] [.tmp 98, .const (.int .i64 1), .const (.int .i64 0), .const (.int .i64 8)] [145, 3, 3, 3]), .p (.as 10 (.tmp 99))])
                           (.block 5 (.lp [0, 2, 3, 4, 6, 10, 51] (.sq [0, 2, 3, 4, 6, 10, 51] (.sq [0, 2, 3, 4, 6, 10, 51, 101] (.reg [.p (.mv 100 (.tmp 10)), .p (.bn 101 .gtr 3 (.tmp 100) (.const (.int .i64 0)) 3)])
                               (.cond (.tmp 101)
                                (.skip)
                                (.exit 5)))
                              (.sq [0, 2, 3, 4, 6, 10, 51] (.block 6 (.dr (.pu 0 (.pu 1 (.pu 2 (.pu 3 (.ef 4 [1] (.ef 5 [1] (.ef 6 [1] (.ef 7 [] (.pu 8 (.ef 9 [] (.nil))))))))))) [[], [0], [], [], [3], [2, 3, 4], [2, 3, 4, 5], [0, 1, 2, 3, 4, 5, 6], [0, 1, 2, 3, 4, 5, 6, 7], [0, 1, 2, 3, 4, 5, 6, 7, 8]] [.p (.fa 104 45 (.tmp 6) 7), .p (.ld 105 43 (.tmp 104)), .p (.mv 106 (.tmp 4)), .p (.mv 107 (.tmp 4)), .p (.cm (some 108) 101 [true, false, false, false] [.tmp 107, .const (.int .i64 1), .const (.int .i64 0), .const (.int .i64 40)] [145, 3, 3, 3]), .p (.cm (some 109) 99 [true, false] [.tmp 106, .tmp 108] [145, 3]), .p (.bs 110 43 1 [(0, .tmp 109)]), .p (.ap (some 111) 43 43 (.tmp 105) (.tmp 110)), .p (.fa 112 45 (.tmp 6) 7), .p (.st 43 (.tmp 112) (.tmp 111))] [[], [0], [], [], [3], [2, 4, 4], [5], [1, 6, 5], [0, 1, 2, 3, 4, 5, 6, 7], [8, 7, 7, 0, 1, 2, 3, 4, 5, 6, 7]]))
                               (.reg [.p (.mv 102 (.tmp 10)), .p (.bn 103 .sub 3 (.tmp 102) (.const (.int .i64 1)) 3), .p (.as 10 (.tmp 103))]))))))
                          (.skip))))))))))))))))))))
       (.sq [2, 3, 4, 6] (.sq [2, 3, 4, 6, 127] (.reg [.p (.mv 113 (.tmp 4)), .p (.nc 114 (.tmp 113)), .p (.fa 115 147 (.tmp 114) 2), .p (.fa 116 55 (.tmp 115) 0), .p (.ld 117 3 (.tmp 116)), .p (.bn 118 .eql 3 (.tmp 117) (.const (.int .i64 0)) 3), .p (.mv 119 (.tmp 118)), .g 119 true (.mv 120 (.tmp 4)), .g 119 true (.nc 121 (.tmp 120)), .g 119 true (.fa 122 147 (.tmp 121) 1), .g 119 true (.ld 123 3 (.tmp 122)), .g 119 true (.mv 124 (.tmp 0)), .g 119 true (.ln 125 9 (.tmp 124)), .g 119 true (.bn 126 .lss 3 (.tmp 123) (.tmp 125) 3), .p (.pk 127 (.tmp 119) (.tmp 126) (.const (.bool false)))])
         (.cond (.tmp 127)
          (.reg [.p (.mv 128 (.tmp 4)), .p (.mv 129 (.tmp 4)), .p (.nc 130 (.tmp 129)), .p (.fa 131 147 (.tmp 130) 1), .p (.ld 132 3 (.tmp 131)), .p (.bd 133 55 [(0, .const (.int .i64 4)), (1, .tmp 132)]), .p (.nc 134 (.tmp 128)), .p (.fa 135 147 (.tmp 134) 2), .p (.st 55 (.tmp 135) (.tmp 133))])
          (.skip)))
        (.sq [2, 3, 6] (.sq [2, 3, 4, 6, 141] (.reg [.p (.mv 136 (.tmp 4)), .p (.nc 137 (.tmp 136)), .p (.fa 138 147 (.tmp 137) 2), .p (.fa 139 55 (.tmp 138) 0), .p (.ld 140 3 (.tmp 139)), .p (.bn 141 .neq 3 (.tmp 140) (.const (.int .i64 0)) 3)])
          (.cond (.tmp 141)
           (.sq [2, 3] (.dr (.pu 0 (.pu 1 (.pu 2 (.pu 3 (.pu 4 (.ef 5 [4] (.ef 6 [] (.nil)))))))) [[], [], [1], [1, 2], [1, 2, 3], [0], [0, 1, 2, 3, 4, 5]] [.p (.bd 142 45 []), .p (.mv 143 (.tmp 4)), .p (.nc 144 (.tmp 143)), .p (.fa 145 147 (.tmp 144) 2), .p (.ld 146 55 (.tmp 145)), .p (.st 45 (.tmp 2) (.tmp 142)), .p (.st 55 (.tmp 3) (.tmp 146))] [[], [], [1], [2], [3], [0, 0], [4, 5, 0, 1, 2, 3, 4, 5]])
            (.ret))
           (.skip)))
         (.sq [2, 3, 6] (.reg [.p (.fa 147 45 (.tmp 6) 6), .p (.ld 148 42 (.tmp 147)), .p (.cl (some 149) 103 [.tmp 148] [42]), .p (.fa 150 45 (.tmp 6) 6), .p (.st 42 (.tmp 150) (.tmp 149))])
          (.sq [2, 3, 6] (.reg [.p (.fa 151 45 (.tmp 6) 7), .p (.ld 152 43 (.tmp 151)), .p (.cl (some 153) 104 [.tmp 152] [43]), .p (.fa 154 45 (.tmp 6) 7), .p (.st 43 (.tmp 154) (.tmp 153))])
           (.sq [2, 3] (.reg [.p (.ld 155 45 (.tmp 6)), .p (.bd 156 55 []), .p (.st 45 (.tmp 2) (.tmp 155)), .p (.st 55 (.tmp 3) (.tmp 156))])
            (.ret))))))))))))
theorem b49 : BodyOK Try.prog 49 c49 157 [.cell 2 45, .cell 3 55] := ⟨Try.f49, by kernel_rfl, by kernel_rfl, by kernel_rfl, by kernel_rfl, by kernel_rfl⟩
set_option maxRecDepth 100000 in
@[go_sem] theorem k49_0 : chkT (.pu 0 (.pu 1 (.pu 2 (.pu 3 (.pu 4 (.ef 5 [4] (.ef 6 [] (.nil)))))))) [[], [], [1], [1, 2], [1, 2, 3], [0], [0, 1, 2, 3, 4, 5]] (soI [.p (.bd 142 45 []), .p (.mv 143 (.tmp 4)), .p (.nc 144 (.tmp 143)), .p (.fa 145 147 (.tmp 144) 2), .p (.ld 146 55 (.tmp 145)), .p (.st 45 (.tmp 2) (.tmp 142)), .p (.st 55 (.tmp 3) (.tmp 146))]) [[], [], [1], [2], [3], [0, 0], [4, 5, 0, 1, 2, 3, 4, 5]] = true := by kernel_rfl
set_option maxRecDepth 100000 in
@[go_sem] theorem k49_1 : chkT (.pu 0 (.pu 1 (.pu 2 (.ef 3 [1] (.ef 4 [1] (.ef 5 [] (.pu 6 (.ef 7 [] (.nil))))))))) [[], [0], [], [2], [2, 3], [0, 1, 2, 3, 4], [0, 1, 2, 3, 4, 5], [0, 1, 2, 3, 4, 5, 6]] (soI [.p (.fa 89 45 (.tmp 6) 6), .p (.ld 90 42 (.tmp 89)), .p (.mv 91 (.tmp 4)), .p (.cm (some 92) 102 [true] [.tmp 91] [145]), .p (.bs 93 42 1 [(0, .tmp 92)]), .p (.ap (some 94) 42 42 (.tmp 90) (.tmp 93)), .p (.fa 95 45 (.tmp 6) 6), .p (.st 42 (.tmp 95) (.tmp 94))]) [[], [0], [], [2], [3], [1, 4, 3], [0, 1, 2, 3, 4, 5], [6, 5, 5, 0, 1, 2, 3, 4, 5]] = true := by kernel_rfl
set_option maxRecDepth 100000 in
@[go_sem] theorem k49_2 : chkT (.pu 0 (.pu 1 (.pu 2 (.pu 3 (.ef 4 [1] (.ef 5 [1] (.ef 6 [1] (.ef 7 [] (.pu 8 (.ef 9 [] (.nil))))))))))) [[], [0], [], [], [3], [2, 3, 4], [2, 3, 4, 5], [0, 1, 2, 3, 4, 5, 6], [0, 1, 2, 3, 4, 5, 6, 7], [0, 1, 2, 3, 4, 5, 6, 7, 8]] (soI [.p (.fa 104 45 (.tmp 6) 7), .p (.ld 105 43 (.tmp 104)), .p (.mv 106 (.tmp 4)), .p (.mv 107 (.tmp 4)), .p (.cm (some 108) 101 [true, false, false, false] [.tmp 107, .const (.int .i64 1), .const (.int .i64 0), .const (.int .i64 40)] [145, 3, 3, 3]), .p (.cm (some 109) 99 [true, false] [.tmp 106, .tmp 108] [145, 3]), .p (.bs 110 43 1 [(0, .tmp 109)]), .p (.ap (some 111) 43 43 (.tmp 105) (.tmp 110)), .p (.fa 112 45 (.tmp 6) 7), .p (.st 43 (.tmp 112) (.tmp 111))]) [[], [0], [], [], [3], [2, 4, 4], [5], [1, 6, 5], [0, 1, 2, 3, 4, 5, 6, 7], [8, 7, 7, 0, 1, 2, 3, 4, 5, 6, 7]] = true := by kernel_rfl
set_option maxRecDepth 100000 in
@[go_sem] theorem k49_3 : chkT (.pu 0 (.pu 1 (.pu 2 (.pu 3 (.pu 4 (.ef 5 [4] (.ef 6 [] (.nil)))))))) [[], [], [1], [1, 2], [1, 2, 3], [0], [0, 1, 2, 3, 4, 5]] (soI [.p (.bd 39 45 []), .p (.mv 40 (.tmp 4)), .p (.nc 41 (.tmp 40)), .p (.fa 42 147 (.tmp 41) 2), .p (.ld 43 55 (.tmp 42)), .p (.st 45 (.tmp 2) (.tmp 39)), .p (.st 55 (.tmp 3) (.tmp 43))]) [[], [], [1], [2], [3], [0, 0], [4, 5, 0, 1, 2, 3, 4, 5]] = true := by kernel_rfl

@[go_sem] def c103 : SC J := .sq [0] (.reg [.p (.as 2 (.const (.slice none 0 0)))])
 (.sq [0] (.sq [0, 6] (.reg [.p (.mv 4 (.tmp 0)), .p (.ln 5 42 (.tmp 4)), .p (.bn 6 .eql 3 (.tmp 5) (.const (.int .i64 0)) 3)])
   (.cond (.tmp 6)
    (.sq [2] (.reg [.p (.as 2 (.const (.slice none 0 0)))])
     (.ret))
    (.skip)))
  (.sq [0, 3] (.reg [.p (.mv 7 (.tmp 0)), .p (.ln 8 42 (.tmp 7)), .p (.ms 9 42 (.tmp 8) (.tmp 8)), .p (.as 3 (.tmp 9))])
   (.sq [3] (.reg [.p (.mv 10 (.tmp 3)), .p (.mv 11 (.tmp 0)), .p (.cp (some 12) 42 42 (.tmp 10) (.tmp 11))])
    (.sq [2] (.reg [.p (.mv 13 (.tmp 3)), .p (.as 2 (.tmp 13))])
     (.ret)))))
theorem b103 : BodyOK Try.prog 103 c103 14 [.tmp 2] := ⟨Try.f103, by kernel_rfl, by kernel_rfl, by kernel_rfl, by kernel_rfl, by kernel_rfl⟩

@[go_sem] def c104 : SC J := .sq [0] (.reg [.p (.as 2 (.const (.slice none 0 0)))])
 (.sq [0] (.sq [0, 6] (.reg [.p (.mv 4 (.tmp 0)), .p (.ln 5 43 (.tmp 4)), .p (.bn 6 .eql 3 (.tmp 5) (.const (.int .i64 0)) 3)])
   (.cond (.tmp 6)
    (.sq [2] (.reg [.p (.as 2 (.const (.slice none 0 0)))])
     (.ret))
    (.skip)))
  (.sq [0, 3] (.reg [.p (.mv 7 (.tmp 0)), .p (.ln 8 43 (.tmp 7)), .p (.ms 9 43 (.tmp 8) (.tmp 8)), .p (.as 3 (.tmp 9))])
   (.sq [3] (.reg [.p (.mv 10 (.tmp 3)), .p (.mv 11 (.tmp 0)), .p (.cp (some 12) 43 43 (.tmp 10) (.tmp 11))])
    (.sq [2] (.reg [.p (.mv 13 (.tmp 3)), .p (.as 2 (.tmp 13))])
     (.ret)))))
theorem b104 : BodyOK Try.prog 104 c104 14 [.tmp 2] := ⟨Try.f104, by kernel_rfl, by kernel_rfl, by kernel_rfl, by kernel_rfl, by kernel_rfl⟩

theorem c103_c (l : List MDig) (hl : l.length * 32 ≤ 140737488355328) : CallR Try.prog 103 [.ro 4 (l.map MDig.cs)] (.blk 0 0 [] 4 0 l.length) [([], ⟨4, l.map MDig.cs, 2, false⟩)] := by
  refine callR_of_jv b103 rfl ?_
  simp -implicitDefEqProofs only [go_sem]
  refine condJ_intro (fun h => ?_) (fun h => ?_)
  · have : l = [] := by simpa using h
    subst this
    simp -implicitDefEqProofs only [go_sem]
  · have hm := ok_len hl (by omega)
    have hmk : ((32 : Nat) : Int) * (l.length : Int) ≤ 281474976710656 ∧ (l.length : Int) ≤ 9223372036854775807 := by unfold maxLen at hm; omega
    simp -implicitDefEqProofs only [go_sem, h, hmk, List.length_replicate]
theorem c104_c (l : List ByteArray) (hl : l.length * 16 ≤ 140737488355328) : CallR Try.prog 104 [.ro 1 (l.map leafCs)] (.blk 0 0 [] 1 0 l.length) [([], ⟨1, l.map leafCs, 2, false⟩)] := by
  refine callR_of_jv b104 rfl ?_
  simp -implicitDefEqProofs only [go_sem]
  refine condJ_intro (fun h => ?_) (fun h => ?_)
  · have : l = [] := by simpa using h
    subst this
    simp -implicitDefEqProofs only [go_sem]
  · have hm := ok_len hl (by omega)
    have hmk : ((16 : Nat) : Int) * (l.length : Int) ≤ 281474976710656 ∧ (l.length : Int) ≤ 9223372036854775807 := by unfold maxLen at hm; omega
    simp -implicitDefEqProofs only [go_sem, h, hmk, List.length_replicate]
def pP2 (x : MRd × MMsg) : MRd × MMsg := ((mDigs (mNum x.1 1 0 16).1.toNat (mNum x.1 1 0 16).2).2, { x.2 with proof := x.2.proof ++ (mDigs (mNum x.1 1 0 16).1.toNat (mNum x.1 1 0 16).2).1 })
def pL2 (x : MRd × MMsg) : MRd × MMsg := ((mLeafs (mNum x.1 1 0 8).1.toNat (mNum x.1 1 0 8).2).2, { x.2 with leaves := x.2.leaves ++ (mLeafs (mNum x.1 1 0 8).1.toNat (mNum x.1 1 0 8).2).1 })
def pOf (c : Nat) (x : MRd × MMsg) : MRd × MMsg := match c with
  | 115 => pS x
  | 102 => pF x
  | 122 => pZ x
  | 114 => pR x
  | 99 => pC x
  | 112 => pP2 x
  | 108 => pL2 x
  | _ => x
def pRun (l : List UInt8) (x : MRd × MMsg) : MRd × MMsg := l.foldl (fun x b => pOf b.toNat x) x
theorem pRun_snoc (l : List UInt8) (b : UInt8) (x : MRd × MMsg) : pRun (l ++ [b]) x = pOf b.toNat (pRun l x) := by
  unfold pRun
  rw [List.foldl_append]
  rfl
theorem letters {k : Nat} (hk : 1 ≤ k ∧ k ≤ 8) {pos : Nat} (h : pos < (l5P (k : Int)).size) : pos ≤ 2 ∧ ∃ c, Utf8.decode (l5P (k : Int)) pos = (c, 1) ∧ (l5P (k : Int)).data.toList.take (pos + 1) = (l5P (k : Int)).data.toList.take pos ++ [UInt8.ofNat c] ∧ (UInt8.ofNat c).toNat = c ∧
    (c = 115 ∨ c = 102 ∨ c = 122 ∨ c = 114 ∨ c = 99 ∨ c = 112 ∨ c = 108) := by
  have hk' : k = 1 ∨ k = 2 ∨ k = 3 ∨ k = 4 ∨ k = 5 ∨ k = 6 ∨ k = 7 ∨ k = 8 := by omega
  have hs : (l5P (k : Int)).size ≤ 3 := by rcases hk' with rfl | rfl | rfl | rfl | rfl | rfl | rfl | rfl <;> decide
  have hp : pos = 0 ∨ pos = 1 ∨ pos = 2 := by omega
  refine ⟨by omega, ?_⟩
  rcases hk' with rfl | rfl | rfl | rfl | rfl | rfl | rfl | rfl <;> rcases hp with rfl | rfl | rfl <;>
    first
    | exact absurd h (by decide)
    | exact ⟨115, by decide, by decide, by decide, by decide⟩
    | exact ⟨102, by decide, by decide, by decide, by decide⟩
    | exact ⟨122, by decide, by decide, by decide, by decide⟩
    | exact ⟨114, by decide, by decide, by decide, by decide⟩
    | exact ⟨99, by decide, by decide, by decide, by decide⟩
    | exact ⟨112, by decide, by decide, by decide, by decide⟩
    | exact ⟨108, by decide, by decide, by decide, by decide⟩
theorem parts_run {k : Nat} (hk : 1 ≤ k ∧ k ≤ 8) (r : MRd) (z : Int) : mParts k (r, { MMsg.zero with kind := z }) = pRun ((l5P (k : Int)).data.toList.take (l5P (k : Int)).size) (r, { MMsg.zero with kind := z }) := by
  have hk' : k = 1 ∨ k = 2 ∨ k = 3 ∨ k = 4 ∨ k = 5 ∨ k = 6 ∨ k = 7 ∨ k = 8 := by omega
  rcases hk' with rfl | rfl | rfl | rfl | rfl | rfl | rfl | rfl <;> rfl
def zRow : List AV := [vI 0, vI 0, vI 0, vI 0, vU 0, vU 0, vU 0, vU 0, vI 0, .nilS, .nilS]
def mRow (m : MMsg) : List AV := [vI m.kind, vI m.session, vI m.from_, vI m.size, vU m.root.a, vU m.root.b, vU m.root.c, vU m.root.d, vI m.count, .blk 10006 0 [] 4 0 m.proof.length, .blk 20006 0 [] 1 0 m.leaves.length]
def mSig (x : MRd × MMsg) : Sig := [(2, 0, one ⟨11, [zRow], 0, false⟩), (3, 0, one ⟨2, [[vI 0, vI 0]], 0, false⟩), (4, 0, one ⟨4, [x.1.cs], 0, false⟩), (6, 0, one ⟨11, [mRow x.2], 0, false⟩), (10006, 0, one ⟨4, x.2.proof.map MDig.cs, 2, false⟩), (20006, 0, one ⟨1, x.2.leaves.map leafCs, 2, false⟩)]
attribute [go_sem] zRow mRow mSig
structure InvX (text : ByteArray) (pos : Nat) (x : MRd × MMsg) : Prop where
  rd : RdOK text x.1
  pl : x.2.proof.length ≤ 16 * pos
  ll : x.2.leaves.length ≤ 8 * pos
def MMsg.avM (m : MMsg) : AV := .agg [vI m.kind, vI m.session, vI m.from_, vI m.size, vU m.root.a, vU m.root.b, vU m.root.c, vU m.root.d, vI m.count, .blk 0 0 [] 4 0 m.proof.length, .blk 1 0 [] 1 0 m.leaves.length]
def MMsg.out (m : MMsg) : Sig := [(0, 0, one ⟨4, m.proof.map MDig.cs, 2, false⟩), (1, 0, one ⟨1, m.leaves.map leafCs, 2, false⟩)]
attribute [go_sem] MMsg.avM MMsg.out
theorem c49_c (text : ByteArray) (ht : text.size ≤ 1000000000000) : CallM Try.prog 49 [] [vS text] (.tup [(mWireRead text).1.avM, .agg [vI (mWireRead text).2.1, vI (mWireRead text).2.2]]) (mWireRead text).1.out := by
  refine callM_of_jv b49 rfl ?_
  simp -implicitDefEqProofs only [go_sem]
  refine WantM.intro (c99_c ⟨text, 0, 0, 0⟩ 1 (by omega) (Nat.zero_le _) ht) ?_
  rcases Nat.eq_zero_or_pos text.size with h0 | h0
  · have hr : mRaw ⟨text, 0, 0, 0⟩ 1 = (⟨#[]⟩, ⟨text, 0, 2, (text.size : Int)⟩) := by
      unfold mRaw
      rw [if_pos rfl, if_pos (show 0 + 1 > text.size by omega)]
    have hM : mWireRead text = (.zero, 2, 0) := by unfold mWireRead; rw [if_pos h0]
    rw [hM]
    simp -implicitDefEqProofs only [go_sem, hr, h0, MMsg.zero]
    first | rfl | exact ⟨rfl, rfl⟩
  · have hr : mRaw ⟨text, 0, 0, 0⟩ 1 = (text.extract 0 1, ⟨text, 1, 0, 0⟩) := by
      unfold mRaw
      rw [if_pos rfl, if_neg (show ¬ 0 + 1 > text.size by omega)]
    have hs : (text.extract 0 1).size = 1 := by rw [ByteArray.size_extract]; omega
    have hg := data_get (s := text.extract 0 1) (i := 0) (by omega)
    rw [bN_ext h0] at hg
    have hb := bN_lt text 0
    have w1 : IntKind.i64.wrap (bN text 0 : Int) = (bN text 0 : Int) := wrS (by omega)
    have h' : ¬ text.size = 0 := by omega
    simp -implicitDefEqProofs only [go_sem, hr, hg, w1]
    refine Want.intro (c45_c _ _ _) ?_
    simp -implicitDefEqProofs only [go_sem]
    refine condJ_intro (fun h => ?_) (fun h => ?_)
    · have hin : ¬ (1 ≤ bN text 0 ∧ bN text 0 ≤ 8) := fun hh => by
        have h3 : (1 : Int) ≤ (bN text 0 : Int) ∧ (bN text 0 : Int) ≤ 8 := by omega
        simp [mIn, h3.1, h3.2] at h
      have hM : mWireRead text = (.zero, 1, 0) := by unfold mWireRead; rw [if_neg h', if_neg hin]
      rw [hM]
      simp -implicitDefEqProofs only [go_sem, h, MMsg.zero]
      first | rfl | exact ⟨rfl, rfl⟩
    · have hin : 1 ≤ bN text 0 ∧ bN text 0 ≤ 8 := by
        have : (1 : Int) ≤ (bN text 0 : Int) ∧ (bN text 0 : Int) ≤ 8 := by simpa [mIn] using h
        omega
      simp -implicitDefEqProofs only [go_sem, h, hg, w1]
      refine Want.intro (c100_c (bN text 0)) ?_
      simp -implicitDefEqProofs only [go_sem]
      refine rng_intro (l5P (bN text 0 : Int)) [0, 2, 3, 4, 6, 51] [(10006, 4), (11006, 1)] (fun r pos z => pos ≤ (l5P (bN text 0 : Int)).size ∧ ∃ X, X = pRun ((l5P (bN text 0 : Int)).data.toList.take pos) (⟨text, 1, 0, 0⟩, { MMsg.zero with kind := bN text 0 }) ∧ InvX text pos X ∧ z = ⟨157, [(0, vS text), (2, .ptr 2 0 [] 11 0 0), (3, .ptr 3 0 [] 2 0 0), (4, .ptr 4 0 [] 4 0 0), (6, .ptr 6 0 [] 11 0 0), (51, .it r)], mSig X, 1⟩) ?_ ?_ ?_ ?_ ?_ ?_
      · rfl
      · omega
      · intro r
        simp -implicitDefEqProofs only [go_sem]
        exact ⟨Nat.zero_le _, _, rfl, ⟨⟨rfl, by show 1 ≤ text.size; omega⟩, Nat.zero_le _, Nat.zero_le _⟩, rfl⟩
      · rintro r pos z ⟨-, X, -, -, rfl⟩
        exact ⟨rfl, rfl⟩
      · rintro r pos z ⟨hle, X, hX, hinv, rfl⟩ hlt
        obtain ⟨hp2, c, hd, htk, huc, hc⟩ := letters hin hlt
        have hX1 : pOf c X = pRun ((l5P (bN text 0 : Int)).data.toList.take (pos + 1)) (⟨text, 1, 0, 0⟩, { MMsg.zero with kind := bN text 0 }) := by rw [htk, pRun_snoc, huc, ← hX]
        refine ⟨c, hd, ?_⟩
        clear hX
        have hrp : X.1.p ≤ X.1.t.size := by rw [hinv.rd.t]; exact hinv.rd.p
        have hrt : X.1.t.size ≤ 1000000000000 := by rw [hinv.rd.t]; exact ht
        have hpl := hinv.pl
        have hll := hinv.ll
        rcases hc with rfl | rfl | rfl | rfl | rfl | rfl | rfl
        · have hcc : ((115 : Nat) : Int) = 115 := rfl
          simp -implicitDefEqProofs only [go_sem, hcc]
          refine WantM.intro (c101_c X.1 3 1 1000000 (by omega) hrp hrt) ?_
          simp -implicitDefEqProofs only [go_sem]
          exact ⟨hlt, pS X, hX1, ⟨hinv.rd.num _ _ _, by show X.2.proof.length ≤ _; omega, by show X.2.leaves.length ≤ _; omega⟩, rfl⟩
        · have hcc : ((102 : Nat) : Int) = 102 := rfl
          simp -implicitDefEqProofs only [go_sem, hcc]
          refine WantM.intro (c101_c X.1 2 0 256 (by omega) hrp hrt) ?_
          simp -implicitDefEqProofs only [go_sem]
          exact ⟨hlt, pF X, hX1, ⟨hinv.rd.num _ _ _, by show X.2.proof.length ≤ _; omega, by show X.2.leaves.length ≤ _; omega⟩, rfl⟩
        · have hcc : ((122 : Nat) : Int) = 122 := rfl
          simp -implicitDefEqProofs only [go_sem, hcc]
          refine WantM.intro (c101_c X.1 2 0 256 (by omega) hrp hrt) ?_
          simp -implicitDefEqProofs only [go_sem]
          exact ⟨hlt, pZ X, hX1, ⟨hinv.rd.num _ _ _, by show X.2.proof.length ≤ _; omega, by show X.2.leaves.length ≤ _; omega⟩, rfl⟩
        · have hcc : ((114 : Nat) : Int) = 114 := rfl
          simp -implicitDefEqProofs only [go_sem, hcc]
          refine WantM.intro (c102_c X.1 hrp hrt) ?_
          simp -implicitDefEqProofs only [go_sem]
          exact ⟨hlt, pR X, hX1, ⟨hinv.rd.dig, by show X.2.proof.length ≤ _; omega, by show X.2.leaves.length ≤ _; omega⟩, rfl⟩
        · have hcc : ((99 : Nat) : Int) = 99 := rfl
          simp -implicitDefEqProofs only [go_sem, hcc]
          refine WantM.intro (c101_c X.1 1 1 8 (by omega) hrp hrt) ?_
          simp -implicitDefEqProofs only [go_sem]
          exact ⟨hlt, pC X, hX1, ⟨hinv.rd.num _ _ _, by show X.2.proof.length ≤ _; omega, by show X.2.leaves.length ≤ _; omega⟩, rfl⟩
        · have hcc : ((112 : Nat) : Int) = 112 := rfl
          simp -implicitDefEqProofs only [go_sem, hcc]
          refine WantM.intro (c101_c X.1 1 0 16 (by omega) hrp hrt) ?_
          have hv := mNum_bd X.1 1 16 (by omega)
          have hr1 := hinv.rd.num 1 0 16
          have hfin : pOf 112 X = ((mDigs (mNum X.1 1 0 16).1.toNat (mNum X.1 1 0 16).2).2, { X.2 with proof := X.2.proof ++ (mDigs (mNum X.1 1 0 16).1.toNat (mNum X.1 1 0 16).2).1 }) := rfl
          generalize mNum X.1 1 0 16 = y at *
          obtain ⟨v, R⟩ := y
          simp only at hv hr1 hfin
          simp -implicitDefEqProofs only [go_sem]
          refine jv_lp (fun m z => ∃ i : Nat, i ≤ v.toNat ∧ m = v.toNat - i ∧ z = ⟨157, [(0, vS text), (2, .ptr 2 0 [] 11 0 0), (3, .ptr 3 0 [] 2 0 0), (4, .ptr 4 0 [] 4 0 0), (6, .ptr 6 0 [] 11 0 0), (9, vI (v - (i : Int))), (51, .it r)], mSig ((mDigs i R).2, { X.2 with proof := X.2.proof ++ (mDigs i R).1 }), 1⟩) v.toNat ?_ ?_
          · simp -implicitDefEqProofs only [go_sem]
            exact ⟨0, Nat.zero_le _, rfl, by simp [mDigs]⟩
          · rintro m z ⟨i, hi, rfl, rfl⟩
            have hlen := mDigs_len i R
            have hri := hr1.digs i
            rcases Nat.lt_or_ge i v.toNat with hl | hge
            · have hlt' : v - (i : Int) > 0 := by omega
              have w4 : IntKind.i64.wrap (v - (i : Int) - 1) = v - ((i + 1 : Nat) : Int) := by rw [wrS (by omega)]; omega
              have ha : ∀ x, _ := fun x => app_ok (E := MDig.cs) (l := X.2.proof ++ (mDigs i R).1) (xs := [x]) (b := 32) (n := 100) (by simp [hlen]; omega) (by omega) (by omega)
              simp -implicitDefEqProofs only [go_sem, hlt']
              refine WantM.intro (c102_c (mDigs i R).2 (by rw [hri.t]; exact hri.p) (by rw [hri.t]; exact ht)) ?_
              simp -implicitDefEqProofs only [go_sem, ha, w4]
              exact ⟨_, by omega, i + 1, hl, rfl, by simp [mDigs]; rfl⟩
            · have hi : i = v.toNat := by omega
              have hlt' : ¬ (v - (i : Int) > 0) := by omega
              simp -implicitDefEqProofs only [go_sem, hlt']
              subst hi
              rw [hfin] at hX1
              exact ⟨hlt, _, hX1, ⟨hri, by simp [hlen]; omega, by simp [hlen]; omega⟩, rfl⟩
        · have hcc : ((108 : Nat) : Int) = 108 := rfl
          simp -implicitDefEqProofs only [go_sem, hcc]
          refine WantM.intro (c101_c X.1 1 0 8 (by omega) hrp hrt) ?_
          have hv := mNum_bd X.1 1 8 (by omega)
          have hr1 := hinv.rd.num 1 0 8
          have hfin : pOf 108 X = ((mLeafs (mNum X.1 1 0 8).1.toNat (mNum X.1 1 0 8).2).2, { X.2 with leaves := X.2.leaves ++ (mLeafs (mNum X.1 1 0 8).1.toNat (mNum X.1 1 0 8).2).1 }) := rfl
          generalize mNum X.1 1 0 8 = y at *
          obtain ⟨v, R⟩ := y
          simp only at hv hr1 hfin
          simp -implicitDefEqProofs only [go_sem]
          refine jv_lp (fun m z => ∃ i : Nat, i ≤ v.toNat ∧ m = v.toNat - i ∧ z = ⟨157, [(0, vS text), (2, .ptr 2 0 [] 11 0 0), (3, .ptr 3 0 [] 2 0 0), (4, .ptr 4 0 [] 4 0 0), (6, .ptr 6 0 [] 11 0 0), (10, vI (v - (i : Int))), (51, .it r)], mSig ((mLeafs i R).2, { X.2 with leaves := X.2.leaves ++ (mLeafs i R).1 }), 1⟩) v.toNat ?_ ?_
          · simp -implicitDefEqProofs only [go_sem]
            exact ⟨0, Nat.zero_le _, rfl, by simp [mLeafs]⟩
          · rintro m z ⟨i, hi, rfl, rfl⟩
            have hlen := mLeafs_len i R
            have hri := hr1.leafs i
            rcases Nat.lt_or_ge i v.toNat with hl | hge
            · have hlt' : v - (i : Int) > 0 := by omega
              have w4 : IntKind.i64.wrap (v - (i : Int) - 1) = v - ((i + 1 : Nat) : Int) := by rw [wrS (by omega)]; omega
              have ha : ∀ x, _ := fun x => app_ok (E := leafCs) (l := X.2.leaves ++ (mLeafs i R).1) (xs := [x]) (b := 16) (n := 100) (by simp [hlen]; omega) (by omega) (by omega)
              simp -implicitDefEqProofs only [go_sem, hlt']
              refine WantM.intro (c101_c (mLeafs i R).2 1 0 40 (by omega) (by rw [hri.t]; exact hri.p) (by rw [hri.t]; exact ht)) ?_
              have hr2 := hri.num 1 0 40
              have hbd := mNum_bd (mLeafs i R).2 1 40 (by omega)
              have hcast : (mNum (mLeafs i R).2 1 0 40).1 = ((mNum (mLeafs i R).2 1 0 40).1.toNat : Int) := (Int.toNat_of_nonneg hbd.1).symm
              simp -implicitDefEqProofs only [go_sem]
              rw [hcast]
              refine WantM.intro (c99_c (mNum (mLeafs i R).2 1 0 40).2 (mNum (mLeafs i R).2 1 0 40).1.toNat (by omega) (by rw [hr2.t]; exact hr2.p) (by rw [hr2.t]; exact ht)) ?_
              simp -implicitDefEqProofs only [go_sem, ha, w4]
              exact ⟨_, by omega, i + 1, hl, rfl, by simp [mLeafs, mLeaf, leafCs]⟩
            · have hi : i = v.toNat := by omega
              have hlt' : ¬ (v - (i : Int) > 0) := by omega
              simp -implicitDefEqProofs only [go_sem, hlt']
              subst hi
              rw [hfin] at hX1
              exact ⟨hlt, _, hX1, ⟨hri, by simp [hlen]; omega, by simp [hlen]; omega⟩, rfl⟩
      · rintro r pos z ⟨hle, X, hX, hinv, rfl⟩ hge
        have hpos : pos = (l5P (bN text 0 : Int)).size := by omega
        subst hpos
        have hM : mWireRead text = mEnd text X := by
          unfold mWireRead
          rw [if_neg h', if_pos hin, parts_run hin, hX]
        have hs3 : (l5P (bN text 0 : Int)).size ≤ 3 := by
          have hk' : bN text 0 = 1 ∨ bN text 0 = 2 ∨ bN text 0 = 3 ∨ bN text 0 = 4 ∨ bN text 0 = 5 ∨ bN text 0 = 6 ∨ bN text 0 = 7 ∨ bN text 0 = 8 := by omega
          rcases hk' with e | e | e | e | e | e | e | e <;> rw [e] <;> decide
        have hpl := hinv.pl
        have hll := hinv.ll
        have hrp := hinv.rd.p
        rw [hM]
        obtain ⟨⟨t1, p1, c1, a1⟩, k1, s1, f1, z1, ⟨da, db, dc, dd⟩, n1, ps, ls⟩ := X
        have ht1 : t1 = text := hinv.rd.t
        subst t1
        simp only at hpl hll hrp
        clear hM hX hinv
        by_cases hc : c1 = 0
        · subst hc
          by_cases hp : p1 < text.size
          · have hp' : (p1 : Int) < (text.size : Int) := by omega
            rw [show mEnd text (⟨text, p1, 0, a1⟩, ⟨k1, s1, f1, z1, ⟨da, db, dc, dd⟩, n1, ps, ls⟩) = (.zero, 4, (p1 : Int)) from by simp [mEnd, hp]]
            simp -implicitDefEqProofs only [go_sem, hp', MMsg.zero]
            first | done | rfl | exact ⟨rfl, rfl⟩
          · have hp' : ¬ (p1 : Int) < (text.size : Int) := by omega
            rw [show mEnd text (⟨text, p1, 0, a1⟩, ⟨k1, s1, f1, z1, ⟨da, db, dc, dd⟩, n1, ps, ls⟩) = (⟨k1, s1, f1, z1, ⟨da, db, dc, dd⟩, n1, ps, ls⟩, 0, 0) from by simp [mEnd, hp]]
            simp -implicitDefEqProofs only [go_sem, hp']
            refine Want.intro (c103_c ps (by omega)) ?_
            simp -implicitDefEqProofs only [go_sem]
            refine Want.intro (c104_c ls (by omega)) ?_
            simp -implicitDefEqProofs only [go_sem]
            first | done | rfl | exact ⟨rfl, rfl⟩
        · have hc1 : (c1 == 0) = false := by simpa using hc
          have hc2 : (c1 != 0) = true := by simpa using hc
          rw [show mEnd text (⟨text, p1, c1, a1⟩, ⟨k1, s1, f1, z1, ⟨da, db, dc, dd⟩, n1, ps, ls⟩) = (.zero, c1, a1) from by simp [mEnd, hc]]
          simp -implicitDefEqProofs only [go_sem, hc1, hc2, MMsg.zero]
          first | done | rfl | exact ⟨rfl, rfl⟩
end Go.Proofs.Ytkhemolkhegppaa.E
