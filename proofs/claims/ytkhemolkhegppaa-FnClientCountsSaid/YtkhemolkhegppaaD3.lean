/-
  Contracts: messages; what the wire says.
-/
import Derived.Test.YtkhemolkhegppaaD2
namespace Go.Proofs.Ytkhemolkhegppaa.E
open Go Go.RowKit
set_option maxHeartbeats 4000000
set_option maxRecDepth 10000
set_option linter.unusedSimpArgs false
set_option linter.unusedVariables false
set_option linter.unusedSectionVars false
@[go_sem] def c54 : SC J := .sq [0] (.reg [.p (.as 2 (.const (.string { data := #[] })))])
 (.sq [0] (.sq [0, 4] (.reg [.p (.mv 3 (.tmp 0)), .p (.bn 4 .eql 3 (.tmp 3) (.const (.int .i64 1)) 3)])
   (.cond (.tmp 4)
    (.sq [2] (.reg [.p (.as 2 (.const (.string { data := #[115] })))])
     (.ret))
    (.skip)))
  (.sq [0] (.sq [0, 14] (.reg [.p (.mv 5 (.tmp 0)), .p (.bn 6 .eql 3 (.tmp 5) (.const (.int .i64 2)) 3), .p (.mv 7 (.tmp 6)), .g 7 false (.mv 8 (.tmp 0)), .g 7 false (.bn 9 .eql 3 (.tmp 8) (.const (.int .i64 3)) 3), .p (.pk 10 (.tmp 7) (.const (.bool true)) (.tmp 9)), .p (.mv 11 (.tmp 10)), .g 11 false (.mv 12 (.tmp 0)), .g 11 false (.bn 13 .eql 3 (.tmp 12) (.const (.int .i64 6)) 3), .p (.pk 14 (.tmp 11) (.const (.bool true)) (.tmp 13))])
    (.cond (.tmp 14)
     (.sq [2] (.reg [.p (.as 2 (.const (.string { data := #[115, 110, 114] })))])
      (.ret))
     (.skip)))
   (.sq [0] (.sq [0, 16] (.reg [.p (.mv 15 (.tmp 0)), .p (.bn 16 .eql 3 (.tmp 15) (.const (.int .i64 4)) 3)])
     (.cond (.tmp 16)
      (.sq [2] (.reg [.p (.as 2 (.const (.string { data := #[102, 110] })))])
       (.ret))
      (.skip)))
    (.sq [0] (.sq [0, 18] (.reg [.p (.mv 17 (.tmp 0)), .p (.bn 18 .eql 3 (.tmp 17) (.const (.int .i64 5)) 3)])
      (.cond (.tmp 18)
       (.sq [2] (.reg [.p (.as 2 (.const (.string { data := #[102, 110, 112] })))])
        (.ret))
       (.skip)))
     (.sq [0] (.sq [0, 20] (.reg [.p (.mv 19 (.tmp 0)), .p (.bn 20 .eql 3 (.tmp 19) (.const (.int .i64 7)) 3)])
       (.cond (.tmp 20)
        (.sq [2] (.reg [.p (.as 2 (.const (.string { data := #[102, 99] })))])
         (.ret))
        (.skip)))
      (.sq [] (.sq [22] (.reg [.p (.mv 21 (.tmp 0)), .p (.bn 22 .eql 3 (.tmp 21) (.const (.int .i64 8)) 3)])
        (.cond (.tmp 22)
         (.sq [2] (.reg [.p (.as 2 (.const (.string { data := #[102, 108] })))])
          (.ret))
         (.skip)))
       (.sq [2] (.reg [.p (.as 2 (.const (.string { data := #[] })))])
        (.ret))))))))
theorem b54 : BodyOK Try.prog 54 c54 23 [.tmp 2] := ⟨Try.f54, by kernel_rfl, by kernel_rfl, by kernel_rfl, by kernel_rfl, by kernel_rfl⟩

@[go_sem] def c56 : SC J := .sq [0, 1] (.reg [.p (.as 4 (.const (.bool false)))])
 (.sq [] (.sq [0, 1, 5] (.reg [.p (.as 5 (.const (.int .i64 0)))])
   (.block 0 (.lp [0, 1, 5] (.sq [0, 1, 5] (.sq [0, 1, 5, 9] (.reg [.p (.mv 6 (.tmp 5)), .p (.mv 7 (.tmp 0)), .p (.ln 8 9 (.tmp 7)), .p (.bn 9 .lss 3 (.tmp 6) (.tmp 8) 3)])
       (.cond (.tmp 9)
        (.skip)
        (.exit 0)))
      (.sq [0, 1, 5] (.block 1 (.sq [0, 1, 5, 16] (.reg [.p (.mv 12 (.tmp 0)), .p (.mv 13 (.tmp 5)), .p (.ix 14 9 (.tmp 12) (.tmp 13)), .p (.mv 15 (.tmp 1)), .p (.bn 16 .eql 5 (.tmp 14) (.tmp 15) 5)])
         (.cond (.tmp 16)
          (.sq [4] (.reg [.p (.as 4 (.const (.bool true)))])
           (.ret))
          (.skip))))
       (.reg [.p (.mv 10 (.tmp 5)), .p (.bn 11 .add 3 (.tmp 10) (.const (.int .i64 1)) 3), .p (.as 5 (.tmp 11))]))))))
  (.sq [4] (.reg [.p (.as 4 (.const (.bool false)))])
   (.ret)))
theorem b56 : BodyOK Try.prog 56 c56 17 [.tmp 4] := ⟨Try.f56, by kernel_rfl, by kernel_rfl, by kernel_rfl, by kernel_rfl, by kernel_rfl⟩

@[go_sem] def c100 : SC J := .sq [0] (.reg [.p (.as 2 (.const (.string { data := #[] })))])
 (.sq [0] (.sq [0, 5] (.reg [.p (.mv 3 (.tmp 0)), .p (.cl (some 4) 45 [.tmp 3, .const (.int .i64 1), .const (.int .i64 8)] [3, 3, 3]), .p (.un 5 .not 4 (.tmp 4))])
   (.cond (.tmp 5)
    (.sq [2] (.reg [.p (.as 2 (.const (.string { data := #[] })))])
     (.ret))
    (.skip)))
  (.sq [2] (.reg [.p (.bs 6 43 9 [(0, .const (.string { data := #[] })), (1, .const (.string { data := #[115] })), (2, .const (.string { data := #[115, 122, 114] })), (3, .const (.string { data := #[115, 122, 114] })), (4, .const (.string { data := #[102, 122] })), (5, .const (.string { data := #[102, 122, 112] })), (6, .const (.string { data := #[115, 122, 114] })), (7, .const (.string { data := #[102, 99] })), (8, .const (.string { data := #[102, 108] }))]), .p (.mv 7 (.tmp 0)), .p (.ia 8 43 (.tmp 6) (.tmp 7)), .p (.ld 9 9 (.tmp 8)), .p (.as 2 (.tmp 9))])
   (.ret)))
theorem b100 : BodyOK Try.prog 100 c100 10 [.tmp 2] := ⟨Try.f100, by kernel_rfl, by kernel_rfl, by kernel_rfl, by kernel_rfl, by kernel_rfl⟩

def mHasL (l : List UInt8) (c : Nat) : Bool := l.any fun b => b.toNat == c
def mHasB (s : ByteArray) (c : Nat) : Bool := mHasL s.data.toList c
@[go_sem] theorem has_s_115 : mHasB ⟨#[115]⟩ 115 = true := rfl
@[go_sem] theorem has_s_102 : mHasB ⟨#[115]⟩ 102 = false := rfl
@[go_sem] theorem has_s_110 : mHasB ⟨#[115]⟩ 110 = false := rfl
@[go_sem] theorem has_s_114 : mHasB ⟨#[115]⟩ 114 = false := rfl
@[go_sem] theorem has_s_99 : mHasB ⟨#[115]⟩ 99 = false := rfl
@[go_sem] theorem has_s_112 : mHasB ⟨#[115]⟩ 112 = false := rfl
@[go_sem] theorem has_s_108 : mHasB ⟨#[115]⟩ 108 = false := rfl
@[go_sem] theorem has_snr_115 : mHasB ⟨#[115, 110, 114]⟩ 115 = true := rfl
@[go_sem] theorem has_snr_102 : mHasB ⟨#[115, 110, 114]⟩ 102 = false := rfl
@[go_sem] theorem has_snr_110 : mHasB ⟨#[115, 110, 114]⟩ 110 = true := rfl
@[go_sem] theorem has_snr_114 : mHasB ⟨#[115, 110, 114]⟩ 114 = true := rfl
@[go_sem] theorem has_snr_99 : mHasB ⟨#[115, 110, 114]⟩ 99 = false := rfl
@[go_sem] theorem has_snr_112 : mHasB ⟨#[115, 110, 114]⟩ 112 = false := rfl
@[go_sem] theorem has_snr_108 : mHasB ⟨#[115, 110, 114]⟩ 108 = false := rfl
@[go_sem] theorem has_fn_115 : mHasB ⟨#[102, 110]⟩ 115 = false := rfl
@[go_sem] theorem has_fn_102 : mHasB ⟨#[102, 110]⟩ 102 = true := rfl
@[go_sem] theorem has_fn_110 : mHasB ⟨#[102, 110]⟩ 110 = true := rfl
@[go_sem] theorem has_fn_114 : mHasB ⟨#[102, 110]⟩ 114 = false := rfl
@[go_sem] theorem has_fn_99 : mHasB ⟨#[102, 110]⟩ 99 = false := rfl
@[go_sem] theorem has_fn_112 : mHasB ⟨#[102, 110]⟩ 112 = false := rfl
@[go_sem] theorem has_fn_108 : mHasB ⟨#[102, 110]⟩ 108 = false := rfl
@[go_sem] theorem has_fnp_115 : mHasB ⟨#[102, 110, 112]⟩ 115 = false := rfl
@[go_sem] theorem has_fnp_102 : mHasB ⟨#[102, 110, 112]⟩ 102 = true := rfl
@[go_sem] theorem has_fnp_110 : mHasB ⟨#[102, 110, 112]⟩ 110 = true := rfl
@[go_sem] theorem has_fnp_114 : mHasB ⟨#[102, 110, 112]⟩ 114 = false := rfl
@[go_sem] theorem has_fnp_99 : mHasB ⟨#[102, 110, 112]⟩ 99 = false := rfl
@[go_sem] theorem has_fnp_112 : mHasB ⟨#[102, 110, 112]⟩ 112 = true := rfl
@[go_sem] theorem has_fnp_108 : mHasB ⟨#[102, 110, 112]⟩ 108 = false := rfl
@[go_sem] theorem has_fc_115 : mHasB ⟨#[102, 99]⟩ 115 = false := rfl
@[go_sem] theorem has_fc_102 : mHasB ⟨#[102, 99]⟩ 102 = true := rfl
@[go_sem] theorem has_fc_110 : mHasB ⟨#[102, 99]⟩ 110 = false := rfl
@[go_sem] theorem has_fc_114 : mHasB ⟨#[102, 99]⟩ 114 = false := rfl
@[go_sem] theorem has_fc_99 : mHasB ⟨#[102, 99]⟩ 99 = true := rfl
@[go_sem] theorem has_fc_112 : mHasB ⟨#[102, 99]⟩ 112 = false := rfl
@[go_sem] theorem has_fc_108 : mHasB ⟨#[102, 99]⟩ 108 = false := rfl
@[go_sem] theorem has_fl_115 : mHasB ⟨#[102, 108]⟩ 115 = false := rfl
@[go_sem] theorem has_fl_102 : mHasB ⟨#[102, 108]⟩ 102 = true := rfl
@[go_sem] theorem has_fl_110 : mHasB ⟨#[102, 108]⟩ 110 = false := rfl
@[go_sem] theorem has_fl_114 : mHasB ⟨#[102, 108]⟩ 114 = false := rfl
@[go_sem] theorem has_fl_99 : mHasB ⟨#[102, 108]⟩ 99 = false := rfl
@[go_sem] theorem has_fl_112 : mHasB ⟨#[102, 108]⟩ 112 = false := rfl
@[go_sem] theorem has_fl_108 : mHasB ⟨#[102, 108]⟩ 108 = true := rfl
def l5H (k : Int) : ByteArray :=
  if k = 1 then ⟨#[115]⟩ else if k = 2 ∨ k = 3 ∨ k = 6 then ⟨#[115, 110, 114]⟩ else if k = 4 then ⟨#[102, 110]⟩ else if k = 5 then ⟨#[102, 110, 112]⟩ else if k = 7 then ⟨#[102, 99]⟩ else if k = 8 then ⟨#[102, 108]⟩ else ⟨#[]⟩
theorem c54_c (k : Int) : CallR Try.prog 54 [vI k] (vS (l5H k)) [] := by
  refine callR_of_jv b54 rfl ?_
  simp -implicitDefEqProofs only [go_sem]
  repeat' first | (refine guardP_intro (fun h => ?_) (fun h => ?_) <;> try simp -implicitDefEqProofs only [go_sem, h]) | (refine condJ_intro (fun h => ?_) (fun h => ?_) <;> try simp -implicitDefEqProofs only [go_sem, h])
  all_goals simp_all [l5H]
  all_goals (try omega)
  all_goals trace_state
theorem mHasB_drop {s : ByteArray} {i c : Nat} (h : i < s.size) : mHasL (s.data.toList.drop i) c = ((bN s i == c) || mHasL (s.data.toList.drop (i + 1)) c) := by
  have h' : i < s.data.toList.length := by rw [Array.length_toList]; exact h
  rw [List.drop_eq_getElem_cons h']
  unfold mHasL
  rw [List.any_cons]
  congr 2
  have := bN_bL s i 0
  rw [Nat.add_zero] at this
  rw [this]
  unfold bL
  rw [List.drop_eq_getElem_cons h']
  rfl
theorem c56_c (s : ByteArray) (c : Nat) (hs : s.size ≤ 1000000000000) : CallR Try.prog 56 [vS s, .sc (.int .u8 (c : Int))] (vB (mHasB s c)) [] := by
  refine callR_of_jv b56 rfl ?_
  simp -implicitDefEqProofs only [go_sem]
  refine jv_lp (fun m z => ∃ i, i ≤ s.size ∧ m = s.size - i ∧ mHasL (s.data.toList.drop i) c = mHasB s c ∧ z = ⟨17, [(0, vS s), (1, .sc (.int .u8 (c : Int))), (5, vI i)], [], 1⟩) s.size ?_ ?_
  · simp -implicitDefEqProofs only [go_sem]
    exact ⟨0, Nat.zero_le _, rfl, rfl, rfl⟩
  · rintro m z ⟨i, hi, rfl, hx, rfl⟩
    rcases Nat.lt_or_ge i s.size with hlt | hge
    · have hlt' : (i : Int) < (s.size : Int) := by omega
      have hg := data_get (s := s) (i := i) hlt
      have w4 : IntKind.i64.wrap ((i : Int) + 1) = ((i + 1 : Nat) : Int) := by rw [wrS (by omega)]; omega
      rw [mHasB_drop hlt] at hx
      simp -implicitDefEqProofs only [go_sem, hlt', hg]
      refine condJ_intro (fun h => ?_) (fun h => ?_)
      · have h2 : bN s i = c := by have := of_decide_eq_true h; omega
        simp -implicitDefEqProofs only [go_sem, h]
        rw [← hx, h2]
        simp
      · have h2 : ¬ bN s i = c := fun e => by rw [e] at h; simp at h
        simp -implicitDefEqProofs only [go_sem, h, w4]
        refine ⟨_, by omega, i + 1, hlt, rfl, ?_, rfl⟩
        rw [← hx]
        simp [h2]
    · have hi : i = s.size := by omega
      subst hi
      have hlt' : ¬ ((s.size : Int) < (s.size : Int)) := by omega
      simp -implicitDefEqProofs only [go_sem, hlt']
      rw [← hx]
      rw [List.drop_of_length_le (by rw [Array.length_toList]; exact Nat.le_refl _)]
      rfl
def l5P (k : Int) : ByteArray :=
  if k = 1 then ⟨#[115]⟩ else if k = 2 ∨ k = 3 ∨ k = 6 then ⟨#[115, 122, 114]⟩ else if k = 4 then ⟨#[102, 122]⟩ else if k = 5 then ⟨#[102, 122, 112]⟩ else if k = 7 then ⟨#[102, 99]⟩ else if k = 8 then ⟨#[102, 108]⟩ else ⟨#[]⟩
theorem c100_c (k : Nat) : CallR Try.prog 100 [vI k] (vS (l5P k)) [] := by
  refine callR_of_jv b100 rfl ?_
  simp -implicitDefEqProofs only [go_sem]
  refine Want.intro (c45_c _ _ _) ?_
  simp -implicitDefEqProofs only [go_sem]
  refine condJ_intro (fun h => ?_) (fun h => ?_)
  · simp -implicitDefEqProofs only [go_sem, h]
    have : ¬ (1 ≤ (k : Int) ∧ (k : Int) ≤ 8) := fun hh => by simp [mIn, hh.1, hh.2] at h
    rw [l5P, if_neg (by omega), if_neg (by omega), if_neg (by omega), if_neg (by omega), if_neg (by omega), if_neg (by omega)]
  · have hk : 1 ≤ k ∧ k ≤ 8 := by
      have : 1 ≤ (k : Int) ∧ (k : Int) ≤ 8 := by simpa [mIn] using h
      omega
    have : k = 1 ∨ k = 2 ∨ k = 3 ∨ k = 4 ∨ k = 5 ∨ k = 6 ∨ k = 7 ∨ k = 8 := by omega
    rcases this with rfl | rfl | rfl | rfl | rfl | rfl | rfl | rfl <;> simp -implicitDefEqProofs only [go_sem, h, (by decide : ((1 : Nat) : Int) < ((9 : Nat) : Int)), (by decide : ((2 : Nat) : Int) < ((9 : Nat) : Int)), (by decide : ((3 : Nat) : Int) < ((9 : Nat) : Int)), (by decide : ((4 : Nat) : Int) < ((9 : Nat) : Int)), (by decide : ((5 : Nat) : Int) < ((9 : Nat) : Int)), (by decide : ((6 : Nat) : Int) < ((9 : Nat) : Int)), (by decide : ((7 : Nat) : Int) < ((9 : Nat) : Int)), (by decide : ((8 : Nat) : Int) < ((9 : Nat) : Int))]
    all_goals rfl
end Go.Proofs.Ytkhemolkhegppaa.E
