/-
  Contracts: messages; what the wire says.
-/
import Derived.Test.YtjlhdfciklnndaaGreatD2
namespace Go.Proofs.YtjlhdfciklnndaaGreat.E
open Go Go.RowKit
set_option maxHeartbeats 4000000
set_option maxRecDepth 10000
set_option linter.unusedSimpArgs false
set_option linter.unusedVariables false
set_option linter.unusedSectionVars false
def dcD3 : Dec := ⟨[], [9, 10, 11], [27, 30, 44, 45, 46, 58, 68, 78, 79, 86, 101, 112, 113, 132, 174, 196, 247, 249, 351, 356], false⟩

def mHasL (l : List UInt8) (c : Nat) : Bool := l.any fun b => b.toNat == c
def mHasB (s : ByteArray) (c : Nat) : Bool := mHasL s.data.toList c
@[go_sem] theorem has_s_115 : mHasB ⟨#[115]⟩ 115 = true := rfl
@[go_sem] theorem has_s_102 : mHasB ⟨#[115]⟩ 102 = false := rfl
@[go_sem] theorem has_s_110 : mHasB ⟨#[115]⟩ 110 = false := rfl
@[go_sem] theorem has_s_114 : mHasB ⟨#[115]⟩ 114 = false := rfl
@[go_sem] theorem has_s_99 : mHasB ⟨#[115]⟩ 99 = false := rfl
@[go_sem] theorem has_s_112 : mHasB ⟨#[115]⟩ 112 = false := rfl
@[go_sem] theorem has_s_108 : mHasB ⟨#[115]⟩ 108 = false := rfl
@[go_sem] theorem has_snr_115 : mHasB ⟨#[115, 110, 114]⟩ 115 = true := rfl
@[go_sem] theorem has_snr_102 : mHasB ⟨#[115, 110, 114]⟩ 102 = false := rfl
@[go_sem] theorem has_snr_110 : mHasB ⟨#[115, 110, 114]⟩ 110 = true := rfl
@[go_sem] theorem has_snr_114 : mHasB ⟨#[115, 110, 114]⟩ 114 = true := rfl
@[go_sem] theorem has_snr_99 : mHasB ⟨#[115, 110, 114]⟩ 99 = false := rfl
@[go_sem] theorem has_snr_112 : mHasB ⟨#[115, 110, 114]⟩ 112 = false := rfl
@[go_sem] theorem has_snr_108 : mHasB ⟨#[115, 110, 114]⟩ 108 = false := rfl
@[go_sem] theorem has_fn_115 : mHasB ⟨#[102, 110]⟩ 115 = false := rfl
@[go_sem] theorem has_fn_102 : mHasB ⟨#[102, 110]⟩ 102 = true := rfl
@[go_sem] theorem has_fn_110 : mHasB ⟨#[102, 110]⟩ 110 = true := rfl
@[go_sem] theorem has_fn_114 : mHasB ⟨#[102, 110]⟩ 114 = false := rfl
@[go_sem] theorem has_fn_99 : mHasB ⟨#[102, 110]⟩ 99 = false := rfl
@[go_sem] theorem has_fn_112 : mHasB ⟨#[102, 110]⟩ 112 = false := rfl
@[go_sem] theorem has_fn_108 : mHasB ⟨#[102, 110]⟩ 108 = false := rfl
@[go_sem] theorem has_fnp_115 : mHasB ⟨#[102, 110, 112]⟩ 115 = false := rfl
@[go_sem] theorem has_fnp_102 : mHasB ⟨#[102, 110, 112]⟩ 102 = true := rfl
@[go_sem] theorem has_fnp_110 : mHasB ⟨#[102, 110, 112]⟩ 110 = true := rfl
@[go_sem] theorem has_fnp_114 : mHasB ⟨#[102, 110, 112]⟩ 114 = false := rfl
@[go_sem] theorem has_fnp_99 : mHasB ⟨#[102, 110, 112]⟩ 99 = false := rfl
@[go_sem] theorem has_fnp_112 : mHasB ⟨#[102, 110, 112]⟩ 112 = true := rfl
@[go_sem] theorem has_fnp_108 : mHasB ⟨#[102, 110, 112]⟩ 108 = false := rfl
@[go_sem] theorem has_fc_115 : mHasB ⟨#[102, 99]⟩ 115 = false := rfl
@[go_sem] theorem has_fc_102 : mHasB ⟨#[102, 99]⟩ 102 = true := rfl
@[go_sem] theorem has_fc_110 : mHasB ⟨#[102, 99]⟩ 110 = false := rfl
@[go_sem] theorem has_fc_114 : mHasB ⟨#[102, 99]⟩ 114 = false := rfl
@[go_sem] theorem has_fc_99 : mHasB ⟨#[102, 99]⟩ 99 = true := rfl
@[go_sem] theorem has_fc_112 : mHasB ⟨#[102, 99]⟩ 112 = false := rfl
@[go_sem] theorem has_fc_108 : mHasB ⟨#[102, 99]⟩ 108 = false := rfl
@[go_sem] theorem has_fl_115 : mHasB ⟨#[102, 108]⟩ 115 = false := rfl
@[go_sem] theorem has_fl_102 : mHasB ⟨#[102, 108]⟩ 102 = true := rfl
@[go_sem] theorem has_fl_110 : mHasB ⟨#[102, 108]⟩ 110 = false := rfl
@[go_sem] theorem has_fl_114 : mHasB ⟨#[102, 108]⟩ 114 = false := rfl
@[go_sem] theorem has_fl_99 : mHasB ⟨#[102, 108]⟩ 99 = false := rfl
@[go_sem] theorem has_fl_112 : mHasB ⟨#[102, 108]⟩ 112 = false := rfl
@[go_sem] theorem has_fl_108 : mHasB ⟨#[102, 108]⟩ 108 = true := rfl
def l5H (k : Int) : ByteArray :=
  if k = 1 then ⟨#[115]⟩ else if k = 2 ∨ k = 3 ∨ k = 6 then ⟨#[115, 110, 114]⟩ else if k = 4 then ⟨#[102, 110]⟩ else if k = 5 then ⟨#[102, 110, 112]⟩ else if k = 7 then ⟨#[102, 99]⟩ else if k = 8 then ⟨#[102, 108]⟩ else ⟨#[]⟩
theorem c128_c (k : Int) : CallR Tryz.prog 128 [vI k] (vS (l5H k)) [] := by
  refine use_of dcD3 false Tryz.f128 ?_
  conv => enter [1]; reduce
  refine jvR Tryz.f128 23 [.tmp 2] (by kernel_rfl) (by decide +kernel) rfl ?_
  simp -implicitDefEqProofs only [go_sem]
  repeat' first | (refine guardP_intro (fun h => ?_) (fun h => ?_) <;> try simp -implicitDefEqProofs only [go_sem, h]) | (refine condJ_intro (fun h => ?_) (fun h => ?_) <;> try simp -implicitDefEqProofs only [go_sem, h])
  all_goals simp_all [l5H]
  all_goals (try omega)
  all_goals trace_state
theorem mHasB_drop {s : ByteArray} {i c : Nat} (h : i < s.size) : mHasL (s.data.toList.drop i) c = ((bN s i == c) || mHasL (s.data.toList.drop (i + 1)) c) := by
  have h' : i < s.data.toList.length := by rw [Array.length_toList]; exact h
  rw [List.drop_eq_getElem_cons h']
  unfold mHasL
  rw [List.any_cons]
  congr 2
  have := bN_bL s i 0
  rw [Nat.add_zero] at this
  rw [this]
  unfold bL
  rw [List.drop_eq_getElem_cons h']
  rfl
theorem c130_c (s : ByteArray) (c : Nat) (hs : s.size ≤ 1000000000000) : CallR Tryz.prog 130 [vS s, .sc (.int .u8 (c : Int))] (vB (mHasB s c)) [] := by
  refine use_of dcD3 false Tryz.f130 ?_
  conv => enter [1]; reduce
  refine jvR Tryz.f130 17 [.tmp 4] (by kernel_rfl) (by decide +kernel) rfl ?_
  simp -implicitDefEqProofs only [go_sem]
  refine jv_lp (fun m z => ∃ i, i ≤ s.size ∧ m = s.size - i ∧ mHasL (s.data.toList.drop i) c = mHasB s c ∧ z = ⟨17, [(0, vS s), (1, .sc (.int .u8 (c : Int))), (5, vI i)], [], 1⟩) s.size ?_ ?_
  · simp -implicitDefEqProofs only [go_sem]
    exact ⟨0, Nat.zero_le _, rfl, rfl, rfl⟩
  · rintro m z ⟨i, hi, rfl, hx, rfl⟩
    rcases Nat.lt_or_ge i s.size with hlt | hge
    · have hlt' : (i : Int) < (s.size : Int) := by omega
      have hg := data_get (s := s) (i := i) hlt
      have w4 : IntKind.i64.wrap ((i : Int) + 1) = ((i + 1 : Nat) : Int) := by rw [wrS (by omega)]; omega
      rw [mHasB_drop hlt] at hx
      simp -implicitDefEqProofs only [go_sem, hlt', hg]
      refine condJ_intro (fun h => ?_) (fun h => ?_)
      · have h2 : bN s i = c := by have := of_decide_eq_true h; omega
        simp -implicitDefEqProofs only [go_sem, h]
        rw [← hx, h2]
        simp
      · have h2 : ¬ bN s i = c := fun e => by rw [e] at h; simp at h
        simp -implicitDefEqProofs only [go_sem, h, w4]
        refine ⟨_, by omega, i + 1, hlt, rfl, ?_, rfl⟩
        rw [← hx]
        simp [h2]
    · have hi : i = s.size := by omega
      subst hi
      have hlt' : ¬ ((s.size : Int) < (s.size : Int)) := by omega
      simp -implicitDefEqProofs only [go_sem, hlt']
      rw [← hx]
      rw [List.drop_of_length_le (by rw [Array.length_toList]; exact Nat.le_refl _)]
      rfl
def l5P (k : Int) : ByteArray :=
  if k = 1 then ⟨#[115]⟩ else if k = 2 ∨ k = 3 ∨ k = 6 then ⟨#[115, 122, 114]⟩ else if k = 4 then ⟨#[102, 122]⟩ else if k = 5 then ⟨#[102, 122, 112]⟩ else if k = 7 then ⟨#[102, 99]⟩ else if k = 8 then ⟨#[102, 108]⟩ else ⟨#[]⟩
theorem c109_c (k : Nat) : CallR Tryz.prog 109 [vI k] (vS (l5P k)) [] := by
  refine use_of dcD3 false Tryz.f109 ?_
  conv => enter [1]; reduce
  refine jvR Tryz.f109 10 [.tmp 2] (by kernel_rfl) (by decide +kernel) rfl ?_
  simp -implicitDefEqProofs only [go_sem]
  refine Want.intro (c108_c _ _ _) ?_
  simp -implicitDefEqProofs only [go_sem]
  refine condJ_intro (fun h => ?_) (fun h => ?_)
  · simp -implicitDefEqProofs only [go_sem, h]
    have : ¬ (1 ≤ (k : Int) ∧ (k : Int) ≤ 8) := fun hh => by simp [mIn, hh.1, hh.2] at h
    rw [l5P, if_neg (by omega), if_neg (by omega), if_neg (by omega), if_neg (by omega), if_neg (by omega), if_neg (by omega)]
  · have hk : 1 ≤ k ∧ k ≤ 8 := by
      have : 1 ≤ (k : Int) ∧ (k : Int) ≤ 8 := by simpa [mIn] using h
      omega
    have : k = 1 ∨ k = 2 ∨ k = 3 ∨ k = 4 ∨ k = 5 ∨ k = 6 ∨ k = 7 ∨ k = 8 := by omega
    rcases this with rfl | rfl | rfl | rfl | rfl | rfl | rfl | rfl <;> simp -implicitDefEqProofs only [go_sem, h, (by decide : ((1 : Nat) : Int) < ((9 : Nat) : Int)), (by decide : ((2 : Nat) : Int) < ((9 : Nat) : Int)), (by decide : ((3 : Nat) : Int) < ((9 : Nat) : Int)), (by decide : ((4 : Nat) : Int) < ((9 : Nat) : Int)), (by decide : ((5 : Nat) : Int) < ((9 : Nat) : Int)), (by decide : ((6 : Nat) : Int) < ((9 : Nat) : Int)), (by decide : ((7 : Nat) : Int) < ((9 : Nat) : Int)), (by decide : ((8 : Nat) : Int) < ((9 : Nat) : Int))]
    all_goals rfl
end Go.Proofs.YtjlhdfciklnndaaGreat.E
