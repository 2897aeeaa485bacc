/-
  A monitor fetches what it lacks: the plain law.
-/
import Derived.Test.YtkhemolkhegppaaGreatJ5
namespace Go.Proofs.YtkhemolkhegppaaGreat.E
open Go Go.RowKit
set_option linter.unusedVariables false
set_option linter.unusedSimpArgs false
def fM (p : MPt) (x : List ByteArray) : MMon := ⟨⟨1, 1, 0, 0, .zero, [], p⟩, x, .zero⟩
def mRng (a : Int) (x : List ByteArray) : MMsg := ⟨8, 0, a, 0, dig0, 0, [], x⟩
theorem fM_ok {p : MPt} {x : List ByteArray} (hp : 1 ≤ p.size ∧ p.size ≤ 256) (hx : mLeavesOk x = true) (hl : (x.length : Int) < p.size) : mMonOk (fM p x) = true := by
  have hc : mClOk (fM p x).cl = true := by
    refine clOk_mk0 ⟨⟨(by decide : (1 : Int) ≤ 1), (by decide : (1 : Int) ≤ 7)⟩, ⟨(by decide : (1 : Int) ≤ 1), (by decide : (1 : Int) ≤ 1)⟩, (by decide : (1 : Int) < 2 * 1), ⟨(by decide : (0 : Int) ≤ 0), (by decide : (0 : Int) ≤ 1000000)⟩, ?_, by show 0 ≤ p.size ∧ p.size ≤ 256; omega⟩ rfl rfl rfl
    show mPin p = true
    unfold mPin
    rw [mIn_iff.2 (by omega), Bool.true_or]
  have h3 : decide (((fM p x).leaves.length : Int) ≤ (fM p x).cl.pin.size) = true := by
    rw [decide_eq_true_eq]; show (x.length : Int) ≤ p.size; omega
  have h4 : eqPt (fM p x).done .zero = true := rfl
  have h5 : decide (((fM p x).leaves.length : Int) < (fM p x).cl.pin.size) = true := by
    rw [decide_eq_true_eq]; exact hl
  have h2 : mLeavesOk (fM p x).leaves = true := hx
  unfold mMonOk
  rw [hc, h2, h3, h4, h5]
  rfl
theorem fM_tick {p : MPt} {x : List ByteArray} (hp : 1 ≤ p.size ∧ p.size ≤ 256) (hx : mLeavesOk x = true) (hl : (x.length : Int) < p.size) : mMTick (fM p x) 3 = ⟨fM p x, [⟨3, 0, mWireBytes (mFetch x.length (min (p.size - x.length) 8))⟩], [], [], []⟩ := by
  unfold mMTick
  have h5 : ((fM p x).leaves.length : Int) < (fM p x).cl.pin.size := hl
  rw [fM_ok hp hx hl, show mIn 3 1 20 = true from rfl, Bool.and_self, if_pos rfl, if_pos h5]
  rfl
theorem fetch_ok {a c : Int} (ha : 0 ≤ a ∧ a ≤ 256) (hc : 1 ≤ c ∧ c ≤ 8) : mWireOk (mFetch a c) = true := by
  have h1 : mIn a 0 256 = true := mIn_iff.2 ha
  have h2 : mIn c 1 8 = true := mIn_iff.2 hc
  have e1 : hS 7 = false := rfl
  have e2 : hF 7 = true := rfl
  have e3 : hZ 7 = false := rfl
  have e4 : hR 7 = false := rfl
  have e5 : hC 7 = true := rfl
  have e6 : hP 7 = false := rfl
  have e7 : hL 7 = false := rfl
  have h0 : mIn 7 1 8 = true := rfl
  have hd : eqDig dig0 dig0 = true := rfl
  simp [mWireOk, mFetch, mPart, e1, e2, e3, e4, e5, e6, e7, h0, h1, h2, hd, leavesOk]
theorem range_ok {a : Int} {x : List ByteArray} (ha : 0 ≤ a ∧ a ≤ 256) (hx : leavesOk x = true) (hl : x.length ≤ 8) : mWireOk (mRng a x) = true := by
  have h1 : mIn a 0 256 = true := mIn_iff.2 ha
  have h2 : mIn (x.length : Int) 0 8 = true := mIn_iff.2 (by omega)
  have e1 : hS 8 = false := rfl
  have e2 : hF 8 = true := rfl
  have e3 : hZ 8 = false := rfl
  have e4 : hR 8 = false := rfl
  have e5 : hC 8 = false := rfl
  have e6 : hP 8 = false := rfl
  have e7 : hL 8 = true := rfl
  have h0 : mIn 8 1 8 = true := rfl
  have hd : eqDig dig0 dig0 = true := rfl
  simp [mWireOk, mRng, mPart, e1, e2, e3, e4, e5, e6, e7, h0, h1, h2, hd, hx]
theorem wb_read {m : MMsg} (h : mWireOk m = true) (hr : m.root.ok) (hd : ∀ d ∈ m.proof, d.ok) : mWireRead (mWireBytes m) = (m, 0, 0) := by
  unfold mWireBytes
  rw [if_pos h]
  exact wire_read h hr hd
theorem range_sz {a : Int} {x : List ByteArray} (hx : leavesOk x = true) (hl : x.length ≤ 8) : (mWireBytes (mRng a x)).size ≤ 600 := by
  unfold mWireBytes
  split
  · rw [bA_size]
    have := leafsL_len x hx
    simp [wbL, mRng, bK, bF, bL_, low_len]
    omega
  · exact Nat.zero_le _
theorem fetch_sz {a c : Int} : (mWireBytes (mFetch a c)).size ≤ 600 := by
  unfold mWireBytes
  split
  · rw [bA_size]
    simp [wbL, mFetch, bK, bF, bC, low_len]
  · exact Nat.zero_le _
theorem take_drop {l : List ByteArray} {j c : Nat} : l.take j ++ (l.drop j).take c = l.take (j + c) := by
  rw [List.take_add]
/-- What is heard of the leaves that were asked for. -/
theorem fM_hear {p : MPt} {l : List ByteArray} {n j c : Nat} (hl : mLeavesOk l = true) (hn : n ≤ l.length) (hp : p = ⟨n, (mRoot (l.take n)).dig⟩) (hc : 1 ≤ c ∧ c ≤ 8) (hj : j + c ≤ n) :
    mMHear (fM p (l.take j)) 3 ⟨0, 0, mWireBytes (mRng j ((l.drop j).take c))⟩ = if j + c < n then ⟨fM p (l.take (j + c)), [], [], [], []⟩ else ⟨⟨⟨1, 1, 0, 0, .zero, [], p⟩, l.take n, p⟩, [], [], [], [p]⟩ := by
  obtain ⟨hl1, hl2⟩ := mLeavesOk_of hl
  have hxl : ((l.drop j).take c).length = c := by rw [List.length_take, List.length_drop]; omega
  have hxo : leavesOk ((l.drop j).take c) = true := by
    simp only [leavesOk, List.all_eq_true, decide_eq_true_eq]
    exact fun b hb => hl2 b (List.mem_of_mem_drop (List.mem_of_mem_take hb))
  have hjl : (l.take j).length = j := by rw [List.length_take]; omega
  have hps : p.size = n := by rw [hp]
  have hok := fM_ok (p := p) (x := l.take j) (by omega) (mLeavesOk_take hl j) (by omega)
  have hsz := range_sz (a := j) hxo (by omega)
  have hrd := wb_read (range_ok (a := j) (x := (l.drop j).take c) (by omega) hxo (by omega)) dig0_ok (fun d hd => by cases hd)
  have hlo : mLetOk ⟨0, 0, mWireBytes (mRng j ((l.drop j).take c))⟩ = true := by
    simp only [mLetOk, Bool.and_eq_true, decide_eq_true_eq]
    exact ⟨rfl, rfl, by omega⟩
  unfold mMHear
  rw [hok, hlo, show mIn 3 1 20 = true from rfl, Bool.and_self, Bool.and_self, if_pos rfl]
  simp only [hrd]
  rw [show ((0 : Int) == 0 && ((mRng j ((l.drop j).take c)).kind == 8 && ((0 : Int) == 0))) = true from rfl, if_pos rfl]
  have hall : rAll (fM p (l.take j)) (mRng j ((l.drop j).take c)).leaves = l.take (j + c) := by
    unfold rAll
    have e : ((fM p (l.take j)).cl.pin.size - (fM p (l.take j)).leaves.length).toNat = n - j := by
      show (p.size - ((l.take j).length : Int)).toNat = n - j
      rw [hjl, hps]; omega
    rw [e]
    show l.take j ++ ((l.drop j).take c).take (n - j) = _
    rw [List.take_of_length_le (l := (l.drop j).take c) (by omega), take_drop]
  have hal : (l.take (j + c)).length = j + c := by rw [List.length_take]; omega
  have hne : ¬ ((mRng j ((l.drop j).take c)).from_ ≠ (fM p (l.take j)).leaves.length ∨ (fM p (l.take j)).cl.pin.size ≤ (fM p (l.take j)).leaves.length ∨ (mRng j ((l.drop j).take c)).leaves = []) := by
    rintro (h | h | h)
    · exact h (by show (j : Int) = ((l.take j).length : Int); rw [hjl])
    · have h' : p.size ≤ ((l.take j).length : Int) := h
      omega
    · have h' : (l.drop j).take c = [] := h
      rw [h'] at hxl
      simp at hxl
      omega
  unfold mRange
  rw [if_neg hne, hall, hal]
  have hpin : (fM p (l.take j)).cl.pin = p := rfl
  by_cases d : j + c < n
  · have d' : ((j + c : Nat) : Int) < (fM p (l.take j)).cl.pin.size := by rw [hpin, hps]; omega
    rw [if_pos d', if_pos d]
    rfl
  · have d' : ¬ ((j + c : Nat) : Int) < (fM p (l.take j)).cl.pin.size := by rw [hpin, hps]; omega
    have e : j + c = n := by omega
    have hd : eqDg (mRoot (l.take n)).dig p.root = true := by
      rw [hp]; simp [eqDg]
    rw [if_neg d', if_neg d, e, hpin, hd, if_pos rfl]
    rfl
def roR (a : Int) (x : List ByteArray) : AV := .agg [.sc (.int .i64 8), .sc (.int .i64 0), vI a, .sc (.int .i64 0), .sc (.int .u64 0), .sc (.int .u64 0), .sc (.int .u64 0), .sc (.int .u64 0), .sc (.int .i64 0), .nilS, .ro 1 (x.map leafCs)]
attribute [go_sem] roR
theorem wbR (a : Int) (x : List ByteArray) (hl : x.length ≤ maxLen) : CallR Tryz.prog 40 [roR a x] (vS (mWireBytes (mRng a x))) [] := by
  refine (c40_c (mRng a x) (Nat.zero_le _) hl dig0_ok (fun d hd => by cases hd)).arg (fun rd vs h => pw_wkA ?_ h)
  exact .cons (.inl rfl) (.cons (.inl rfl) (.cons (.inl rfl) (.cons (.inl rfl) (.cons (.inl rfl) (.cons (.inl rfl) (.cons (.inl rfl) (.cons (.inl rfl) (.cons (.inl rfl) (.cons (.inr ⟨rfl, _, rfl⟩) (.cons (.inl rfl) .nil))))))))))
end Go.Proofs.YtkhemolkhegppaaGreat.E
