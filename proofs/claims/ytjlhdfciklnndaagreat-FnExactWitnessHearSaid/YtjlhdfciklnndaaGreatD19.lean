/-
  Plain law: messages that are written are read, cut short or made longer they are refused; what is read was written.
-/
import Derived.Test.YtjlhdfciklnndaaGreatD18
namespace Go.Proofs.YtjlhdfciklnndaaGreat.E
open Go Go.RowKit
set_option linter.unusedVariables false
set_option linter.unusedSimpArgs false
def sw (x : MRd × MMsg) : MMsg × MRd := (x.2, x.1)
def RdP (p : MRd × MMsg → MRd × MMsg) (w : List UInt8) (u : MMsg → MMsg) : Prop := ∀ m0, RdS (fun r => sw (p (r, m0))) w (u m0)
theorem RdP.seq {p q : MRd × MMsg → MRd × MMsg} {w w' : List UInt8} {u u' : MMsg → MMsg} (h : RdP p w u) (k : RdP q w' u') : RdP (fun x => q (p x)) (w ++ w') (fun m => u' (u m)) := by
  intro m0
  exact RdS.bind (g := fun m r => sw (q (r, m))) (h m0) (k (u m0)) (fun a' T r hs => (k a').2 T r hs)
theorem RdP.of {α : Type} {f : MRd → α × MRd} {w : List UInt8} {a : α} (h : RdS f w a) (u : α → MMsg → MMsg) : RdP (fun x => ((f x.1).2, u (f x.1).1 x.2)) w (u a) := by
  intro m0
  refine ⟨fun T N R r hr => ?_, fun T r hs => h.2 T r hs⟩
  rcases h.1 T N R r hr with ⟨h1, h2⟩ | h1
  · exact .inl ⟨h1, by simp only [sw, h2]⟩
  · exact .inr h1
theorem tn {v : Int} (h : 0 ≤ v) : ((v.toNat : Nat) : Int) = v := Int.toNat_of_nonneg h
theorem rdP_S {v : Int} (h : 1 ≤ v ∧ v ≤ 1000000) : RdP pS (low v.toNat 3) (fun m => { m with session := v }) := by
  have := RdP.of (rdS_num 3 v.toNat 1 1000000 (by omega) (by rw [tn (by omega)]; simp [mIn, h.1, h.2])) (fun v m => { m with session := v })
  rw [tn (by omega)] at this
  exact this
theorem rdP_F {v : Int} (h : 0 ≤ v ∧ v ≤ 256) : RdP pF (low v.toNat 2) (fun m => { m with from_ := v }) := by
  have := RdP.of (rdS_num 2 v.toNat 0 256 (by omega) (by rw [tn (by omega)]; simp [mIn, h.1, h.2])) (fun v m => { m with from_ := v })
  rw [tn (by omega)] at this
  exact this
theorem rdP_Z {v : Int} (h : 0 ≤ v ∧ v ≤ 256) : RdP pZ (low v.toNat 2) (fun m => { m with size := v }) := by
  have := RdP.of (rdS_num 2 v.toNat 0 256 (by omega) (by rw [tn (by omega)]; simp [mIn, h.1, h.2])) (fun v m => { m with size := v })
  rw [tn (by omega)] at this
  exact this
theorem rdP_C {v : Int} (h : 1 ≤ v ∧ v ≤ 8) : RdP pC (low v.toNat 1) (fun m => { m with count := v }) := by
  have := RdP.of (rdS_num 1 v.toNat 1 8 (by omega) (by rw [tn (by omega)]; simp [mIn, h.1, h.2])) (fun v m => { m with count := v })
  rw [tn (by omega)] at this
  exact this
theorem rdP_R {d : MDig} (h : d.ok) : RdP pR d.bl (fun m => { m with root := d }) := RdP.of (rdS_dig d h) (fun v m => { m with root := v })
theorem stay_digs (n : Nat) (T : List UInt8) (r : MRd) (h : Sh T r) : Sh T (mDigs n r).2 := by
  induction n with
  | zero => exact h
  | succ n ih =>
    show Sh T (mRaw (mDigs n r).2 32).2
    rw [raw_bad ih.ne]
    exact ih
theorem stay_leafs (n : Nat) (T : List UInt8) (r : MRd) (h : Sh T r) : Sh T (mLeafs n r).2 := by
  induction n with
  | zero => exact h
  | succ n ih => exact stay_leaf T _ ih
theorem rdP_P {l : List MDig} (h : l.length ≤ 16) (hd : ∀ d ∈ l, d.ok) : RdP pP (low l.length 1 ++ digsL l) (fun m => { m with proof := l }) := by
  have h1 := rdS_num 1 l.length 0 16 (by omega) (by simp [mIn]; omega)
  exact RdP.of (RdS.bind (g := fun v r => mDigs v.toNat r) h1 (rdS_digs _ l rfl hd) (fun a' T r hs => stay_digs _ T r hs)) (fun v m => { m with proof := v })
theorem rdP_L {l : List ByteArray} (h : l.length ≤ 8) (hd : leavesOk l = true) : RdP pL (low l.length 1 ++ leafsL l) (fun m => { m with leaves := l }) := by
  have h1 := rdS_num 1 l.length 0 8 (by omega) (by simp [mIn]; omega)
  exact RdP.of (RdS.bind (g := fun v r => mLeafs v.toNat r) h1 (rdS_leafs _ l rfl hd) (fun a' T r hs => stay_leafs _ T r hs)) (fun v m => { m with leaves := v })
/-- The bytes behind the kind. -/
def wbT (m : MMsg) : List UInt8 := (wbL m).drop 1
theorem wbL_head {m : MMsg} (h : mIn m.kind 1 8 = true) : wbL m = UInt8.ofNat m.kind.toNat :: wbT m ∧ (UInt8.ofNat m.kind.toNat).toNat = m.kind.toNat := by
  have hk : 1 ≤ m.kind ∧ m.kind ≤ 8 := by simpa [mIn] using h
  have e : low m.kind.toNat 1 = [UInt8.ofNat m.kind.toNat] := by
    simp only [low, Nat.pow_zero, Nat.div_one]
    rw [Nat.mod_eq_of_lt (by omega)]
  refine ⟨?_, by simp; omega⟩
  unfold wbT wbL bK
  rw [e]
  repeat' split
  all_goals rfl
theorem dig0_of {d : MDig} (h : eqDig d dig0 = true) : d = dig0 := by
  obtain ⟨a, b, c, e⟩ := d
  simp only [eqDig, dig0, Bool.and_eq_true, Bool.not_eq_true', bne_eq_false_iff_eq] at h
  unfold dig0
  congr 1 <;> omega
theorem parts_read (m : MMsg) (hok : mWireOk m = true) (hr : m.root.ok) (hd : ∀ d ∈ m.proof, d.ok) : RdS (fun r => sw (mParts m.kind.toNat (r, { MMsg.zero with kind := m.kind }))) (wbT m) m := by
  obtain ⟨k, se, fr, si, ro, co, pr, le⟩ := m
  have hk := WOk.of hok
  simp only [mWireOk, Bool.and_eq_true] at hok
  obtain ⟨h0, hs, hf, hz, hR, hc, hp, hl, hlo⟩ := hok
  simp only at h0 hs hf hz hR hc hp hl hlo hr hd
  rcases kinds k with rfl | rfl | rfl | rfl | rfl | rfl | rfl | rfl | ⟨h1, h2, h3, h4, h5, h6, h7, h8⟩
  case inr.inr.inr.inr.inr.inr.inr.inr => simp [mIn] at h0; omega
  all_goals simp only [hlits, mPart, if_true, if_false, Bool.false_eq_true, beq_iff_eq, Bool.false_or, Bool.true_or, mIn, Bool.and_eq_true, decide_eq_true_eq] at hs hf hz hR hc hp hl
  all_goals first | (have hro := dig0_of hR; subst hro) | skip
  all_goals subst_vars
  all_goals first | (have hpr : pr = [] := List.eq_nil_of_length_eq_zero (by omega); subst hpr) | skip
  all_goals first | (have hle : le = [] := List.eq_nil_of_length_eq_zero (by omega); subst hle) | skip
  · exact rdP_S hs _
  · exact ((rdP_S hs).seq ((rdP_Z hz).seq (rdP_R hr))) _
  · exact ((rdP_S hs).seq ((rdP_Z hz).seq (rdP_R hr))) _
  · exact ((rdP_F hf).seq (rdP_Z hz)) _
  · exact ((rdP_F hf).seq ((rdP_Z hz).seq (rdP_P (by omega) hd))) _
  · exact ((rdP_S hs).seq ((rdP_Z hz).seq (rdP_R hr))) _
  · exact ((rdP_F hf).seq (rdP_C hc)) _
  · exact ((rdP_F hf).seq (rdP_L (by omega) hlo)) _
theorem wire_run (m : MMsg) (hok : mWireOk m = true) (hr : m.root.ok) (hd : ∀ d ∈ m.proof, d.ok) (T' X S : List UInt8) (h : wbT m ++ X = T' ++ S) :
    ∃ x, mWireRead (bA (UInt8.ofNat m.kind.toNat :: T')) = mEnd (bA (UInt8.ofNat m.kind.toNat :: T')) x ∧ ((P1 (UInt8.ofNat m.kind.toNat :: T') ((wbL m).length + X.length) X x.1 ∧ x.2 = m) ∨ (Sh (UInt8.ofNat m.kind.toNat :: T') x.1 ∧ T'.length + 1 < (wbL m).length + X.length)) := by
  have hk := WOk.of hok
  obtain ⟨hw, hu⟩ := wbL_head hk.k
  have hk8 : 1 ≤ m.kind ∧ m.kind ≤ 8 := by have := hk.k; simpa [mIn] using this
  have hb : bN (bA (UInt8.ofNat m.kind.toNat :: T')) 0 = m.kind.toNat := by
    rw [bN_bA]
    exact hu
  refine ⟨mParts m.kind.toNat (rd (UInt8.ofNat m.kind.toNat :: T') 1, { MMsg.zero with kind := m.kind }), ?_, ?_⟩
  · unfold mWireRead
    rw [if_neg (by rw [bA_size]; simp), hb, if_pos (by omega), Int.toNat_of_nonneg (by omega)]
    rfl
  · have hP : P1 (UInt8.ofNat m.kind.toNat :: T') ((wbL m).length + X.length) (wbT m ++ X) (rd (UInt8.ofNat m.kind.toNat :: T') 1) := by
      refine ⟨1, S, rfl, by simp, h, ?_⟩
      rw [hw]
      simp only [List.length_append, List.length_cons]
      omega
    rcases (parts_read m hok hr hd).1 _ _ X _ hP with h1 | h1
    · exact .inl h1
    · refine .inr ⟨h1.1, ?_⟩
      have := h1.2
      simpa using this
theorem wire_read {m : MMsg} (hok : mWireOk m = true) (hr : m.root.ok) (hd : ∀ d ∈ m.proof, d.ok) : mWireRead (bA (wbL m)) = (m, 0, 0) := by
  obtain ⟨hw, hu⟩ := wbL_head (WOk.of hok).k
  obtain ⟨⟨r, m'⟩, h1, h2⟩ := wire_run m hok hr hd (wbT m) [] [] rfl
  rw [← hw] at h1 h2
  rw [h1]
  have hl : (wbL m).length = (wbT m).length + 1 := by rw [hw]; rfl
  rcases h2 with ⟨⟨p, S, rfl, hp, hR, hN⟩, hm⟩ | ⟨_, h2⟩
  · obtain rfl : m' = m := hm
    have hpe : p = (wbL m').length := by simpa using hN
    unfold mEnd rd
    rw [if_pos rfl, if_neg (by rw [bA_size]; simp only; omega)]
  · simp at h2
    omega
theorem wire_more {m : MMsg} (hok : mWireOk m = true) (hr : m.root.ok) (hd : ∀ d ∈ m.proof, d.ok) (c : UInt8) : mWireRead (bA (wbL m ++ [c])) = (.zero, 4, ((wbL m).length : Int)) := by
  obtain ⟨hw, hu⟩ := wbL_head (WOk.of hok).k
  obtain ⟨⟨r, m'⟩, h1, h2⟩ := wire_run m hok hr hd (wbT m ++ [c]) [c] [] (by simp)
  have e : UInt8.ofNat m.kind.toNat :: (wbT m ++ [c]) = wbL m ++ [c] := by rw [hw]; rfl
  rw [e] at h1 h2
  rw [h1]
  have hl : (wbL m).length = (wbT m).length + 1 := by rw [hw]; rfl
  rcases h2 with ⟨⟨p, S, rfl, hp, hR, hN⟩, hm⟩ | ⟨_, h2⟩
  · obtain rfl : m' = m := hm
    have hpe : p = (wbL m').length := by simpa using hN
    unfold mEnd rd
    rw [if_pos rfl, if_pos (by rw [bA_size]; simp; omega)]
    simp only [hpe]
  · simp at h2
    omega
theorem wire_cut {m : MMsg} (hok : mWireOk m = true) (hr : m.root.ok) (hd : ∀ d ∈ m.proof, d.ok) {k : Nat} (hk : k < (wbL m).length) : mWireRead (bA ((wbL m).take k)) = (.zero, 2, (k : Int)) := by
  obtain ⟨hw, hu⟩ := wbL_head (WOk.of hok).k
  cases k with
  | zero => rfl
  | succ k =>
    obtain ⟨⟨r, m'⟩, h1, h2⟩ := wire_run m hok hr hd ((wbT m).take k) [] ((wbT m).drop k) (by simp)
    have e : UInt8.ofNat m.kind.toNat :: (wbT m).take k = (wbL m).take (k + 1) := by rw [hw]; rfl
    have hl : ((wbL m).take (k + 1)).length = k + 1 := by simp; omega
    rw [e] at h1 h2
    rw [h1]
    rcases h2 with ⟨⟨p, S, rfl, hp, hR, hN⟩, hm⟩ | ⟨⟨h2, h3⟩, _⟩
    · have hpe : p = (wbL m).length := by simpa using hN
      omega
    · simp only at h2 h3
      unfold mEnd
      simp only
      rw [if_neg (by rw [h2]; decide), h2, h3, hl]
end Go.Proofs.YtjlhdfciklnndaaGreat.E
