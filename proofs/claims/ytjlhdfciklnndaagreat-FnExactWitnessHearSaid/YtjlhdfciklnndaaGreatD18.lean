/-
  Plain law: what is written is what is read.
-/
import Derived.Test.YtjlhdfciklnndaaGreatDP
namespace Go.Proofs.YtjlhdfciklnndaaGreat.E
open Go Go.RowKit
set_option linter.unusedVariables false
set_option linter.unusedSimpArgs false
theorem wbL_len {m : MMsg} (h : WOk m) : 1 ≤ (wbL m).length ∧ (wbL m).length ≤ 600 := by
  have h1 := digsL_len m.proof
  have h2 := leafsL_len m.leaves h.lo
  have h3 := h.p
  have h4 := h.l
  unfold wbL
  repeat' split
  all_goals simp only [bK, bS, bF, bZ, bC, bP, bL_, low_len, bl_len, List.length_append]
  all_goals omega
def nv (l : List UInt8) : Nat := l.foldl (fun a b => a * 256 + b.toNat) 0
theorem nv_snoc (l : List UInt8) (b : UInt8) : nv (l ++ [b]) = nv l * 256 + b.toNat := by simp [nv]
theorem nv_low : ∀ (n v : Nat), v < 256 ^ n → nv (low v n) = v
  | 0, v, h => by
    have : v = 0 := by simpa using h
    subst this
    rfl
  | n + 1, v, h => by
    rw [low_snoc, nv_snoc, nv_low n (v / 256) (by rw [Nat.pow_succ] at h; exact Nat.div_lt_of_lt_mul (by rw [Nat.mul_comm]; exact h))]
    have : (UInt8.ofNat (v % 256)).toNat = v % 256 := by simp
    rw [this]
    omega
theorem low_nv : ∀ (n : Nat) (l : List UInt8), l.length = n → low (nv l) n = l
  | 0, l, h => by
    have := List.eq_nil_of_length_eq_zero h
    subst this
    rfl
  | n + 1, l, h => by
    have hne : l ≠ [] := by intro e; subst e; simp at h
    obtain ⟨l', b, rfl⟩ : ∃ l' b, l = l' ++ [b] := ⟨l.dropLast, l.getLast hne, (List.dropLast_concat_getLast hne).symm⟩
    have h' : l'.length = n := by simpa using h
    have hb : b.toNat < 256 := b.toNat_lt
    rw [low_snoc, nv_snoc, show (nv l' * 256 + b.toNat) / 256 = nv l' by omega, show (nv l' * 256 + b.toNat) % 256 = b.toNat by omega, low_nv n l' h']
    simp
theorem nv_lt (l : List UInt8) : nv l < 256 ^ l.length := by
  suffices ∀ n (l : List UInt8), l.length = n → nv l < 256 ^ n from this _ l rfl
  intro n
  induction n with
  | zero => intro l h; have := List.eq_nil_of_length_eq_zero h; subst this; simp [nv]
  | succ n ih =>
    intro l h
    have hne : l ≠ [] := by intro e; subst e; simp at h
    obtain ⟨l', b, rfl⟩ : ∃ l' b, l = l' ++ [b] := ⟨l.dropLast, l.getLast hne, (List.dropLast_concat_getLast hne).symm⟩
    have := ih l' (by simpa using h)
    have hb : b.toNat < 256 := b.toNat_lt
    rw [nv_snoc, Nat.pow_succ]
    omega
theorem bN_bA (l : List UInt8) (i : Nat) : bN (bA l) i = bL l i := by
  have := bN_bL (bA l) 0 i
  rw [Nat.zero_add, List.drop_zero, bA_list] at this
  exact this
theorem numN_nv (l : List UInt8) (k : Nat) (h : k ≤ l.length) : numN (bA l) k = nv (l.take k) := by
  induction k with
  | zero => rfl
  | succ k ih =>
    rw [numN, ih (by omega), List.take_succ_eq_append_getElem (show k < l.length by omega), nv_snoc, bN_bA]
    have : bL l k = l[k].toNat := by simp [bL, show k < l.length by omega]
    rw [this, Nat.mul_comm]
theorem bA_extract (l : List UInt8) (a b : Nat) : (bA l).extract a b = bA ((l.drop a).take (b - a)) := bA_ext (by rw [bA_list, ByteArray.data_extract]; simp [bA])
def rd (T : List UInt8) (p : Nat) : MRd := ⟨bA T, p, 0, 0⟩
theorem raw_rd (T : List UInt8) (p n : Nat) : mRaw (rd T p) n = if p + n > T.length then (⟨#[]⟩, ⟨bA T, p, 2, (T.length : Int)⟩) else (bA ((T.drop p).take n), rd T (p + n)) := by
  unfold mRaw rd
  rw [if_pos rfl]
  simp only [bA_size]
  split
  · rfl
  · rw [bA_extract, show p + n - p = n by omega]
theorem raw_bad {r : MRd} (h : r.code ≠ 0) (n : Nat) : mRaw r n = (⟨#[]⟩, r) := by unfold mRaw; rw [if_neg h]
theorem num_rd {T : List UInt8} {p n : Nat} {lo hi : Int} (h : p + n ≤ T.length) : mNum (rd T p) n lo hi = if mIn (nv ((T.drop p).take n)) lo hi then ((nv ((T.drop p).take n) : Int), rd T (p + n)) else (0, ⟨bA T, p + n, 3, (p : Int)⟩) := by
  have hl : ((T.drop p).take n).length = n := by simp; omega
  have hn := numN_nv ((T.drop p).take n) n (by omega)
  rw [List.take_of_length_le (show ((T.drop p).take n).length ≤ n by omega)] at hn
  unfold mNum
  rw [raw_rd, if_neg (show ¬ p + n > T.length by omega)]
  simp only [bA_size, hl, hn]
  rw [if_pos (show (rd T (p + n)).code = 0 from rfl)]
  rfl
theorem num_bad {r : MRd} (h : r.code ≠ 0) (n : Nat) (lo hi : Int) : mNum r n lo hi = (0, r) := by
  unfold mNum
  rw [raw_bad h]
  exact if_neg h
theorem num_sh {T : List UInt8} {p n : Nat} {lo hi : Int} (h : p + n > T.length) : mNum (rd T p) n lo hi = (0, ⟨bA T, p, 2, (T.length : Int)⟩) := by
  unfold mNum
  rw [raw_rd, if_pos h]
  exact if_neg (show ¬ (2 : Int) = 0 by decide)
/-! Reading what was written -/
def Sh (T : List UInt8) (r : MRd) : Prop := r.code = 2 ∧ r.at_ = T.length
def P1 (T : List UInt8) (N : Nat) (R : List UInt8) (r : MRd) : Prop := ∃ p S, r = rd T p ∧ p ≤ T.length ∧ R = T.drop p ++ S ∧ p + R.length = N
theorem split_at {T w R S : List UInt8} {p : Nat} (h : w ++ R = T.drop p ++ S) (hle : p + w.length ≤ T.length) : (T.drop p).take w.length = w ∧ R = T.drop (p + w.length) ++ S := by
  have hl : w.length ≤ (T.drop p).length := by simp; omega
  have h1 := congrArg (List.take w.length) h
  have h2 := congrArg (List.drop w.length) h
  rw [List.take_left, List.take_append_of_le_length hl] at h1
  rw [List.drop_left, List.drop_append_of_le_length hl, List.drop_drop] at h2
  exact ⟨h1.symm, h2⟩
def RdS {α : Type} (f : MRd → α × MRd) (w : List UInt8) (a : α) : Prop :=
  (∀ T N R r, P1 T N (w ++ R) r → (P1 T N R (f r).2 ∧ (f r).1 = a) ∨ (Sh T (f r).2 ∧ T.length < N)) ∧ ∀ T r, Sh T r → Sh T (f r).2
theorem Sh.ne {T : List UInt8} {r : MRd} (h : Sh T r) : r.code ≠ 0 := by rw [h.1]; decide
theorem rdS_raw (w : List UInt8) (n : Nat) (hn : n = w.length) : RdS (fun r => mRaw r n) w (bA w) := by
  subst hn
  refine ⟨?_, fun T r h => by simp only [raw_bad h.ne]; exact h⟩
  rintro T N R r ⟨p, S, rfl, hp, hR, hN⟩
  simp only [raw_rd]
  rw [List.length_append] at hN
  split
  · exact .inr ⟨⟨rfl, rfl⟩, by omega⟩
  · obtain ⟨h1, h2⟩ := split_at hR (by omega)
    exact .inl ⟨⟨p + w.length, S, rfl, by omega, h2, by omega⟩, by simp only [h1]⟩
theorem rdS_num (n v : Nat) (lo hi : Int) (hv : v < 256 ^ n) (hin : mIn v lo hi = true) : RdS (fun r => mNum r n lo hi) (low v n) (v : Int) := by
  refine ⟨?_, fun T r h => by simp only [num_bad h.ne]; exact h⟩
  rintro T N R r ⟨p, S, rfl, hp, hR, hN⟩
  rw [List.length_append, low_len] at hN
  rcases Nat.lt_or_ge T.length (p + n) with hlt | hge
  · simp only [num_sh (show p + n > T.length from hlt)]
    exact .inr ⟨⟨rfl, rfl⟩, by omega⟩
  · obtain ⟨h1, h2⟩ := split_at hR (by rw [low_len]; omega)
    rw [low_len] at h1 h2
    simp only [num_rd hge, h1, nv_low n v hv, hin, if_true]
    exact .inl ⟨⟨p + n, S, rfl, by omega, h2, by omega⟩, trivial⟩
theorem RdS.bind {α β : Type} {f : MRd → α × MRd} {g : α → MRd → β × MRd} {w w' : List UInt8} {a : α} {b : β} (hf : RdS f w a) (hg : RdS (g a) w' b) (hst : ∀ a' T r, Sh T r → Sh T (g a' r).2) : RdS (fun r => g (f r).1 (f r).2) (w ++ w') b := by
  refine ⟨fun T N R r h => ?_, fun T r h => hst _ _ _ (hf.2 T r h)⟩
  rw [List.append_assoc] at h
  rcases hf.1 T N _ r h with ⟨h1, h2⟩ | ⟨h1, h2⟩
  · simp only [h2]
    exact hg.1 T N R _ h1
  · exact .inr ⟨hst _ _ _ h1, h2⟩
theorem wordL_low : ∀ (k : Nat) (l : List UInt8), k ≤ l.length → wordL l k = nv (l.take k)
  | 0, l, h => rfl
  | k + 1, l, h => by
    rw [wordL, wordL_low k l (by omega), List.take_succ_eq_append_getElem (show k < l.length by omega), nv_snoc]
    have : bL l k = l[k].toNat := by simp [bL, show k < l.length by omega]
    rw [this]
theorem digL_bl (d : MDig) (h : d.ok) : digL d.bl = d := by
  have e : d.bl = low d.a 8 ++ (low d.b 8 ++ (low d.c 8 ++ low d.d 8)) := by simp [MDig.bl, MDig.bk]
  have l8 := low8
  obtain ⟨a, b, c, dd⟩ := d
  obtain ⟨ha, hb, hc, hd⟩ := h
  simp only at *
  unfold digL
  rw [e]
  rw [wordL_low 8 _ (by simp [l8]), wordL_low 8 _ (by simp [l8]), wordL_low 8 _ (by simp [l8]), wordL_low 8 _ (by simp [l8])]
  have d8 : ∀ (x : Nat) (l : List UInt8), (low x 8 ++ l).drop 8 = l := fun x l => List.drop_left' (l8 x)
  have t8 : ∀ (x : Nat) (l : List UInt8), (low x 8 ++ l).take 8 = low x 8 := fun x l => List.take_left' (l8 x)
  have d16 : ∀ (l : List UInt8), l.drop 16 = (l.drop 8).drop 8 := fun l => by rw [List.drop_drop]
  have d24 : ∀ (l : List UInt8), l.drop 24 = ((l.drop 8).drop 8).drop 8 := fun l => by rw [List.drop_drop, List.drop_drop]
  rw [d16, d24, d8, d8, d8, t8, t8, t8, List.take_of_length_le (by rw [l8]; omega)]
  have p8 : (256 : Nat) ^ 8 = 18446744073709551616 := by decide
  rw [nv_low 8 a (by omega), nv_low 8 b (by omega), nv_low 8 c (by omega), nv_low 8 dd (by omega)]
theorem rdS_dig (d : MDig) (h : d.ok) : RdS mDigR d.bl d := by
  have := rdS_raw d.bl 32 (bl_len d).symm
  refine ⟨fun T N R r hr => ?_, fun T r hs => this.2 T r hs⟩
  rcases this.1 T N R r hr with ⟨h1, h2⟩ | h1
  · refine .inl ⟨h1, ?_⟩
    simp only at h2
    unfold mDigR
    rw [h2]
    unfold mHashBack
    rw [bA_size, bl_len, if_pos rfl, bA_list]
    exact digL_bl d h
  · exact .inr h1
theorem stay_leaf (T : List UInt8) (r : MRd) (h : Sh T r) : Sh T (mLeaf r).2 := by
  unfold mLeaf
  rw [num_bad h.ne]
  simp only [raw_bad h.ne]
  exact h
theorem rdS_leaf (s : ByteArray) (h : s.size ≤ 40) : RdS mLeaf (leafB s) s := by
  have h1 := rdS_num 1 s.size 0 40 (by omega) (by simp [mIn]; omega)
  have h2 := rdS_raw s.data.toList ((s.size : Int).toNat) (by rw [Array.length_toList]; rfl)
  have := RdS.bind (g := fun v r => mRaw r v.toNat) h1 h2 (fun a' T r h => by simp only [raw_bad h.ne]; exact h)
  rw [← bA_of s] at this
  exact this
theorem rdS_digs : ∀ (n : Nat) (l : List MDig), l.length = n → (∀ d ∈ l, d.ok) → RdS (mDigs n) (digsL l) l
  | 0, l, h, _ => by
    have := List.eq_nil_of_length_eq_zero h
    subst this
    exact ⟨fun T N R r hr => .inl ⟨hr, rfl⟩, fun T r hs => hs⟩
  | n + 1, l, h, hd => by
    have hne : l ≠ [] := by intro e; subst e; simp at h
    obtain ⟨l', d, rfl⟩ : ∃ l' b, l = l' ++ [b] := ⟨l.dropLast, l.getLast hne, (List.dropLast_concat_getLast hne).symm⟩
    have ih := rdS_digs n l' (by simpa using h) (fun x hx => hd x (by simp [hx]))
    have h1 := rdS_dig d (hd d (by simp))
    have := RdS.bind (g := fun (v : List MDig) r => (v ++ [(mDigR r).1], (mDigR r).2)) (b := l' ++ [d]) ih (w' := d.bl) ⟨fun T N R r hr => by
      rcases h1.1 T N R r hr with ⟨k1, k2⟩ | k
      · exact .inl ⟨k1, by simp only [k2]⟩
      · exact .inr k, fun T r hs => h1.2 T r hs⟩ (fun a' T r hs => h1.2 T r hs)
    have e : digsL (l' ++ [d]) = digsL l' ++ d.bl := by simp [digsL]
    rw [e]
    exact this
theorem rdS_leafs : ∀ (n : Nat) (l : List ByteArray), l.length = n → leavesOk l = true → RdS (mLeafs n) (leafsL l) l
  | 0, l, h, _ => by
    have := List.eq_nil_of_length_eq_zero h
    subst this
    exact ⟨fun T N R r hr => .inl ⟨hr, rfl⟩, fun T r hs => hs⟩
  | n + 1, l, h, hd => by
    have hne : l ≠ [] := by intro e; subst e; simp at h
    obtain ⟨l', d, rfl⟩ : ∃ l' b, l = l' ++ [b] := ⟨l.dropLast, l.getLast hne, (List.dropLast_concat_getLast hne).symm⟩
    simp only [leavesOk, List.all_append, List.all_cons, List.all_nil, Bool.and_true, Bool.and_eq_true, decide_eq_true_eq] at hd
    have ih := rdS_leafs n l' (by simpa using h) hd.1
    have h1 := rdS_leaf d hd.2
    have := RdS.bind (g := fun (v : List ByteArray) r => (v ++ [(mLeaf r).1], (mLeaf r).2)) (b := l' ++ [d]) ih (w' := leafB d) ⟨fun T N R r hr => by
      rcases h1.1 T N R r hr with ⟨k1, k2⟩ | k
      · exact .inl ⟨k1, by simp only [k2]⟩
      · exact .inr k, fun T r hs => h1.2 T r hs⟩ (fun a' T r hs => h1.2 T r hs)
    have e : leafsL (l' ++ [d]) = leafsL l' ++ leafB d := by simp [leafsL]
    rw [e]
    exact this
end Go.Proofs.YtjlhdfciklnndaaGreat.E
