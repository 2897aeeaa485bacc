/-
  Contracts: messages without lists, in bytes; letters.
-/
import Derived.Test.YtjlhdfciklnndaaGreatF1
namespace Go.Proofs.YtjlhdfciklnndaaGreat.E
open Go Go.RowKit
set_option maxHeartbeats 4000000
set_option maxRecDepth 10000
set_option linter.unusedSimpArgs false
set_option linter.unusedVariables false
set_option linter.unusedSectionVars false
def dcF3 : Dec := ⟨[], [9, 10, 11], [27, 30, 44, 45, 46, 58, 68, 78, 79, 86, 101, 112, 113, 132, 174, 196, 247, 249, 351, 356], false⟩

theorem CallR.arg {P : Program} {n : Nat} {args args' : List AV} {res : AV} {rf : List (List Nat × Row)} (h : CallR P n args res rf) (hw : ∀ (rd : RD) (vs : List Value), PW rd (fun _ _ _ => none) args' vs → PW rd (fun _ _ _ => none) args vs) : CallR P n args' res rf :=
  ⟨h.1, fun w rd cargs h1 h2 => h.2 w rd cargs h1 (hw _ _ h2)⟩
/-- A nil slice stands for an empty row. -/
def Wk (c c' : AV) : Prop := c = c' ∨ (c' = .nilS ∧ ∃ sz, c = .ro sz [])
theorem VRel.wk {rd : RD} {φ : Phi} {c c' : AV} {v : Value} (h : Wk c c') (hv : VRel rd φ c' v) : VRel rd φ c v := by
  rcases h with rfl | ⟨rfl, sz, rfl⟩
  · exact hv
  · cases hv
    exact .ro0 _ _ _
inductive WkL : List AV → List AV → Prop
  | nil : WkL [] []
  | cons {c c' : AV} {l l' : List AV} (h : Wk c c') (t : WkL l l') : WkL (c :: l) (c' :: l')
theorem WkL.len {l l' : List AV} (h : WkL l l') : l.length = l'.length := by
  induction h with
  | nil => rfl
  | cons _ _ ih => simp [ih]
theorem WkL.get {l l' : List AV} (h : WkL l l') : ∀ (j : Nat) (c : AV), l[j]? = some c → ∃ c', l'[j]? = some c' ∧ Wk c c' := by
  induction h with
  | nil => intro j c hc; simp at hc
  | cons h t ih =>
    intro j c hc
    cases j with
    | zero => simp at hc; subst hc; exact ⟨_, rfl, h⟩
    | succ j => simpa using ih j c (by simpa using hc)
theorem WkL.refl : ∀ l : List AV, WkL l l
  | [] => .nil
  | c :: l => .cons (.inl rfl) (WkL.refl l)
theorem VRel.wkA {rd : RD} {φ : Phi} {cs cs' : List AV} {v : Value} (h : WkL cs cs') (hv : VRel rd φ (.agg cs') v) : VRel rd φ (.agg cs) v := by
  cases hv with
  | agg _ arr f hs hg hv =>
    refine .agg cs arr f (by rw [hs, h.len]) (fun j c hc => ?_) (fun j c hc => ?_)
    · obtain ⟨c', h1, h2⟩ := h.get j c hc
      exact hg j c' h1
    · obtain ⟨c', h1, h2⟩ := h.get j c hc
      exact (hv j c' h1).wk h2
theorem pw_wkA {rd : RD} {φ : Phi} {cs cs' : List AV} {vs : List Value} (h : WkL cs cs') (hp : PW rd φ [.agg cs'] vs) : PW rd φ [.agg cs] vs := by
  obtain ⟨v, us, rfl, hr, hp⟩ := hp.uncons
  have : us = [] := List.eq_nil_of_length_eq_zero hp.1.symm
  subst this
  exact PW.cons (hr.wkA h) PW.nil
/-- A message without lists. -/
def MMsg.roN (m : MMsg) : AV := .agg [vI m.kind, vI m.session, vI m.from_, vI m.size, vU m.root.a, vU m.root.b, vU m.root.c, vU m.root.d, vI m.count, .nilS, .nilS]
attribute [go_sem] MMsg.roN
theorem roN_wk {m : MMsg} (hp : m.proof = []) (hl : m.leaves = []) : ∀ (rd : RD) (vs : List Value), PW rd (fun _ _ _ => none) [m.roN] vs → PW rd (fun _ _ _ => none) [m.ro] vs := by
  intro rd vs h
  refine pw_wkA ?_ h
  rw [hp, hl]
  exact .cons (.inl rfl) (.cons (.inl rfl) (.cons (.inl rfl) (.cons (.inl rfl) (.cons (.inl rfl) (.cons (.inl rfl) (.cons (.inl rfl) (.cons (.inl rfl) (.cons (.inl rfl) (.cons (.inr ⟨rfl, _, rfl⟩) (.cons (.inr ⟨rfl, _, rfl⟩) .nil))))))))))
theorem wbS (m : MMsg) (hp : m.proof = []) (hl : m.leaves = []) (hr : m.root.ok) : CallR Tryz.prog 44 [m.roN] (vS (mWireBytes m)) [] :=
  (c44_c m (by rw [hp]; exact Nat.zero_le _) (by rw [hl]; exact Nat.zero_le _) hr (by rw [hp]; simp)).arg (roN_wk hp hl)
theorem wbI (m : MMsg) (hp : m.proof = []) (hl : m.leaves = []) : CallR Tryz.prog 105 [m.roN] (vS (mWireBytes m)) [] :=
  (c105_c m (by rw [hl]; exact Nat.zero_le _)).arg (roN_wk hp hl)
theorem c234_c (f t : Int) (m : MMsg) (hp : m.proof = []) (hl : m.leaves = []) : CallR Tryz.prog 234 [vI f, vI t, m.roN] (.agg (MLet.mk f t (mWireBytes m)).cs) [] := by
  refine use_of dcF3 false Tryz.f234 ?_
  conv => enter [1]; reduce
  refine jvR Tryz.f234 12 [.cell 6 51] (by kernel_rfl) (by decide +kernel) rfl ?_
  simp -implicitDefEqProofs only [go_sem]
  refine Want.intro (wbI m hp hl) ?_
  simp -implicitDefEqProofs only [go_sem]
end Go.Proofs.YtjlhdfciklnndaaGreat.E
