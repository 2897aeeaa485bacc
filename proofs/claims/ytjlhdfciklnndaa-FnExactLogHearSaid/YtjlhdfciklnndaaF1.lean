/-
  Contracts: letters and clients that are ok.
-/
import Derived.Test.YtjlhdfciklnndaaD13
namespace Go.Proofs.Ytjlhdfciklnndaa.E
open Go Go.RowKit
set_option maxHeartbeats 4000000
set_option maxRecDepth 10000
set_option linter.unusedSimpArgs false
set_option linter.unusedVariables false
set_option linter.unusedSectionVars false
def dcF1 : Dec := ⟨[], [9, 10, 11], [22, 43, 84, 88, 103], false⟩

structure MPt where
  size : Int
  root : MDig
def MPt.zero : MPt := ⟨0, ⟨0, 0, 0, 0⟩⟩
def MPt.cs (p : MPt) : List AV := [vI p.size, vU p.root.a, vU p.root.b, vU p.root.c, vU p.root.d]
structure MLet where
  from_ : Int
  to_ : Int
  text : ByteArray
def MLet.cs (l : MLet) : List AV := [vI l.from_, vI l.to_, vS l.text]
structure MCl where
  need : Int
  many : Int
  session : Int
  phase : Int
  goal : MPt
  acks : List Int
  pin : MPt
def intC (n : Int) : List AV := [vI n]
def MCl.cs (c : MCl) (a : AV) : List AV := [vI c.need, vI c.many, vI c.session, vI c.phase, vI c.goal.size, vU c.goal.root.a, vU c.goal.root.b, vU c.goal.root.c, vU c.goal.root.d, a, vI c.pin.size, vU c.pin.root.a, vU c.pin.root.b, vU c.pin.root.c, vU c.pin.root.d]
def MCl.ro (c : MCl) : AV := .agg (c.cs (.ro 1 (c.acks.map intC)))
attribute [go_sem] MPt.cs MLet.cs MCl.cs MCl.ro intC
def mLetOk (l : MLet) : Bool := mIn l.from_ 0 20 && (mIn l.to_ 0 20 && decide ((l.text.size : Int) ≤ 600))
def eqPt (a b : MPt) : Bool := a.size == b.size && (((a.root.a : Int) == b.root.a) && (((a.root.b : Int) == b.root.b) && (((a.root.c : Int) == b.root.c) && ((a.root.d : Int) == b.root.d))))
def mPin (p : MPt) : Bool := mIn p.size 1 256 || eqPt p .zero
theorem c13_c (l : MLet) : CallR Try.prog 13 [.agg l.cs] (vB (mLetOk l)) [] := by
  refine use_of dcF1 false Try.f13 ?_
  conv => enter [1]; reduce
  refine jvR Try.f13 17 [.tmp 2] (by kernel_rfl) (by decide +kernel) rfl ?_
  simp -implicitDefEqProofs only [go_sem]
  repeat' first | (refine Want.intro (by first | exact c23_c _ _ _) ?_; try simp -implicitDefEqProofs only [go_sem]) | (refine WantM.intro (by first | exact c23_c _ _ _) ?_; try simp -implicitDefEqProofs only [go_sem]) | (refine guardP_intro (fun h => ?_) (fun h => ?_) <;> try simp -implicitDefEqProofs only [go_sem, h]) | (refine condJ_intro (fun h => ?_) (fun h => ?_) <;> try simp -implicitDefEqProofs only [go_sem, h])
  all_goals simp_all [mLetOk]
theorem c18_c (l : MLet) : CallR Try.prog 18 [.agg l.cs] (vB (mLetOk l)) [] := by
  refine use_of dcF1 false Try.f18 ?_
  conv => enter [1]; reduce
  refine jvR Try.f18 17 [.tmp 2] (by kernel_rfl) (by decide +kernel) rfl ?_
  simp -implicitDefEqProofs only [go_sem]
  repeat' first | (refine Want.intro (by first | exact c37_c _ _ _) ?_; try simp -implicitDefEqProofs only [go_sem]) | (refine WantM.intro (by first | exact c37_c _ _ _) ?_; try simp -implicitDefEqProofs only [go_sem]) | (refine guardP_intro (fun h => ?_) (fun h => ?_) <;> try simp -implicitDefEqProofs only [go_sem, h]) | (refine condJ_intro (fun h => ?_) (fun h => ?_) <;> try simp -implicitDefEqProofs only [go_sem, h])
  all_goals simp_all [mLetOk]
def ackAt (many : Int) (l : List Int) (i : Nat) : Bool := mIn (l.getD i 0) 1 many && (i == 0 || decide (l.getD (i - 1) 0 < l.getD i 0))
def acksOk (many : Int) (l : List Int) : Bool := (List.range l.length).all (ackAt many l)
def mClOk (c : MCl) : Bool :=
  mIn c.many 1 7 && (mIn c.need 1 c.many && (decide (c.many < 2 * c.need) && (mIn c.session 0 1000000 && (mPin c.pin && (if c.phase = 0 ∨ c.phase = 1 then eqPt c.goal .zero && (c.acks.length == 0 && decide (c.phase ≤ c.session)) else decide (c.phase = 2) && (decide (1 ≤ c.session) && (mIn c.goal.size (c.pin.size + 1) 256 && (decide ((c.acks.length : Int) < c.need) && acksOk c.many c.acks))))))))
theorem mIn_iff {a b c : Int} : mIn a b c = true ↔ b ≤ a ∧ a ≤ c := by simp [mIn]
theorem mPin_wr {p : MPt} (h : mPin p = true) : IntKind.i64.wrap (p.size + 1) = p.size + 1 ∧ 0 ≤ p.size ∧ p.size ≤ 256 := by
  have : 0 ≤ p.size ∧ p.size ≤ 256 := by
    simp only [mPin, Bool.or_eq_true, mIn_iff] at h
    rcases h with h | h
    · omega
    · simp only [eqPt, MPt.zero, Bool.and_eq_true, beq_iff_eq] at h
      omega
  exact ⟨wrS (by omega), this⟩
theorem ok_low {c : MCl} (h : ¬ ((mIn c.many 1 7 = true ∧ mIn c.need 1 c.many = true) ∧ mPin c.pin = true)) : mClOk c = false := by
  cases h' : mClOk c with
  | false => rfl
  | true =>
    simp only [mClOk, Bool.and_eq_true] at h'
    exact absurd ⟨⟨h'.1, h'.2.1⟩, h'.2.2.2.2.1⟩ h
theorem acks_all {many : Int} {l : List Int} : acksOk many l = true ↔ ∀ i, i < l.length → ackAt many l i = true := by simp [acksOk, List.all_eq_true]
theorem ackAt_zero {many : Int} {l : List Int} (h : 0 < l.length) : ackAt many l 0 = mIn l[0] 1 many := by simp [ackAt, h]
theorem ackAt_succ {many : Int} {l : List Int} {i : Nat} (h : i + 1 < l.length) : ackAt many l (i + 1) = (mIn l[i + 1] 1 many && decide (l[i] < l[i + 1])) := by simp [ackAt, h, show i < l.length by omega]
theorem acks_bad {many : Int} {l : List Int} {i : Nat} (h : i < l.length) (hb : ackAt many l i = false) : acksOk many l = false := by
  cases h' : acksOk many l with
  | false => rfl
  | true => rw [acks_all.1 h' i h] at hb; cases hb
theorem ok_two {c : MCl} (h1 : mIn c.many 1 7 = true) (h2 : mIn c.need 1 c.many = true) (h3 : c.many < 2 * c.need) (h4 : mIn c.session 0 1000000 = true) (h5 : mPin c.pin = true) (h6 : c.phase = 2) : mClOk c = (decide (1 ≤ c.session) && (mIn c.goal.size (c.pin.size + 1) 256 && (decide ((c.acks.length : Int) < c.need) && acksOk c.many c.acks))) := by
  simp [mClOk, h1, h2, h3, h4, h5, h6]
end Go.Proofs.Ytjlhdfciklnndaa.E
