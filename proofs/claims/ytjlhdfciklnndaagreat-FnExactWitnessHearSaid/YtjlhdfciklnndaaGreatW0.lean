/-
  Records of disks, in plain data.
-/
import Derived.Test.YtjlhdfciklnndaaGreatH2
import Derived.Test.YtjlhdfciklnndaaGreatF1
namespace Go.Proofs.YtjlhdfciklnndaaGreat.E
open Go Go.RowKit
set_option linter.unusedVariables false
set_option linter.unusedSimpArgs false
structure MSlot where
  sum : Nat
  seq : Nat
  size : Nat
  root : MDig
def MSlot.cs (s : MSlot) : List AV := [vU s.sum, vU s.seq, vU s.size, vU s.root.a, vU s.root.b, vU s.root.c, vU s.root.d]
structure MSlot.ok (t : MSlot) : Prop where
  s : t.sum < 18446744073709551616
  q : t.seq < 18446744073709551616
  z : t.size < 18446744073709551616
  r : t.root.ok
structure MDisk where
  one : MSlot
  two : MSlot
def MDisk.cs (d : MDisk) : List AV := [vU d.one.sum, vU d.one.seq, vU d.one.size, vU d.one.root.a, vU d.one.root.b, vU d.one.root.c, vU d.one.root.d, vU d.two.sum, vU d.two.seq, vU d.two.size, vU d.two.root.a, vU d.two.root.b, vU d.two.root.c, vU d.two.root.d]
structure MDisk.ok (d : MDisk) : Prop where
  a : d.one.ok
  b : d.two.ok
attribute [go_sem] MSlot.cs MDisk.cs
/-- The bytes whose digest a slot's sum is, word by word. -/
def slotW (s : MSlot) : Nat → List UInt8
  | 0 => []
  | 1 => low s.seq 8
  | 2 => low s.seq 8 ++ low s.size 8
  | 3 => low s.seq 8 ++ low s.size 8 ++ low s.root.a 8
  | 4 => low s.seq 8 ++ low s.size 8 ++ low s.root.a 8 ++ low s.root.b 8
  | 5 => low s.seq 8 ++ low s.size 8 ++ low s.root.a 8 ++ low s.root.b 8 ++ low s.root.c 8
  | _ => low s.seq 8 ++ low s.size 8 ++ low s.root.a 8 ++ low s.root.b 8 ++ low s.root.c 8 ++ low s.root.d 8
theorem slotW_len (s : MSlot) {i : Nat} (h : i ≤ 6) : (slotW s i).length = 8 * i := by
  have hi : i = 0 ∨ i = 1 ∨ i = 2 ∨ i = 3 ∨ i = 4 ∨ i = 5 ∨ i = 6 := by omega
  rcases hi with rfl | rfl | rfl | rfl | rfl | rfl | rfl <;> simp [slotW, low8]
theorem slotW_bytes (s : MSlot) : (numB s.seq 8 ++ numB s.size 8 ++ s.root.bytes) = ⟨(slotW s 6).toArray⟩ := by
  unfold MDig.bytes slotW
  apply ByteArray.ext
  apply Array.toList_inj.1
  simp [ByteArray.data_append, Array.toList_append, numB_low]
theorem orI_nat (x : Int) : orI .u64 x 1 = ((orI .u64 x 1).toNat : Int) := by
  unfold orI
  have : 0 ≤ IntKind.u64.wrap ((BitVec.ofInt IntKind.u64.bits x ||| BitVec.ofInt IntKind.u64.bits 1).toNat : Int) := by
    rw [wU]
    exact Int.emod_nonneg _ (by decide)
  omega
/-- What the sum of a slot must be. -/
def mSum (s : MSlot) : Nat := (orI .u64 ((mHashOf (slotW s 6)).a.toNat : Int) 1).toNat
theorem mSum_lt (s : MSlot) : mSum s < 18446744073709551616 := by
  have h : orI .u64 ((mHashOf (slotW s 6)).a.toNat : Int) 1 < 18446744073709551616 := by
    unfold orI
    rw [wU]
    exact Int.emod_lt_of_pos _ (by decide)
  unfold mSum
  omega
def mSlotOk (s : MSlot) : Bool := ((s.sum : Int) == (mSum s : Int)) && (decide ((s.seq : Int) ≥ 1) && (decide ((s.seq : Int) ≤ 1000000000) && (decide ((s.size : Int) ≥ 1) && decide ((s.size : Int) ≤ 256))))
structure MRec where
  seq : Int
  size : Int
  root : MDig
def MRec.cs (r : MRec) : List AV := [vI r.seq, vI r.size, vU r.root.a, vU r.root.b, vU r.root.c, vU r.root.d]
attribute [go_sem] MRec.cs
def MSlot.rec_ (s : MSlot) : MRec := ⟨s.seq, s.size, s.root⟩
/-- What a disk says. -/
def mRead (d : MDisk) : MRec × Int :=
  match mSlotOk d.one, mSlotOk d.two with
  | true, true => if d.two.seq > d.one.seq then (d.two.rec_, 2) else (d.one.rec_, 1)
  | true, false => (d.one.rec_, 1)
  | false, true => (d.two.rec_, 2)
  | false, false => (⟨0, 0, dig0⟩, 0)
def mHeld (d : MDisk) : MPt := if (mRead d).2 = 0 then ⟨0, (mHashOf []).dig⟩ else ⟨(mRead d).1.size, (mRead d).1.root⟩
theorem mSlotOk_bd {s : MSlot} (h : mSlotOk s = true) : (1 ≤ s.seq ∧ s.seq ≤ 1000000000) ∧ (1 ≤ s.size ∧ s.size ≤ 256) := by
  simp only [mSlotOk, Bool.and_eq_true, decide_eq_true_eq] at h
  omega
theorem mHeld_bd (d : MDisk) : 0 ≤ (mHeld d).size ∧ (mHeld d).size ≤ 256 := by
  unfold mHeld
  split
  · exact ⟨Int.le_refl _, by decide⟩
  · rename_i h
    unfold mRead at h ⊢
    cases h1 : mSlotOk d.one <;> cases h2 : mSlotOk d.two <;> simp only [h1, h2] at h ⊢
    · exact absurd trivial h
    · have := mSlotOk_bd h2
      show (0 : Int) ≤ (d.two.size : Int) ∧ (d.two.size : Int) ≤ 256
      omega
    · have := mSlotOk_bd h1
      show (0 : Int) ≤ (d.one.size : Int) ∧ (d.one.size : Int) ≤ 256
      omega
    · have := mSlotOk_bd h1
      have := mSlotOk_bd h2
      split
      · show (0 : Int) ≤ (d.two.size : Int) ∧ (d.two.size : Int) ≤ 256
        omega
      · show (0 : Int) ≤ (d.one.size : Int) ∧ (d.one.size : Int) ≤ 256
        omega
structure MRaw where
  slot : Int
  word : Int
  value : Nat
def MRaw.cs (r : MRaw) : List AV := [vI r.slot, vI r.word, vU r.value]
attribute [go_sem] MRaw.cs
/-- A word of a slot written. -/
def mPut (s : MSlot) (w : Int) (v : Nat) : MSlot :=
  if w = 0 then { s with sum := v } else if w = 1 then { s with seq := v } else if w = 2 then { s with size := v }
  else if w = 3 then { s with root := { s.root with a := v } } else if w = 4 then { s with root := { s.root with b := v } }
  else if w = 5 then { s with root := { s.root with c := v } } else if w = 6 then { s with root := { s.root with d := v } } else s
def mRaw1 (d : MDisk) (r : MRaw) : MDisk := if r.slot = 1 then { d with one := mPut d.one r.word r.value } else if r.slot = 2 then { d with two := mPut d.two r.word r.value } else d
def mWrite (d : MDisk) (l : List MRaw) : MDisk := l.foldl mRaw1 d
theorem mPut_ok {s : MSlot} (h : s.ok) {w : Int} {v : Nat} (hv : v < 18446744073709551616) : (mPut s w v).ok := by
  obtain ⟨h1, h2, h3, h4, h5, h6, h7⟩ := h
  unfold mPut
  repeat' split
  all_goals first
    | exact ⟨hv, h2, h3, h4, h5, h6, h7⟩
    | exact ⟨h1, hv, h3, h4, h5, h6, h7⟩
    | exact ⟨h1, h2, hv, h4, h5, h6, h7⟩
    | exact ⟨h1, h2, h3, hv, h5, h6, h7⟩
    | exact ⟨h1, h2, h3, h4, hv, h6, h7⟩
    | exact ⟨h1, h2, h3, h4, h5, hv, h7⟩
    | exact ⟨h1, h2, h3, h4, h5, h6, hv⟩
    | exact ⟨h1, h2, h3, h4, h5, h6, h7⟩
/-- The raw writes that keep a point. -/
def mRaws (d : MDisk) (size : Int) (root : MDig) : List MRaw :=
  if mIn size 1 256 = true ∧ (mRead d).1.seq ≠ 1000000000 then
    (let to : Int := if (mRead d).2 = 1 then 2 else 1
     let s : MSlot := ⟨0, ((mRead d).1.seq + 1).toNat, size.toNat, root⟩
     [⟨to, 0, 0⟩, ⟨to, 1, s.seq⟩, ⟨to, 2, s.size⟩, ⟨to, 3, root.a⟩, ⟨to, 4, root.b⟩, ⟨to, 5, root.c⟩, ⟨to, 6, root.d⟩, ⟨to, 0, mSum s⟩])
  else []
theorem mRead_bd (d : MDisk) : 0 ≤ (mRead d).1.seq ∧ (mRead d).1.seq ≤ 1000000000 := by
  unfold mRead
  cases h1 : mSlotOk d.one <;> cases h2 : mSlotOk d.two <;> simp only
  · exact ⟨by show (0 : Int) ≤ 0; omega, by show (0 : Int) ≤ 1000000000; omega⟩
  · have := mSlotOk_bd h2
    show (0 : Int) ≤ (d.two.seq : Int) ∧ (d.two.seq : Int) ≤ 1000000000
    omega
  · have := mSlotOk_bd h1
    show (0 : Int) ≤ (d.one.seq : Int) ∧ (d.one.seq : Int) ≤ 1000000000
    omega
  · have := mSlotOk_bd h1
    have := mSlotOk_bd h2
    split
    · show (0 : Int) ≤ (d.two.seq : Int) ∧ (d.two.seq : Int) ≤ 1000000000
      omega
    · show (0 : Int) ≤ (d.one.seq : Int) ∧ (d.one.seq : Int) ≤ 1000000000
      omega
end Go.Proofs.YtjlhdfciklnndaaGreat.E
