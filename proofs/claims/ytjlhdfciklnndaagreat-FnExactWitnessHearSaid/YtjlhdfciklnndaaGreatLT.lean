/-
  Contracts: what is heard, in laws: the same, marked, held.
-/
import Derived.Test.YtjlhdfciklnndaaGreatLU
namespace Go.Proofs.YtjlhdfciklnndaaGreat.E
open Go Go.RowKit
set_option maxHeartbeats 4000000
set_option maxRecDepth 10000
set_option linter.unusedSimpArgs false
set_option linter.unusedVariables false
set_option linter.unusedSectionVars false
def dcLT : Dec := ⟨[(62, .cm [true, false]), (86, .cm [true, false]), (87, .cm [true, false]), (168, .cm [true, true]), (172, .cm [true, false]), (173, .cm [true, false]), (176, .cm [true, false])], [9, 10, 11], [27, 30, 44, 45, 46, 58, 68, 78, 79, 86, 101, 112, 113, 132, 174, 196, 247, 249, 351, 356], false⟩

theorem c176_c (o : Option MKeep) (z : Int) (h : ∀ k, o = some k → k.proof.length ≤ 2000000) (hz : 0 ≤ z ∧ z ≤ 9000000000) : CallM Tryz.prog 176 ([(1000000, 0, one (kRow (mkO o z).1 1000001))] ++ kSig (mkO o z).1 1000001) [.blk 1000000 0 [] 11 0 o.toList.length, vI z] (vI (mkO o z).2) ([(1000000, 0, one (kRow (mkO o z).1 1000001))] ++ kSig (mkO o z).1 1000001) := by
  refine use_of dcLT false Tryz.f176 ?_
  conv => enter [1]; reduce
  refine jvM Tryz.f176 144 [.tmp 4] (by kernel_rfl) (by decide +kernel) rfl ?_
  have z0' : ¬ (((0 : Nat) : Int) < ((0 : Nat) : Int)) := by decide
  have z1' : (((0 : Nat) : Int) < ((1 : Nat) : Int)) := by decide
  have z2' : ¬ (((1 : Nat) : Int) < ((1 : Nat) : Int)) := by decide
  have wz : IntKind.i64.wrap (((0 : Nat) : Int) + 1) = ((1 : Nat) : Int) := by decide
  cases o with
  | none =>
    simp -implicitDefEqProofs only [go_sem, mkO]
    refine jv_lp (fun m s => m = 0 ∧ s = ⟨144, [(0, .blk 1000000 0 [] 11 0 0), (1, vI z), (5, vI ((0 : Nat) : Int))], [(1000000, 0, one ⟨11, [], 2, false⟩)], 1⟩) 0 ?_ ?_
    · simp -implicitDefEqProofs only [go_sem]
      first | exact ⟨rfl, rfl⟩ | exact rfl
    · rintro m s ⟨rfl, rfl⟩
      simp -implicitDefEqProofs only [go_sem, z0']
  | some k =>
    have hk := h k rfl
    have hn := mkKn_num k z
    obtain ⟨h1, h2, h3, h4, h5, h6, h7, h8, h9, h10, u1, u2, u3, u4, u6, u7, u8, u9⟩ := zwKeep (z := z) (by omega)
    have hG := gMark_len (mk := mkDig) (n := k.proof.length) (k := z + 1 + 1 + 1 + 1 + 1 + 1 + 1 + 1 + 1 + 1)
    have hH : gHeld digIs (fun k => k + 1 + 1 + 1 + 1) (gMark mkDig k.proof.length (z + 1 + 1 + 1 + 1 + 1 + 1 + 1 + 1 + 1 + 1)).1 (z + 1 + 1 + 1 + 1 + 1 + 1 + 1 + 1 + 1 + 1) = mkKn k z := gHeld_all digIs_mk k.proof.length _
    have hd := c260_c (mkK k z).proof (z + 1 + 1 + 1 + 1 + 1 + 1 + 1 + 1 + 1 + 1) (by rw [mkK_len]; unfold maxLen; omega) (by rw [mkK_len]; omega)
    have e0 : (mkK k z).proof = (gMark mkDig k.proof.length (z + 1 + 1 + 1 + 1 + 1 + 1 + 1 + 1 + 1 + 1)).1 := rfl
    rw [← e0] at hH
    rw [hH] at hd
    have hN : ¬ (mkKn k z < 0) := by omega
    have hlen := mkK_len k z
    simp -implicitDefEqProofs only [go_sem, mkO]
    refine jv_lp (fun m s => ∃ i : Nat, i ≤ 1 ∧ m = 1 - i ∧ s = ⟨144, [(0, .blk 1000000 0 [] 11 0 1), (1, vI (if i = 0 then z else mkKn k z)), (5, vI i)], [(1000000, 0, one ⟨11, [(mkK k z).cs (.blk 1000001 0 [] 4 0 (mkK k z).proof.length)], 0, false⟩), (1000001, 0, one ⟨4, (mkK k z).proof.map MDig.cs, 2, false⟩)], 1⟩) 1 ?_ ?_
    · simp -implicitDefEqProofs only [go_sem]
      exact ⟨0, by omega, rfl, rfl⟩
    · rintro m s ⟨i, hi, rfl, rfl⟩
      have hi' : i = 0 ∨ i = 1 := by omega
      have r1 : (mkK k z).old.size = z := rfl
      have r2 : (mkK k z).old.root.a = (z + 1).toNat := rfl
      have r3 : (mkK k z).old.root.b = (z + 1 + 1).toNat := rfl
      have r4 : (mkK k z).old.root.c = (z + 1 + 1 + 1).toNat := rfl
      have r5 : (mkK k z).old.root.d = (z + 1 + 1 + 1 + 1).toNat := rfl
      have r6 : (mkK k z).new.size = z + 1 + 1 + 1 + 1 + 1 := rfl
      have r7 : (mkK k z).new.root.a = (z + 1 + 1 + 1 + 1 + 1 + 1).toNat := rfl
      have r8 : (mkK k z).new.root.b = (z + 1 + 1 + 1 + 1 + 1 + 1 + 1).toNat := rfl
      have r9 : (mkK k z).new.root.c = (z + 1 + 1 + 1 + 1 + 1 + 1 + 1 + 1).toNat := rfl
      have r10 : (mkK k z).new.root.d = (z + 1 + 1 + 1 + 1 + 1 + 1 + 1 + 1 + 1).toNat := rfl
      generalize mkK k z = K at *
      rcases hi' with rfl | rfl
      · simp -implicitDefEqProofs only [go_sem, z1', wz, r1, r2, r3, r4, r5, r6, r7, r8, r9, r10, h1, h2, h3, h4, h5, h6, h7, h8, h9, h10, u1, u2, u3, u4, u6, u7, u8, u9, bne_self_eq_false]
        refine Want.intro hd ?_
        simp -implicitDefEqProofs only [go_sem, z1', wz, hN]
        exact ⟨0, by omega, 1, by omega, rfl, rfl⟩
      · have z3 : ¬ ((1 : Nat) = 0) := by decide
        simp -implicitDefEqProofs only [go_sem, z2', z3]
def hdV (h : MHeard) (s : Nat) : AV := .agg (h.disk.cs ++ [.blk s 0 [] 7 0 h.wishes.length, .blk (s + 1) 0 [] 3 0 h.raws.length, .blk (s + 2) 0 [] 11 0 h.kept.toList.length, .blk (s + 3) 0 [] 3 0 h.letters.length, .blk (s + 4) 0 [] 13 0 h.alarms.length])
def hdS (h : MHeard) (s q : Nat) : Sig := [(s, 0, one ⟨7, h.wishes.map MWish.cs, 2, false⟩), (s + 1, 0, one ⟨3, h.raws.map MRaw.cs, 2, false⟩), (s + 2, 0, one (kRow h.kept q)), (s + 3, 0, one ⟨3, h.letters.map MLet.cs, 2, false⟩), (s + 4, 0, one ⟨13, h.alarms.map MAl.cs, 2, false⟩)]
attribute [go_sem] hdV hdS
structure MHeard.sm (h : MHeard) : Prop where
  w : h.wishes.length ≤ 100000
  r : h.raws.length ≤ 100000
  k : ∀ k, h.kept = some k → k.proof.length ≤ 100000
  l : h.letters.length ≤ 100000
  x : h.alarms.length ≤ 100000
theorem sx {n : Nat} (h : n ≤ 100000) : n ≤ maxLen := by unfold maxLen; omega
theorem c60_c (h : MHeard) (hs : h.sm) : CallM Tryz.prog 60 (hdS h 1000000 1000010 ++ (hdS h 1000005 1000011 ++ (kSig h.kept 1000010 ++ kSig h.kept 1000011))) [hdV h 1000000, hdV h 1000005] (vB true) (hdS h 1000000 1000010 ++ (hdS h 1000005 1000011 ++ (kSig h.kept 1000010 ++ kSig h.kept 1000011))) := by
  refine use_of dcLT false Tryz.f60 ?_
  conv => enter [1]; reduce
  refine jvM Tryz.f60 35 [.tmp 4] (by kernel_rfl) (by decide +kernel) rfl ?_
  have hw := c61_c ⟨h.disk, h.wishes⟩ (sx hs.w)
  have hr := r167_c h.raws (sx hs.r)
  have hk := c168_c h.kept (fun k e => sx (hs.k k e))
  have hl := r78_c h.letters (sx hs.l)
  have hx := r79_c h.alarms (sx hs.x)
  obtain ⟨disk, wishes, raws, kept, letters, alarms⟩ := h
  simp only at hw hr hk hl hx
  cases kept with
  | none =>
    simp -implicitDefEqProofs only [go_sem]
    refine Want.intro hw ?_
    simp -implicitDefEqProofs only [go_sem]
    refine Want.intro hr ?_
    simp -implicitDefEqProofs only [go_sem]
    refine WantM.intro hk ?_
    simp -implicitDefEqProofs only [go_sem]
    refine Want.intro hl ?_
    simp -implicitDefEqProofs only [go_sem]
    refine Want.intro hx ?_
    simp -implicitDefEqProofs only [go_sem]
  | some k =>
    simp -implicitDefEqProofs only [go_sem]
    refine Want.intro hw ?_
    simp -implicitDefEqProofs only [go_sem]
    refine Want.intro hr ?_
    simp -implicitDefEqProofs only [go_sem]
    refine WantM.intro hk ?_
    simp -implicitDefEqProofs only [go_sem]
    refine Want.intro hl ?_
    simp -implicitDefEqProofs only [go_sem]
    refine Want.intro hx ?_
    simp -implicitDefEqProofs only [go_sem]
def hdW (h : MHeard) (k : Int) : List MWish × Int := gMark mkWish h.wishes.length k
def hdR (h : MHeard) (k : Int) : List MRaw × Int := gMark mkRaw h.raws.length (hdW h k).2
def hdK (h : MHeard) (k : Int) : Option MKeep × Int := mkO h.kept (hdR h k).2
def hdL (h : MHeard) (k : Int) : List MLet × Int := gMark mkLetter h.letters.length (hdK h k).2
def hdX (h : MHeard) (k : Int) : List MAl × Int := gMark mkAlarm h.alarms.length (hdL h k).2
def mkHd (h : MHeard) (k : Int) : MHeard := ⟨h.disk, (hdW h k).1, (hdR h k).1, (hdK h k).1, (hdL h k).1, (hdX h k).1⟩
structure HB (h : MHeard) (k : Int) : Prop where
  w : 0 ≤ (hdW h k).2 ∧ (hdW h k).2 ≤ 1000000000
  r : 0 ≤ (hdR h k).2 ∧ (hdR h k).2 ≤ 1000000000
  kk : 0 ≤ (hdK h k).2 ∧ (hdK h k).2 ≤ 1000000000
  l : 0 ≤ (hdL h k).2 ∧ (hdL h k).2 ≤ 1000000000
  x : 0 ≤ (hdX h k).2 ∧ (hdX h k).2 ≤ 1000000000
theorem hb {h : MHeard} (hs : h.sm) {k : Int} (hk : 0 ≤ k ∧ k ≤ 1000000) : HB h k := by
  have h1 := hs.w
  have h2 := hs.r
  have h3 := hs.k
  have h4 := hs.l
  have h5 := hs.x
  have e0 : (hdW h k).2 = k + 7 * h.wishes.length := mkWish_num _ _
  have e1 : (hdR h k).2 = (hdW h k).2 + 3 * h.raws.length := mkRaw_num _ _
  have e2 : (hdR h k).2 ≤ (hdK h k).2 ∧ (hdK h k).2 ≤ (hdR h k).2 + 1000000 := by
    unfold hdK
    cases e : h.kept with
    | none => exact ⟨Int.le_refl _, by show (hdR h k).2 ≤ _; omega⟩
    | some q =>
      have := h3 q e
      have := mkKn_num q (hdR h k).2
      show (hdR h k).2 ≤ mkKn q (hdR h k).2 ∧ mkKn q (hdR h k).2 ≤ _
      omega
  have e3 : (hdL h k).2 = (hdK h k).2 + 3 * h.letters.length := mkLetter_num _ _
  have e4 : (hdX h k).2 = (hdL h k).2 + 13 * h.alarms.length := mkAlarm_num _ _
  exact ⟨by omega, by omega, by omega, by omega, by omega⟩
theorem c63_c (h : MHeard) (k : Int) (hs : h.sm) (hk : 0 ≤ k ∧ k ≤ 1000000) : CallM Tryz.prog 63 (hdS h 1000000 1000005 ++ kSig h.kept 1000005) [hdV h 1000000, vI k] (vI (hdX h k).2) (hdS (mkHd h k) 1000000 1000005 ++ kSig (mkHd h k).kept 1000005) := by
  refine use_of dcLT false Tryz.f63 ?_
  conv => enter [1]; reduce
  refine jvM Tryz.f63 26 [.tmp 4] (by kernel_rfl) (by decide +kernel) rfl ?_
  have h1 := hs.w
  have h2 := hs.r
  have h3 := hs.k
  have h4 := hs.l
  have h5 := hs.x
  have b := hb hs hk
  have b1 := b.w
  have b2 := b.r
  have b3 := b.kk
  have b4 := b.l
  have m1 := c62_c h.disk h.wishes k (by omega) (by omega)
  have m2 := c172_c h.raws (hdW h k).2 (by omega) (by omega)
  have m3 := c173_c h.kept (hdR h k).2 (fun q e => by have := h3 q e; omega) (by omega)
  have m4 := c86_c h.letters (hdK h k).2 (by omega) (by omega)
  have m5 := c87_c h.alarms (hdL h k).2 (by omega) (by omega)
  have q1 : gMark mkWish h.wishes.length k = hdW h k := rfl
  have q2 : gMark mkRaw h.raws.length (hdW h k).2 = hdR h k := rfl
  have q3 : mkO h.kept (hdR h k).2 = hdK h k := rfl
  have q4 : gMark mkLetter h.letters.length (hdK h k).2 = hdL h k := rfl
  have q5 : gMark mkAlarm h.alarms.length (hdL h k).2 = hdX h k := rfl
  rw [q1] at m1
  rw [q2] at m2
  rw [q3] at m3
  rw [q4] at m4
  rw [q5] at m5
  unfold mkHd
  have hsh : ((h.kept = none ∧ (hdK h k).1 = none) ∨ ∃ q z, h.kept = some q ∧ (hdK h k).1 = some (mkK q z)) := by
    unfold hdK
    cases e : h.kept with
    | none => exact .inl ⟨rfl, rfl⟩
    | some q => exact .inr ⟨q, _, rfl, rfl⟩
  generalize hdW h k = W at *
  generalize hdR h k = R at *
  generalize hdK h k = K at *
  generalize hdL h k = L at *
  generalize hdX h k = X at *
  obtain ⟨disk, wishes, raws, kept, letters, alarms⟩ := h
  obtain ⟨o, n⟩ := K
  simp only at m1 m2 m3 m4 m5 hsh
  rcases hsh with ⟨rfl, rfl⟩ | ⟨q, z, rfl, rfl⟩
  · simp -implicitDefEqProofs only [go_sem]
    refine WantM.intro m1 ?_
    simp -implicitDefEqProofs only [go_sem]
    refine WantM.intro m2 ?_
    simp -implicitDefEqProofs only [go_sem]
    refine WantM.intro m3 ?_
    simp -implicitDefEqProofs only [go_sem]
    refine WantM.intro m4 ?_
    simp -implicitDefEqProofs only [go_sem]
    refine WantM.intro m5 ?_
    simp -implicitDefEqProofs only [go_sem]
  · simp -implicitDefEqProofs only [go_sem]
    refine WantM.intro m1 ?_
    simp -implicitDefEqProofs only [go_sem]
    refine WantM.intro m2 ?_
    simp -implicitDefEqProofs only [go_sem]
    refine WantM.intro m3 ?_
    simp -implicitDefEqProofs only [go_sem]
    refine WantM.intro m4 ?_
    simp -implicitDefEqProofs only [go_sem]
    refine WantM.intro m5 ?_
    simp -implicitDefEqProofs only [go_sem]
theorem c64_c (h : MHeard) (k : Int) (hs : h.sm) (hk : 0 ≤ k ∧ k ≤ 1000000) : CallM Tryz.prog 64 (hdS (mkHd h k) 1000000 1000005 ++ kSig (mkHd h k).kept 1000005) [hdV (mkHd h k) 1000000, vI k] (vI (hdX h k).2) (hdS (mkHd h k) 1000000 1000005 ++ kSig (mkHd h k).kept 1000005) := by
  refine use_of dcLT false Tryz.f64 ?_
  conv => enter [1]; reduce
  refine jvM Tryz.f64 36 [.tmp 4] (by kernel_rfl) (by decide +kernel) rfl ?_
  have h1 := hs.w
  have h2 := hs.r
  have h3 := hs.k
  have h4 := hs.l
  have h5 := hs.x
  have b := hb hs hk
  have b1 := b.w
  have b2 := b.r
  have b3 := b.kk
  have b4 := b.l
  have b5 := b.x
  have m1 := c174_c h.disk (hdW h k).1 h.wishes.length k (by omega) (by omega)
  have m2 := r175_c h.raws.length (hdW h k).2 (by omega) (by omega)
  have m3 := c176_c h.kept (hdR h k).2 (fun q e => by have := h3 q e; omega) (by omega)
  have m4 := r90_c h.letters.length (hdK h k).2 (by omega) (by omega)
  have m5 := r91_c h.alarms.length (hdL h k).2 (by omega) (by omega)
  have q1 : gMark mkWish h.wishes.length k = hdW h k := rfl
  have q2 : gMark mkRaw h.raws.length (hdW h k).2 = hdR h k := rfl
  have q3 : mkO h.kept (hdR h k).2 = hdK h k := rfl
  have q4 : gMark mkLetter h.letters.length (hdK h k).2 = hdL h k := rfl
  have q5 : gMark mkAlarm h.alarms.length (hdL h k).2 = hdX h k := rfl
  rw [q1] at m1
  rw [q2] at m2
  rw [q3] at m3
  rw [q4] at m4
  rw [q5] at m5
  unfold mkHd
  have hsh : ((h.kept = none ∧ (hdK h k).1 = none) ∨ ∃ q z, h.kept = some q ∧ (hdK h k).1 = some (mkK q z)) := by
    unfold hdK
    cases e : h.kept with
    | none => exact .inl ⟨rfl, rfl⟩
    | some q => exact .inr ⟨q, _, rfl, rfl⟩
  have n1 : ¬ ((hdW h k).2 < 0) := by omega
  have n2 : ¬ ((hdR h k).2 < 0) := by omega
  have n3 : ¬ ((hdK h k).2 < 0) := by omega
  have n4 : ¬ ((hdL h k).2 < 0) := by omega
  have n5 : ¬ ((hdX h k).2 < 0) := by omega
  generalize hdW h k = W at *
  generalize hdR h k = R at *
  generalize hdK h k = K at *
  generalize hdL h k = L at *
  generalize hdX h k = X at *
  obtain ⟨disk, wishes, raws, kept, letters, alarms⟩ := h
  obtain ⟨o, n⟩ := K
  simp only at m1 m2 m3 m4 m5 hsh n1 n2 n3 n4 n5
  rcases hsh with ⟨rfl, rfl⟩ | ⟨q, z, rfl, rfl⟩
  · simp -implicitDefEqProofs only [go_sem]
    refine Want.intro m1 ?_
    simp -implicitDefEqProofs only [go_sem, n1]
    refine Want.intro m2 ?_
    simp -implicitDefEqProofs only [go_sem, n2]
    refine WantM.intro m3 ?_
    simp -implicitDefEqProofs only [go_sem, n3]
    refine Want.intro m4 ?_
    simp -implicitDefEqProofs only [go_sem, n4]
    refine Want.intro m5 ?_
    simp -implicitDefEqProofs only [go_sem, n5]
  · simp -implicitDefEqProofs only [go_sem]
    refine Want.intro m1 ?_
    simp -implicitDefEqProofs only [go_sem, n1]
    refine Want.intro m2 ?_
    simp -implicitDefEqProofs only [go_sem, n2]
    refine WantM.intro m3 ?_
    simp -implicitDefEqProofs only [go_sem, n3]
    refine Want.intro m4 ?_
    simp -implicitDefEqProofs only [go_sem, n4]
    refine Want.intro m5 ?_
    simp -implicitDefEqProofs only [go_sem, n5]
end Go.Proofs.YtjlhdfciklnndaaGreat.E
