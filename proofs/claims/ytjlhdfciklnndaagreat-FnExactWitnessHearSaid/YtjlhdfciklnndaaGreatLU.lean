/-
  Contracts: witnesses and what was kept, in laws.
-/
import Derived.Test.YtjlhdfciklnndaaGreatLQ
import Derived.Test.YtjlhdfciklnndaaGreatV6
namespace Go.Proofs.YtjlhdfciklnndaaGreat.E
open Go Go.RowKit
set_option maxHeartbeats 4000000
set_option maxRecDepth 10000
set_option linter.unusedSimpArgs false
set_option linter.unusedVariables false
set_option linter.unusedSectionVars false
def dcLU : Dec := ⟨[(171, .cm [true, false]), (258, .cm [true, false])], [9, 10, 11], [27, 30, 44, 45, 46, 58, 68, 78, 79, 86, 101, 112, 113, 132, 174, 196, 247, 249, 351, 356], false⟩

theorem c164_c (l : List MWish) (left : Int) (hl : l.length ≤ maxLen) (h : 0 ≤ left ∧ left ≤ 1048576) : CallR Tryz.prog 164 [.ro 7 (l.map MWish.cs), vI left] (vI (szN left l.length)) [] := by
  refine use_of dcLU false Tryz.f164 ?_
  conv => enter [1]; reduce
  refine jvR Tryz.f164 12 [.tmp 4] (by kernel_rfl) (by decide +kernel) rfl ?_
  have w1 : IntKind.i64.wrap (left - (l.length : Int)) = left - (l.length : Int) := wrS (by unfold maxLen at hl; omega)
  unfold szN
  simp -implicitDefEqProofs only [go_sem, w1]
  refine condJ_intro (fun h => ?_) (fun h => ?_)
  · have h' := of_decide_eq_true h
    rw [if_pos h']
    simp -implicitDefEqProofs only [go_sem, h]
  · have h' := of_decide_eq_false h
    rw [if_neg h']
    simp -implicitDefEqProofs only [go_sem, h]
theorem c58_c (w : MWit) (left : Int) (hl : w.wishes.length ≤ maxLen) (h : 0 ≤ left ∧ left ≤ 1048576) : CallR Tryz.prog 58 [w.ro, vI left] (vI (szN left w.wishes.length)) [] := by
  refine use_of dcLU false Tryz.f58 ?_
  conv => enter [1]; reduce
  refine jvR Tryz.f58 12 [.tmp 4] (by kernel_rfl) (by decide +kernel) rfl ?_
  simp -implicitDefEqProofs only [go_sem]
  refine Want.intro (c164_c w.wishes left hl h) ?_
  simp -implicitDefEqProofs only [go_sem]
  refine condJ_intro (fun h => ?_) (fun h => ?_)
  · simp -implicitDefEqProofs only [go_sem, h]
    rw [szN_neg (of_decide_eq_true h)]
  · simp -implicitDefEqProofs only [go_sem, h]
theorem c252_c (s : MSlot) : CallR Tryz.prog 252 [.agg s.cs] (.agg s.cs) [] := by
  refine use_of dcLU false Tryz.f252 ?_
  conv => enter [1]; reduce
  refine jvR Tryz.f252 18 [.cell 2 98] (by kernel_rfl) (by decide +kernel) rfl ?_
  simp -implicitDefEqProofs only [go_sem]
  refine Want.intro (c120_c s.root) ?_
  simp -implicitDefEqProofs only [go_sem]
theorem c165_c (d : MDisk) : CallR Tryz.prog 165 [.agg d.cs] (.agg d.cs) [] := by
  refine use_of dcLU false Tryz.f165 ?_
  conv => enter [1]; reduce
  refine jvR Tryz.f165 13 [.cell 2 100] (by kernel_rfl) (by decide +kernel) rfl ?_
  simp -implicitDefEqProofs only [go_sem]
  refine Want.intro (c252_c d.one) ?_
  simp -implicitDefEqProofs only [go_sem]
  refine Want.intro (c252_c d.two) ?_
  simp -implicitDefEqProofs only [go_sem]
theorem c253_c (x : MWish) : CallR Tryz.prog 253 [.agg x.cs] (.agg x.cs) [] := by
  refine use_of dcLU false Tryz.f253 ?_
  conv => enter [1]; reduce
  refine jvR Tryz.f253 15 [.cell 2 109] (by kernel_rfl) (by decide +kernel) rfl ?_
  simp -implicitDefEqProofs only [go_sem]
  refine Want.intro (c34_c x.pt) ?_
  simp -implicitDefEqProofs only [go_sem]
def zWish : List AV := [.sc (.int .i64 0), .sc (.int .i64 0), .sc (.int .i64 0), .sc (.int .u64 0), .sc (.int .u64 0), .sc (.int .u64 0), .sc (.int .u64 0)]
theorem c166_c (l : List MWish) (hl : l.length ≤ 1048576) : CallR Tryz.prog 166 [.ro 7 (l.map MWish.cs)] (.blk 0 0 [] 7 0 l.length) [([], ⟨7, l.map MWish.cs, 2, false⟩)] := by
  refine use_of dcLU false Tryz.f166 ?_
  conv => enter [1]; reduce
  refine jvR Tryz.f166 23 [.tmp 2] (by kernel_rfl) (by decide +kernel) rfl ?_
  have hm : ((56 : Nat) : Int) * (l.length : Int) ≤ 281474976710656 ∧ (l.length : Int) ≤ 9223372036854775807 := by omega
  have hlm : l.length ≤ maxLen := by unfold maxLen; omega
  simp -implicitDefEqProofs only [go_sem, hm]
  refine jv_lp (fun m s => ∃ i : Nat, i ≤ l.length ∧ m = l.length - i ∧ s = ⟨23, [(0, .ro 7 (l.map MWish.cs)), (3, .blk 3 0 [] 7 0 l.length), (4, vI i)], [(3, 0, one ⟨7, setFr MWish.cs zWish l i, 2, false⟩)], 1⟩) l.length ?_ ?_
  · simp -implicitDefEqProofs only [go_sem]
    exact ⟨0, Nat.zero_le _, rfl, by rw [setFr_zero]; rfl⟩
  · rintro m s ⟨i, hi, rfl, rfl⟩
    rcases Nat.lt_or_ge i l.length with hlt | hge
    · have hlt' : (i : Int) < (l.length : Int) := by omega
      have hg : l[i]? = some l[i] := List.getElem?_eq_getElem hlt
      have hw := wrap_succ hlt hlm
      have hget := setFr_get (E := MWish.cs) (z := zWish) hlt
      have hset := setFr_set (E := MWish.cs) (z := zWish) hlt
      have hlen := setFr_len (E := MWish.cs) (z := zWish) hi
      have hto := c253_c l[i]
      generalize setFr MWish.cs zWish l i = L at *
      unfold zWish at hget
      simp -implicitDefEqProofs only [go_sem, hlt', hg, hw, hget, hlen]
      refine Want.intro hto ?_
      simp -implicitDefEqProofs only [go_sem, hlt', hg, hw, hget, hlen]
      refine ⟨_, by omega, i + 1, hlt, rfl, ?_⟩
      rw [← hset]
      rfl
    · have hi : i = l.length := by omega
      subst hi
      have hlt' : ¬ ((l.length : Int) < (l.length : Int)) := by omega
      simp -implicitDefEqProofs only [go_sem, hlt', setFr_all]
theorem c59_c (w : MWit) (hl : w.wishes.length ≤ 1048576) : CallM Tryz.prog 59 [] [w.ro] (.agg (w.cs (.blk 0 0 [] 7 0 w.wishes.length))) [(0, 0, one ⟨7, w.wishes.map MWish.cs, 2, false⟩)] := by
  refine use_of dcLU false Tryz.f59 ?_
  conv => enter [1]; reduce
  refine jvM Tryz.f59 13 [.cell 2 103] (by kernel_rfl) (by decide +kernel) rfl ?_
  simp -implicitDefEqProofs only [go_sem]
  refine Want.intro (c165_c w.disk) ?_
  simp -implicitDefEqProofs only [go_sem]
  refine Want.intro (c166_c w.wishes hl) ?_
  simp -implicitDefEqProofs only [go_sem]
theorem c256_c (s : MSlot) : CallR Tryz.prog 256 [.agg s.cs, .agg s.cs] (vB true) [] := by
  refine use_of dcLU false Tryz.f256 ?_
  conv => enter [1]; reduce
  refine jvR Tryz.f256 26 [.tmp 4] (by kernel_rfl) (by decide +kernel) rfl ?_
  simp -implicitDefEqProofs only [go_sem, bne_self_eq_false]
  repeat' first | (refine Want.intro (by first | exact c124_c s.root s.root) ?_; try simp -implicitDefEqProofs only [go_sem, bne_self_eq_false, eqDig_refl]) | (refine WantM.intro (by first | exact c124_c s.root s.root) ?_; try simp -implicitDefEqProofs only [go_sem, bne_self_eq_false, eqDig_refl]) | (refine guardP_intro (fun h => ?_) (fun h => ?_) <;> try simp -implicitDefEqProofs only [go_sem, bne_self_eq_false, eqDig_refl, h]) | (refine condJ_intro (fun h => ?_) (fun h => ?_) <;> try simp -implicitDefEqProofs only [go_sem, bne_self_eq_false, eqDig_refl, h])
theorem c169_c (d : MDisk) : CallR Tryz.prog 169 [.agg d.cs, .agg d.cs] (vB true) [] := by
  refine use_of dcLU false Tryz.f169 ?_
  conv => enter [1]; reduce
  refine jvR Tryz.f169 17 [.tmp 4] (by kernel_rfl) (by decide +kernel) rfl ?_
  simp -implicitDefEqProofs only [go_sem]
  repeat' first | (refine Want.intro (by first | exact c256_c d.one | exact c256_c d.two) ?_; try simp -implicitDefEqProofs only [go_sem]) | (refine WantM.intro (by first | exact c256_c d.one | exact c256_c d.two) ?_; try simp -implicitDefEqProofs only [go_sem]) | (refine guardP_intro (fun h => ?_) (fun h => ?_) <;> try simp -implicitDefEqProofs only [go_sem, h]) | (refine condJ_intro (fun h => ?_) (fun h => ?_) <;> try simp -implicitDefEqProofs only [go_sem, h])
theorem c61_c (w : MWit) (h : w.wishes.length ≤ maxLen) : CallR Tryz.prog 61 [w.ro, w.ro] (vB true) [] := by
  refine use_of dcLU false Tryz.f61 ?_
  conv => enter [1]; reduce
  refine jvR Tryz.f61 17 [.tmp 4] (by kernel_rfl) (by decide +kernel) rfl ?_
  simp -implicitDefEqProofs only [go_sem]
  repeat' first | (refine Want.intro (by first | exact c169_c w.disk | exact r170_c w.wishes h) ?_; try simp -implicitDefEqProofs only [go_sem]) | (refine WantM.intro (by first | exact c169_c w.disk | exact r170_c w.wishes h) ?_; try simp -implicitDefEqProofs only [go_sem]) | (refine guardP_intro (fun h => ?_) (fun h => ?_) <;> try simp -implicitDefEqProofs only [go_sem, h]) | (refine condJ_intro (fun h => ?_) (fun h => ?_) <;> try simp -implicitDefEqProofs only [go_sem, h])
theorem c62_c (d : MDisk) (l : List MWish) (k : Int) (hl : l.length ≤ 2000000) (hk : 0 ≤ k ∧ k ≤ 1000000000000) : CallM Tryz.prog 62 [(1000000, 0, one ⟨7, l.map MWish.cs, 2, false⟩)] [.agg (MWit.cs ⟨d, l⟩ (.blk 1000000 0 [] 7 0 l.length)), vI k] (vI (gMark mkWish l.length k).2) [(1000000, 0, one ⟨7, (gMark mkWish l.length k).1.map MWish.cs, 2, false⟩)] := by
  refine use_of dcLU false Tryz.f62 ?_
  conv => enter [1]; reduce
  refine jvM Tryz.f62 10 [.tmp 4] (by kernel_rfl) (by decide +kernel) rfl ?_
  simp -implicitDefEqProofs only [go_sem]
  refine WantM.intro (c171_c l k hl hk) ?_
  simp -implicitDefEqProofs only [go_sem]
theorem c174_c (d : MDisk) (l : List MWish) (n : Nat) (k : Int) (hn : n ≤ 2000000) (hk : 0 ≤ k ∧ k ≤ 1000000000) : CallR Tryz.prog 174 [.agg (MWit.cs ⟨d, l⟩ (.ro 7 ((gMark mkWish n k).1.map MWish.cs))), vI k] (vI (gMark mkWish n k).2) [] := by
  refine use_of dcLU false Tryz.f174 ?_
  conv => enter [1]; reduce
  refine jvR Tryz.f174 12 [.tmp 4] (by kernel_rfl) (by decide +kernel) rfl ?_
  have e := mkWish_num n k
  have n1 : ¬ ((gMark mkWish n k).2 < 0) := by omega
  simp -implicitDefEqProofs only [go_sem]
  refine Want.intro (r259_c n k hn (by omega)) ?_
  simp -implicitDefEqProofs only [go_sem, n1]
theorem c299_c (p : MPt) (P : List MDig) (h : P.length ≤ maxLen) : CallR Tryz.prog 299 [.agg (p.cs ++ [.ro 4 (P.map MDig.cs)]), .agg (p.cs ++ [.ro 4 (P.map MDig.cs)])] (vB true) [] := by
  refine use_of dcLU false Tryz.f299 ?_
  conv => enter [1]; reduce
  refine jvR Tryz.f299 17 [.tmp 4] (by kernel_rfl) (by decide +kernel) rfl ?_
  have hd := c39_c P P h
  rw [mEqL_refl eqDig_refl] at hd
  simp -implicitDefEqProofs only [go_sem]
  repeat' first | (refine Want.intro (by first | exact c83_c p | exact hd) ?_; try simp -implicitDefEqProofs only [go_sem]) | (refine WantM.intro (by first | exact c83_c p | exact hd) ?_; try simp -implicitDefEqProofs only [go_sem]) | (refine guardP_intro (fun h => ?_) (fun h => ?_) <;> try simp -implicitDefEqProofs only [go_sem, h]) | (refine condJ_intro (fun h => ?_) (fun h => ?_) <;> try simp -implicitDefEqProofs only [go_sem, h])
theorem c255_c (k : MKeep) (h : k.proof.length ≤ maxLen) : CallR Tryz.prog 255 [.agg (k.cs (.ro 4 (k.proof.map MDig.cs))), .agg (k.cs (.ro 4 (k.proof.map MDig.cs)))] (vB true) [] := by
  refine use_of dcLU false Tryz.f255 ?_
  conv => enter [1]; reduce
  refine jvR Tryz.f255 17 [.tmp 4] (by kernel_rfl) (by decide +kernel) rfl ?_
  have hg := c299_c k.new k.proof h
  simp -implicitDefEqProofs only [go_sem]
  repeat' first | (refine Want.intro (by first | exact c83_c k.old | exact hg) ?_; try simp -implicitDefEqProofs only [go_sem]) | (refine WantM.intro (by first | exact c83_c k.old | exact hg) ?_; try simp -implicitDefEqProofs only [go_sem]) | (refine guardP_intro (fun h => ?_) (fun h => ?_) <;> try simp -implicitDefEqProofs only [go_sem, h]) | (refine condJ_intro (fun h => ?_) (fun h => ?_) <;> try simp -implicitDefEqProofs only [go_sem, h])
def kRow : Option MKeep → Nat → Row
  | none, _ => ⟨11, [], 2, false⟩
  | some k, q => ⟨11, [k.cs (.blk q 0 [] 4 0 k.proof.length)], 0, false⟩
def kSig : Option MKeep → Nat → Sig
  | none, _ => []
  | some k, q => [(q, 0, one ⟨4, k.proof.map MDig.cs, 2, false⟩)]
attribute [go_sem] kRow kSig
theorem c168_c (o : Option MKeep) (h : ∀ k, o = some k → k.proof.length ≤ maxLen) : CallM Tryz.prog 168 ([(1000000, 0, one (kRow o 1000002)), (1000001, 0, one (kRow o 1000003))] ++ (kSig o 1000002 ++ kSig o 1000003)) [.blk 1000000 0 [] 11 0 o.toList.length, .blk 1000001 0 [] 11 0 o.toList.length] (vB true) ([(1000000, 0, one (kRow o 1000002)), (1000001, 0, one (kRow o 1000003))] ++ (kSig o 1000002 ++ kSig o 1000003)) := by
  refine use_of dcLU false Tryz.f168 ?_
  conv => enter [1]; reduce
  refine jvM Tryz.f168 27 [.tmp 4] (by kernel_rfl) (by decide +kernel) rfl ?_
  have z0' : ¬ (((0 : Nat) : Int) < ((0 : Nat) : Int)) := by decide
  have z1' : (((0 : Nat) : Int) < ((1 : Nat) : Int)) := by decide
  have z2' : ¬ (((1 : Nat) : Int) < ((1 : Nat) : Int)) := by decide
  have wz : IntKind.i64.wrap (((0 : Nat) : Int) + 1) = ((1 : Nat) : Int) := by decide
  cases o with
  | none =>
    simp -implicitDefEqProofs only [go_sem, bne_self_eq_false]
    refine jv_lp (fun m s => m = 0 ∧ s = ⟨27, [(0, .blk 1000000 0 [] 11 0 0), (1, .blk 1000001 0 [] 11 0 0), (5, vI ((0 : Nat) : Int))], [(1000000, 0, one ⟨11, [], 2, false⟩), (1000001, 0, one ⟨11, [], 2, false⟩)], 1⟩) 0 ?_ ?_
    · simp -implicitDefEqProofs only [go_sem]
      first | exact ⟨rfl, rfl⟩ | exact rfl
    · rintro m s ⟨rfl, rfl⟩
      simp -implicitDefEqProofs only [go_sem, z0']
  | some k =>
    have he := c255_c k (h k rfl)
    simp -implicitDefEqProofs only [go_sem, bne_self_eq_false]
    refine jv_lp (fun m s => ∃ i : Nat, i ≤ 1 ∧ m = 1 - i ∧ s = ⟨27, [(0, .blk 1000000 0 [] 11 0 1), (1, .blk 1000001 0 [] 11 0 1), (5, vI i)], [(1000000, 0, one ⟨11, [k.cs (.blk 1000002 0 [] 4 0 k.proof.length)], 0, false⟩), (1000001, 0, one ⟨11, [k.cs (.blk 1000003 0 [] 4 0 k.proof.length)], 0, false⟩), (1000002, 0, one ⟨4, k.proof.map MDig.cs, 2, false⟩), (1000003, 0, one ⟨4, k.proof.map MDig.cs, 2, false⟩)], 1⟩) 1 ?_ ?_
    · simp -implicitDefEqProofs only [go_sem]
      exact ⟨0, by omega, rfl, rfl⟩
    · rintro m s ⟨i, hi, rfl, rfl⟩
      have hi' : i = 0 ∨ i = 1 := by omega
      rcases hi' with rfl | rfl
      · simp -implicitDefEqProofs only [go_sem, z1', wz]
        refine Want.intro he ?_
        simp -implicitDefEqProofs only [go_sem, z1', wz]
        exact ⟨0, by omega, 1, by omega, rfl, rfl⟩
      · simp -implicitDefEqProofs only [go_sem, z2']
theorem zwKeep {z : Int} (hz : 0 ≤ z ∧ z ≤ 9000000000000) : IntKind.i64.wrap (z + 1) = z + 1 ∧ IntKind.i64.wrap (z + 1 + 1) = z + 1 + 1 ∧ IntKind.i64.wrap (z + 1 + 1 + 1) = z + 1 + 1 + 1 ∧ IntKind.i64.wrap (z + 1 + 1 + 1 + 1) = z + 1 + 1 + 1 + 1 ∧ IntKind.i64.wrap (z + 1 + 1 + 1 + 1 + 1) = z + 1 + 1 + 1 + 1 + 1 ∧ IntKind.i64.wrap (z + 1 + 1 + 1 + 1 + 1 + 1) = z + 1 + 1 + 1 + 1 + 1 + 1 ∧ IntKind.i64.wrap (z + 1 + 1 + 1 + 1 + 1 + 1 + 1) = z + 1 + 1 + 1 + 1 + 1 + 1 + 1 ∧ IntKind.i64.wrap (z + 1 + 1 + 1 + 1 + 1 + 1 + 1 + 1) = z + 1 + 1 + 1 + 1 + 1 + 1 + 1 + 1 ∧ IntKind.i64.wrap (z + 1 + 1 + 1 + 1 + 1 + 1 + 1 + 1 + 1) = z + 1 + 1 + 1 + 1 + 1 + 1 + 1 + 1 + 1 ∧ IntKind.i64.wrap (z + 1 + 1 + 1 + 1 + 1 + 1 + 1 + 1 + 1 + 1) = z + 1 + 1 + 1 + 1 + 1 + 1 + 1 + 1 + 1 + 1 ∧ IntKind.u64.wrap (z + 1) = ((z + 1).toNat : Int) ∧ IntKind.u64.wrap (z + 1 + 1) = ((z + 1 + 1).toNat : Int) ∧ IntKind.u64.wrap (z + 1 + 1 + 1) = ((z + 1 + 1 + 1).toNat : Int) ∧ IntKind.u64.wrap (z + 1 + 1 + 1 + 1) = ((z + 1 + 1 + 1 + 1).toNat : Int) ∧ IntKind.u64.wrap (z + 1 + 1 + 1 + 1 + 1 + 1) = ((z + 1 + 1 + 1 + 1 + 1 + 1).toNat : Int) ∧ IntKind.u64.wrap (z + 1 + 1 + 1 + 1 + 1 + 1 + 1) = ((z + 1 + 1 + 1 + 1 + 1 + 1 + 1).toNat : Int) ∧ IntKind.u64.wrap (z + 1 + 1 + 1 + 1 + 1 + 1 + 1 + 1) = ((z + 1 + 1 + 1 + 1 + 1 + 1 + 1 + 1).toNat : Int) ∧ IntKind.u64.wrap (z + 1 + 1 + 1 + 1 + 1 + 1 + 1 + 1 + 1) = ((z + 1 + 1 + 1 + 1 + 1 + 1 + 1 + 1 + 1).toNat : Int) := ⟨wrS (by omega), wrS (by omega), wrS (by omega), wrS (by omega), wrS (by omega), wrS (by omega), wrS (by omega), wrS (by omega), wrS (by omega), wrS (by omega), u64_of (by omega), u64_of (by omega), u64_of (by omega), u64_of (by omega), u64_of (by omega), u64_of (by omega), u64_of (by omega), u64_of (by omega)⟩
def mkK (k : MKeep) (z : Int) : MKeep := ⟨⟨z, ⟨(z + 1).toNat, (z + 1 + 1).toNat, (z + 1 + 1 + 1).toNat, (z + 1 + 1 + 1 + 1).toNat⟩⟩, ⟨z + 1 + 1 + 1 + 1 + 1, ⟨(z + 1 + 1 + 1 + 1 + 1 + 1).toNat, (z + 1 + 1 + 1 + 1 + 1 + 1 + 1).toNat, (z + 1 + 1 + 1 + 1 + 1 + 1 + 1 + 1).toNat, (z + 1 + 1 + 1 + 1 + 1 + 1 + 1 + 1 + 1).toNat⟩⟩, (gMark mkDig k.proof.length (z + 1 + 1 + 1 + 1 + 1 + 1 + 1 + 1 + 1 + 1)).1⟩
def mkKn (k : MKeep) (z : Int) : Int := (gMark mkDig k.proof.length (z + 1 + 1 + 1 + 1 + 1 + 1 + 1 + 1 + 1 + 1)).2
theorem mkKn_num (k : MKeep) (z : Int) : mkKn k z = z + 10 + 4 * k.proof.length := by
  unfold mkKn
  rw [mkDig_num]
  omega
theorem mkK_len (k : MKeep) (z : Int) : (mkK k z).proof.length = k.proof.length := gMark_len
/-- What was kept, marked. -/
def mkO : Option MKeep → Int → Option MKeep × Int
  | none, z => (none, z)
  | some k, z => (some (mkK k z), mkKn k z)
theorem c173_c (o : Option MKeep) (z : Int) (h : ∀ k, o = some k → k.proof.length ≤ 2000000) (hz : 0 ≤ z ∧ z ≤ 9000000000) : CallM Tryz.prog 173 ([(1000000, 0, one (kRow o 1000001))] ++ kSig o 1000001) [.blk 1000000 0 [] 11 0 o.toList.length, vI z] (vI (mkO o z).2) ([(1000000, 0, one (kRow (mkO o z).1 1000001))] ++ kSig (mkO o z).1 1000001) := by
  refine use_of dcLU false Tryz.f173 ?_
  conv => enter [1]; reduce
  refine jvM Tryz.f173 122 [.tmp 4] (by kernel_rfl) (by decide +kernel) rfl ?_
  have z0' : ¬ (((0 : Nat) : Int) < ((0 : Nat) : Int)) := by decide
  have z1' : (((0 : Nat) : Int) < ((1 : Nat) : Int)) := by decide
  have z2' : ¬ (((1 : Nat) : Int) < ((1 : Nat) : Int)) := by decide
  have wz : IntKind.i64.wrap (((0 : Nat) : Int) + 1) = ((1 : Nat) : Int) := by decide
  cases o with
  | none =>
    simp -implicitDefEqProofs only [go_sem, mkO]
    refine jv_lp (fun m s => m = 0 ∧ s = ⟨122, [(0, .blk 1000000 0 [] 11 0 0), (1, vI z), (5, vI ((0 : Nat) : Int))], [(1000000, 0, one ⟨11, [], 2, false⟩)], 1⟩) 0 ?_ ?_
    · simp -implicitDefEqProofs only [go_sem]
      first | exact ⟨rfl, rfl⟩ | exact rfl
    · rintro m s ⟨rfl, rfl⟩
      simp -implicitDefEqProofs only [go_sem, z0']
  | some k =>
    have hk := h k rfl
    obtain ⟨h1, h2, h3, h4, h5, h6, h7, h8, h9, h10, u1, u2, u3, u4, u6, u7, u8, u9⟩ := zwKeep (z := z) (by omega)
    have hm := c258_c k.proof (z + 1 + 1 + 1 + 1 + 1 + 1 + 1 + 1 + 1 + 1) (by unfold maxLen; omega) (by omega)
    have hlen := mkK_len k z
    simp -implicitDefEqProofs only [go_sem, mkO]
    refine jv_lp (fun m s => (m = 1 ∧ s = ⟨122, [(0, .blk 1000000 0 [] 11 0 1), (1, vI z), (5, vI ((0 : Nat) : Int))], [(1000000, 0, one ⟨11, [k.cs (.blk 1000001 0 [] 4 0 k.proof.length)], 0, false⟩), (1000001, 0, one ⟨4, k.proof.map MDig.cs, 2, false⟩)], 1⟩) ∨ (m = 0 ∧ s = ⟨122, [(0, .blk 1000000 0 [] 11 0 1), (1, vI (mkKn k z)), (5, vI ((1 : Nat) : Int))], [(1000000, 0, one ⟨11, [(mkK k z).cs (.blk 1000001 0 [] 4 0 k.proof.length)], 0, false⟩), (1000001, 0, one ⟨4, (mkK k z).proof.map MDig.cs, 2, false⟩)], 1⟩)) 1 ?_ ?_
    · simp -implicitDefEqProofs only [go_sem]
      first | exact .inl ⟨rfl, rfl⟩ | exact .inl rfl
    · rintro m s (⟨rfl, rfl⟩ | ⟨rfl, rfl⟩)
      · simp -implicitDefEqProofs only [go_sem, z1', wz, h1, h2, h3, h4, h5, h6, h7, h8, h9, h10, u1, u2, u3, u4, u6, u7, u8, u9]
        refine WantM.intro hm ?_
        simp -implicitDefEqProofs only [go_sem, z1', wz]
        exact ⟨0, by omega, .inr ⟨rfl, rfl⟩⟩
      · simp -implicitDefEqProofs only [go_sem, z2', hlen]
end Go.Proofs.YtjlhdfciklnndaaGreat.E
