/-
  Contracts: a message read, in the program.
-/
import Derived.Test.YtjlhdfciklnndaaGreatD4
namespace Go.Proofs.YtjlhdfciklnndaaGreat.E
open Go Go.RowKit
set_option maxHeartbeats 4000000
set_option maxRecDepth 10000
set_option linter.unusedSimpArgs false
set_option linter.unusedVariables false
set_option linter.unusedSectionVars false
def dcD5 : Dec := ⟨[(107, .cm [true, false]), (110, .cm [true, false, false, false]), (111, .cm [true])], [9, 10, 11], [27, 30, 44, 45, 46, 58, 68, 78, 79, 86, 101, 112, 113, 132, 174, 196, 247, 249, 351, 356], false⟩

theorem c112_c (l : List MDig) (hl : l.length * 32 ≤ 140737488355328) : CallR Tryz.prog 112 [.ro 4 (l.map MDig.cs)] (.blk 0 0 [] 4 0 l.length) [([], ⟨4, l.map MDig.cs, 2, false⟩)] := by
  refine use_of dcD5 false Tryz.f112 ?_
  conv => enter [1]; reduce
  refine jvR Tryz.f112 14 [.tmp 2] (by kernel_rfl) (by decide +kernel) rfl ?_
  simp -implicitDefEqProofs only [go_sem]
  refine condJ_intro (fun h => ?_) (fun h => ?_)
  · have : l = [] := by simpa using h
    subst this
    simp -implicitDefEqProofs only [go_sem]
  · have hm := ok_len hl (by omega)
    have hmk : ((32 : Nat) : Int) * (l.length : Int) ≤ 281474976710656 ∧ (l.length : Int) ≤ 9223372036854775807 := by unfold maxLen at hm; omega
    simp -implicitDefEqProofs only [go_sem, h, hmk, List.length_replicate]
theorem c113_c (l : List ByteArray) (hl : l.length * 16 ≤ 140737488355328) : CallR Tryz.prog 113 [.ro 1 (l.map leafCs)] (.blk 0 0 [] 1 0 l.length) [([], ⟨1, l.map leafCs, 2, false⟩)] := by
  refine use_of dcD5 false Tryz.f113 ?_
  conv => enter [1]; reduce
  refine jvR Tryz.f113 14 [.tmp 2] (by kernel_rfl) (by decide +kernel) rfl ?_
  simp -implicitDefEqProofs only [go_sem]
  refine condJ_intro (fun h => ?_) (fun h => ?_)
  · have : l = [] := by simpa using h
    subst this
    simp -implicitDefEqProofs only [go_sem]
  · have hm := ok_len hl (by omega)
    have hmk : ((16 : Nat) : Int) * (l.length : Int) ≤ 281474976710656 ∧ (l.length : Int) ≤ 9223372036854775807 := by unfold maxLen at hm; omega
    simp -implicitDefEqProofs only [go_sem, h, hmk, List.length_replicate]
def pP2 (x : MRd × MMsg) : MRd × MMsg := ((mDigs (mNum x.1 1 0 16).1.toNat (mNum x.1 1 0 16).2).2, { x.2 with proof := x.2.proof ++ (mDigs (mNum x.1 1 0 16).1.toNat (mNum x.1 1 0 16).2).1 })
def pL2 (x : MRd × MMsg) : MRd × MMsg := ((mLeafs (mNum x.1 1 0 8).1.toNat (mNum x.1 1 0 8).2).2, { x.2 with leaves := x.2.leaves ++ (mLeafs (mNum x.1 1 0 8).1.toNat (mNum x.1 1 0 8).2).1 })
def pOf (c : Nat) (x : MRd × MMsg) : MRd × MMsg := match c with
  | 115 => pS x
  | 102 => pF x
  | 122 => pZ x
  | 114 => pR x
  | 99 => pC x
  | 112 => pP2 x
  | 108 => pL2 x
  | _ => x
def pRun (l : List UInt8) (x : MRd × MMsg) : MRd × MMsg := l.foldl (fun x b => pOf b.toNat x) x
theorem pRun_snoc (l : List UInt8) (b : UInt8) (x : MRd × MMsg) : pRun (l ++ [b]) x = pOf b.toNat (pRun l x) := by
  unfold pRun
  rw [List.foldl_append]
  rfl
theorem letters {k : Nat} (hk : 1 ≤ k ∧ k ≤ 8) {pos : Nat} (h : pos < (l5P (k : Int)).size) : pos ≤ 2 ∧ ∃ c, Utf8.decode (l5P (k : Int)) pos = (c, 1) ∧ (l5P (k : Int)).data.toList.take (pos + 1) = (l5P (k : Int)).data.toList.take pos ++ [UInt8.ofNat c] ∧ (UInt8.ofNat c).toNat = c ∧
    (c = 115 ∨ c = 102 ∨ c = 122 ∨ c = 114 ∨ c = 99 ∨ c = 112 ∨ c = 108) := by
  have hk' : k = 1 ∨ k = 2 ∨ k = 3 ∨ k = 4 ∨ k = 5 ∨ k = 6 ∨ k = 7 ∨ k = 8 := by omega
  have hs : (l5P (k : Int)).size ≤ 3 := by rcases hk' with rfl | rfl | rfl | rfl | rfl | rfl | rfl | rfl <;> decide
  have hp : pos = 0 ∨ pos = 1 ∨ pos = 2 := by omega
  refine ⟨by omega, ?_⟩
  rcases hk' with rfl | rfl | rfl | rfl | rfl | rfl | rfl | rfl <;> rcases hp with rfl | rfl | rfl <;>
    first
    | exact absurd h (by decide)
    | exact ⟨115, by decide, by decide, by decide, by decide⟩
    | exact ⟨102, by decide, by decide, by decide, by decide⟩
    | exact ⟨122, by decide, by decide, by decide, by decide⟩
    | exact ⟨114, by decide, by decide, by decide, by decide⟩
    | exact ⟨99, by decide, by decide, by decide, by decide⟩
    | exact ⟨112, by decide, by decide, by decide, by decide⟩
    | exact ⟨108, by decide, by decide, by decide, by decide⟩
theorem parts_run {k : Nat} (hk : 1 ≤ k ∧ k ≤ 8) (r : MRd) (z : Int) : mParts k (r, { MMsg.zero with kind := z }) = pRun ((l5P (k : Int)).data.toList.take (l5P (k : Int)).size) (r, { MMsg.zero with kind := z }) := by
  have hk' : k = 1 ∨ k = 2 ∨ k = 3 ∨ k = 4 ∨ k = 5 ∨ k = 6 ∨ k = 7 ∨ k = 8 := by omega
  rcases hk' with rfl | rfl | rfl | rfl | rfl | rfl | rfl | rfl <;> rfl
def zRow : List AV := [vI 0, vI 0, vI 0, vI 0, vU 0, vU 0, vU 0, vU 0, vI 0, .nilS, .nilS]
def mRow (m : MMsg) : List AV := [vI m.kind, vI m.session, vI m.from_, vI m.size, vU m.root.a, vU m.root.b, vU m.root.c, vU m.root.d, vI m.count, .blk 10006 0 [] 4 0 m.proof.length, .blk 20006 0 [] 1 0 m.leaves.length]
def mSig (x : MRd × MMsg) : Sig := [(2, 0, one ⟨11, [zRow], 0, false⟩), (3, 0, one ⟨2, [[vI 0, vI 0]], 0, false⟩), (4, 0, one ⟨4, [x.1.cs], 0, false⟩), (6, 0, one ⟨11, [mRow x.2], 0, false⟩), (10006, 0, one ⟨4, x.2.proof.map MDig.cs, 2, false⟩), (20006, 0, one ⟨1, x.2.leaves.map leafCs, 2, false⟩)]
attribute [go_sem] zRow mRow mSig
structure InvX (text : ByteArray) (pos : Nat) (x : MRd × MMsg) : Prop where
  rd : RdOK text x.1
  pl : x.2.proof.length ≤ 16 * pos
  ll : x.2.leaves.length ≤ 8 * pos
def MMsg.avM (m : MMsg) : AV := .agg [vI m.kind, vI m.session, vI m.from_, vI m.size, vU m.root.a, vU m.root.b, vU m.root.c, vU m.root.d, vI m.count, .blk 0 0 [] 4 0 m.proof.length, .blk 1 0 [] 1 0 m.leaves.length]
def MMsg.out (m : MMsg) : Sig := [(0, 0, one ⟨4, m.proof.map MDig.cs, 2, false⟩), (1, 0, one ⟨1, m.leaves.map leafCs, 2, false⟩)]
attribute [go_sem] MMsg.avM MMsg.out
theorem c27_c (text : ByteArray) (ht : text.size ≤ 1000000000000) : CallM Tryz.prog 27 [] [vS text] (.tup [(mWireRead text).1.avM, .agg [vI (mWireRead text).2.1, vI (mWireRead text).2.2]]) (mWireRead text).1.out := by
  refine use_of dcD5 false Tryz.f27 ?_
  conv => enter [1]; reduce
  refine jvM Tryz.f27 157 [.cell 2 70, .cell 3 72] (by kernel_rfl) (by decide +kernel) rfl ?_
  simp -implicitDefEqProofs only [go_sem]
  refine WantM.intro (c107_c ⟨text, 0, 0, 0⟩ 1 (by omega) (Nat.zero_le _) ht) ?_
  rcases Nat.eq_zero_or_pos text.size with h0 | h0
  · have hr : mRaw ⟨text, 0, 0, 0⟩ 1 = (⟨#[]⟩, ⟨text, 0, 2, (text.size : Int)⟩) := by
      unfold mRaw
      rw [if_pos rfl, if_pos (show 0 + 1 > text.size by omega)]
    have hM : mWireRead text = (.zero, 2, 0) := by unfold mWireRead; rw [if_pos h0]
    rw [hM]
    simp -implicitDefEqProofs only [go_sem, hr, h0, MMsg.zero]
    first | rfl | exact ⟨rfl, rfl⟩
  · have hr : mRaw ⟨text, 0, 0, 0⟩ 1 = (text.extract 0 1, ⟨text, 1, 0, 0⟩) := by
      unfold mRaw
      rw [if_pos rfl, if_neg (show ¬ 0 + 1 > text.size by omega)]
    have hs : (text.extract 0 1).size = 1 := by rw [ByteArray.size_extract]; omega
    have hg := data_get (s := text.extract 0 1) (i := 0) (by omega)
    rw [bN_ext h0] at hg
    have hb := bN_lt text 0
    have w1 : IntKind.i64.wrap (bN text 0 : Int) = (bN text 0 : Int) := wrS (by omega)
    have h' : ¬ text.size = 0 := by omega
    simp -implicitDefEqProofs only [go_sem, hr, hg, w1]
    refine Want.intro (c108_c _ _ _) ?_
    simp -implicitDefEqProofs only [go_sem]
    refine condJ_intro (fun h => ?_) (fun h => ?_)
    · have hin : ¬ (1 ≤ bN text 0 ∧ bN text 0 ≤ 8) := fun hh => by
        have h3 : (1 : Int) ≤ (bN text 0 : Int) ∧ (bN text 0 : Int) ≤ 8 := by omega
        simp [mIn, h3.1, h3.2] at h
      have hM : mWireRead text = (.zero, 1, 0) := by unfold mWireRead; rw [if_neg h', if_neg hin]
      rw [hM]
      simp -implicitDefEqProofs only [go_sem, h, MMsg.zero]
      first | rfl | exact ⟨rfl, rfl⟩
    · have hin : 1 ≤ bN text 0 ∧ bN text 0 ≤ 8 := by
        have : (1 : Int) ≤ (bN text 0 : Int) ∧ (bN text 0 : Int) ≤ 8 := by simpa [mIn] using h
        omega
      simp -implicitDefEqProofs only [go_sem, h, hg, w1]
      refine Want.intro (c109_c (bN text 0)) ?_
      simp -implicitDefEqProofs only [go_sem]
      refine rng_intro (l5P (bN text 0 : Int)) [0, 2, 3, 4, 6, 51] [(10006, 4), (11006, 1)] (fun r pos z => pos ≤ (l5P (bN text 0 : Int)).size ∧ ∃ X, X = pRun ((l5P (bN text 0 : Int)).data.toList.take pos) (⟨text, 1, 0, 0⟩, { MMsg.zero with kind := bN text 0 }) ∧ InvX text pos X ∧ z = ⟨157, [(0, vS text), (2, .ptr 2 0 [] 11 0 0), (3, .ptr 3 0 [] 2 0 0), (4, .ptr 4 0 [] 4 0 0), (6, .ptr 6 0 [] 11 0 0), (51, .it r)], mSig X, 1⟩) ?_ ?_ ?_ ?_ ?_ ?_
      · rfl
      · omega
      · intro r
        simp -implicitDefEqProofs only [go_sem]
        exact ⟨Nat.zero_le _, _, rfl, ⟨⟨rfl, by show 1 ≤ text.size; omega⟩, Nat.zero_le _, Nat.zero_le _⟩, rfl⟩
      · rintro r pos z ⟨-, X, -, -, rfl⟩
        exact ⟨rfl, rfl⟩
      · rintro r pos z ⟨hle, X, hX, hinv, rfl⟩ hlt
        obtain ⟨hp2, c, hd, htk, huc, hc⟩ := letters hin hlt
        have hX1 : pOf c X = pRun ((l5P (bN text 0 : Int)).data.toList.take (pos + 1)) (⟨text, 1, 0, 0⟩, { MMsg.zero with kind := bN text 0 }) := by rw [htk, pRun_snoc, huc, ← hX]
        refine ⟨c, hd, ?_⟩
        clear hX
        have hrp : X.1.p ≤ X.1.t.size := by rw [hinv.rd.t]; exact hinv.rd.p
        have hrt : X.1.t.size ≤ 1000000000000 := by rw [hinv.rd.t]; exact ht
        have hpl := hinv.pl
        have hll := hinv.ll
        rcases hc with rfl | rfl | rfl | rfl | rfl | rfl | rfl
        · have hcc : ((115 : Nat) : Int) = 115 := rfl
          simp -implicitDefEqProofs only [go_sem, hcc]
          refine WantM.intro (c110_c X.1 3 1 1000000 (by omega) hrp hrt) ?_
          simp -implicitDefEqProofs only [go_sem]
          exact ⟨hlt, pS X, hX1, ⟨hinv.rd.num _ _ _, by show X.2.proof.length ≤ _; omega, by show X.2.leaves.length ≤ _; omega⟩, rfl⟩
        · have hcc : ((102 : Nat) : Int) = 102 := rfl
          simp -implicitDefEqProofs only [go_sem, hcc]
          refine WantM.intro (c110_c X.1 2 0 256 (by omega) hrp hrt) ?_
          simp -implicitDefEqProofs only [go_sem]
          exact ⟨hlt, pF X, hX1, ⟨hinv.rd.num _ _ _, by show X.2.proof.length ≤ _; omega, by show X.2.leaves.length ≤ _; omega⟩, rfl⟩
        · have hcc : ((122 : Nat) : Int) = 122 := rfl
          simp -implicitDefEqProofs only [go_sem, hcc]
          refine WantM.intro (c110_c X.1 2 0 256 (by omega) hrp hrt) ?_
          simp -implicitDefEqProofs only [go_sem]
          exact ⟨hlt, pZ X, hX1, ⟨hinv.rd.num _ _ _, by show X.2.proof.length ≤ _; omega, by show X.2.leaves.length ≤ _; omega⟩, rfl⟩
        · have hcc : ((114 : Nat) : Int) = 114 := rfl
          simp -implicitDefEqProofs only [go_sem, hcc]
          refine WantM.intro (c111_c X.1 hrp hrt) ?_
          simp -implicitDefEqProofs only [go_sem]
          exact ⟨hlt, pR X, hX1, ⟨hinv.rd.dig, by show X.2.proof.length ≤ _; omega, by show X.2.leaves.length ≤ _; omega⟩, rfl⟩
        · have hcc : ((99 : Nat) : Int) = 99 := rfl
          simp -implicitDefEqProofs only [go_sem, hcc]
          refine WantM.intro (c110_c X.1 1 1 8 (by omega) hrp hrt) ?_
          simp -implicitDefEqProofs only [go_sem]
          exact ⟨hlt, pC X, hX1, ⟨hinv.rd.num _ _ _, by show X.2.proof.length ≤ _; omega, by show X.2.leaves.length ≤ _; omega⟩, rfl⟩
        · have hcc : ((112 : Nat) : Int) = 112 := rfl
          simp -implicitDefEqProofs only [go_sem, hcc]
          refine WantM.intro (c110_c X.1 1 0 16 (by omega) hrp hrt) ?_
          have hv := mNum_bd X.1 1 16 (by omega)
          have hr1 := hinv.rd.num 1 0 16
          have hfin : pOf 112 X = ((mDigs (mNum X.1 1 0 16).1.toNat (mNum X.1 1 0 16).2).2, { X.2 with proof := X.2.proof ++ (mDigs (mNum X.1 1 0 16).1.toNat (mNum X.1 1 0 16).2).1 }) := rfl
          generalize mNum X.1 1 0 16 = y at *
          obtain ⟨v, R⟩ := y
          simp only at hv hr1 hfin
          simp -implicitDefEqProofs only [go_sem]
          refine jv_lp (fun m z => ∃ i : Nat, i ≤ v.toNat ∧ m = v.toNat - i ∧ z = ⟨157, [(0, vS text), (2, .ptr 2 0 [] 11 0 0), (3, .ptr 3 0 [] 2 0 0), (4, .ptr 4 0 [] 4 0 0), (6, .ptr 6 0 [] 11 0 0), (9, vI (v - (i : Int))), (51, .it r)], mSig ((mDigs i R).2, { X.2 with proof := X.2.proof ++ (mDigs i R).1 }), 1⟩) v.toNat ?_ ?_
          · simp -implicitDefEqProofs only [go_sem]
            exact ⟨0, Nat.zero_le _, rfl, by simp [mDigs]⟩
          · rintro m z ⟨i, hi, rfl, rfl⟩
            have hlen := mDigs_len i R
            have hri := hr1.digs i
            rcases Nat.lt_or_ge i v.toNat with hl | hge
            · have hlt' : v - (i : Int) > 0 := by omega
              have w4 : IntKind.i64.wrap (v - (i : Int) - 1) = v - ((i + 1 : Nat) : Int) := by rw [wrS (by omega)]; omega
              have ha : ∀ x, _ := fun x => app_ok (E := MDig.cs) (l := X.2.proof ++ (mDigs i R).1) (xs := [x]) (b := 32) (n := 100) (by simp [hlen]; omega) (by omega) (by omega)
              simp -implicitDefEqProofs only [go_sem, hlt']
              refine WantM.intro (c111_c (mDigs i R).2 (by rw [hri.t]; exact hri.p) (by rw [hri.t]; exact ht)) ?_
              simp -implicitDefEqProofs only [go_sem, ha, w4]
              exact ⟨_, by omega, i + 1, hl, rfl, by simp [mDigs]; rfl⟩
            · have hi : i = v.toNat := by omega
              have hlt' : ¬ (v - (i : Int) > 0) := by omega
              simp -implicitDefEqProofs only [go_sem, hlt']
              subst hi
              rw [hfin] at hX1
              exact ⟨hlt, _, hX1, ⟨hri, by simp [hlen]; omega, by simp [hlen]; omega⟩, rfl⟩
        · have hcc : ((108 : Nat) : Int) = 108 := rfl
          simp -implicitDefEqProofs only [go_sem, hcc]
          refine WantM.intro (c110_c X.1 1 0 8 (by omega) hrp hrt) ?_
          have hv := mNum_bd X.1 1 8 (by omega)
          have hr1 := hinv.rd.num 1 0 8
          have hfin : pOf 108 X = ((mLeafs (mNum X.1 1 0 8).1.toNat (mNum X.1 1 0 8).2).2, { X.2 with leaves := X.2.leaves ++ (mLeafs (mNum X.1 1 0 8).1.toNat (mNum X.1 1 0 8).2).1 }) := rfl
          generalize mNum X.1 1 0 8 = y at *
          obtain ⟨v, R⟩ := y
          simp only at hv hr1 hfin
          simp -implicitDefEqProofs only [go_sem]
          refine jv_lp (fun m z => ∃ i : Nat, i ≤ v.toNat ∧ m = v.toNat - i ∧ z = ⟨157, [(0, vS text), (2, .ptr 2 0 [] 11 0 0), (3, .ptr 3 0 [] 2 0 0), (4, .ptr 4 0 [] 4 0 0), (6, .ptr 6 0 [] 11 0 0), (10, vI (v - (i : Int))), (51, .it r)], mSig ((mLeafs i R).2, { X.2 with leaves := X.2.leaves ++ (mLeafs i R).1 }), 1⟩) v.toNat ?_ ?_
          · simp -implicitDefEqProofs only [go_sem]
            exact ⟨0, Nat.zero_le _, rfl, by simp [mLeafs]⟩
          · rintro m z ⟨i, hi, rfl, rfl⟩
            have hlen := mLeafs_len i R
            have hri := hr1.leafs i
            rcases Nat.lt_or_ge i v.toNat with hl | hge
            · have hlt' : v - (i : Int) > 0 := by omega
              have w4 : IntKind.i64.wrap (v - (i : Int) - 1) = v - ((i + 1 : Nat) : Int) := by rw [wrS (by omega)]; omega
              have ha : ∀ x, _ := fun x => app_ok (E := leafCs) (l := X.2.leaves ++ (mLeafs i R).1) (xs := [x]) (b := 16) (n := 100) (by simp [hlen]; omega) (by omega) (by omega)
              simp -implicitDefEqProofs only [go_sem, hlt']
              refine WantM.intro (c110_c (mLeafs i R).2 1 0 40 (by omega) (by rw [hri.t]; exact hri.p) (by rw [hri.t]; exact ht)) ?_
              have hr2 := hri.num 1 0 40
              have hbd := mNum_bd (mLeafs i R).2 1 40 (by omega)
              have hcast : (mNum (mLeafs i R).2 1 0 40).1 = ((mNum (mLeafs i R).2 1 0 40).1.toNat : Int) := (Int.toNat_of_nonneg hbd.1).symm
              simp -implicitDefEqProofs only [go_sem]
              rw [hcast]
              refine WantM.intro (c107_c (mNum (mLeafs i R).2 1 0 40).2 (mNum (mLeafs i R).2 1 0 40).1.toNat (by omega) (by rw [hr2.t]; exact hr2.p) (by rw [hr2.t]; exact ht)) ?_
              simp -implicitDefEqProofs only [go_sem, ha, w4]
              exact ⟨_, by omega, i + 1, hl, rfl, by simp [mLeafs, mLeaf, leafCs]⟩
            · have hi : i = v.toNat := by omega
              have hlt' : ¬ (v - (i : Int) > 0) := by omega
              simp -implicitDefEqProofs only [go_sem, hlt']
              subst hi
              rw [hfin] at hX1
              exact ⟨hlt, _, hX1, ⟨hri, by simp [hlen]; omega, by simp [hlen]; omega⟩, rfl⟩
      · rintro r pos z ⟨hle, X, hX, hinv, rfl⟩ hge
        have hpos : pos = (l5P (bN text 0 : Int)).size := by omega
        subst hpos
        have hM : mWireRead text = mEnd text X := by
          unfold mWireRead
          rw [if_neg h', if_pos hin, parts_run hin, hX]
        have hs3 : (l5P (bN text 0 : Int)).size ≤ 3 := by
          have hk' : bN text 0 = 1 ∨ bN text 0 = 2 ∨ bN text 0 = 3 ∨ bN text 0 = 4 ∨ bN text 0 = 5 ∨ bN text 0 = 6 ∨ bN text 0 = 7 ∨ bN text 0 = 8 := by omega
          rcases hk' with e | e | e | e | e | e | e | e <;> rw [e] <;> decide
        have hpl := hinv.pl
        have hll := hinv.ll
        have hrp := hinv.rd.p
        rw [hM]
        obtain ⟨⟨t1, p1, c1, a1⟩, k1, s1, f1, z1, ⟨da, db, dc, dd⟩, n1, ps, ls⟩ := X
        have ht1 : t1 = text := hinv.rd.t
        subst t1
        simp only at hpl hll hrp
        clear hM hX hinv
        by_cases hc : c1 = 0
        · subst hc
          by_cases hp : p1 < text.size
          · have hp' : (p1 : Int) < (text.size : Int) := by omega
            rw [show mEnd text (⟨text, p1, 0, a1⟩, ⟨k1, s1, f1, z1, ⟨da, db, dc, dd⟩, n1, ps, ls⟩) = (.zero, 4, (p1 : Int)) from by simp [mEnd, hp]]
            simp -implicitDefEqProofs only [go_sem, hp', MMsg.zero]
            first | done | rfl | exact ⟨rfl, rfl⟩
          · have hp' : ¬ (p1 : Int) < (text.size : Int) := by omega
            rw [show mEnd text (⟨text, p1, 0, a1⟩, ⟨k1, s1, f1, z1, ⟨da, db, dc, dd⟩, n1, ps, ls⟩) = (⟨k1, s1, f1, z1, ⟨da, db, dc, dd⟩, n1, ps, ls⟩, 0, 0) from by simp [mEnd, hp]]
            simp -implicitDefEqProofs only [go_sem, hp']
            refine Want.intro (c112_c ps (by omega)) ?_
            simp -implicitDefEqProofs only [go_sem]
            refine Want.intro (c113_c ls (by omega)) ?_
            simp -implicitDefEqProofs only [go_sem]
            first | done | rfl | exact ⟨rfl, rfl⟩
        · have hc1 : (c1 == 0) = false := by simpa using hc
          have hc2 : (c1 != 0) = true := by simpa using hc
          rw [show mEnd text (⟨text, p1, c1, a1⟩, ⟨k1, s1, f1, z1, ⟨da, db, dc, dd⟩, n1, ps, ls⟩) = (.zero, c1, a1) from by simp [mEnd, hc]]
          simp -implicitDefEqProofs only [go_sem, hc1, hc2, MMsg.zero]
          first | done | rfl | exact ⟨rfl, rfl⟩
end Go.Proofs.YtjlhdfciklnndaaGreat.E
