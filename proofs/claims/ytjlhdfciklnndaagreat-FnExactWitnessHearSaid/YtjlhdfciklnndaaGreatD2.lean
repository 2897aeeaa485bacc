/-
  Contracts: readers of the wire.
-/
import Derived.Test.YtjlhdfciklnndaaGreatD1
namespace Go.Proofs.YtjlhdfciklnndaaGreat.E
open Go Go.RowKit
set_option maxHeartbeats 4000000
set_option maxRecDepth 10000
set_option linter.unusedSimpArgs false
set_option linter.unusedVariables false
set_option linter.unusedSectionVars false
def dcD2 : Dec := ⟨[(107, .cm [true, false]), (158, .cm [true, false]), (159, .cm [true, false, false])], [9, 10, 11], [27, 30, 44, 45, 46, 58, 68, 78, 79, 86, 101, 112, 113, 132, 174, 196, 247, 249, 351, 356], false⟩

def mIn (a b c : Int) : Bool := decide (b ≤ a) && decide (a ≤ c)
structure MRd where
  t : ByteArray
  p : Nat
  code : Int
  at_ : Int
def MRd.cs (r : MRd) : List AV := [vS r.t, vI r.p, vI r.code, vI r.at_]
def MRd.row (r : MRd) : Sig := [(1000000, 0, one ⟨4, [r.cs], 0, false⟩)]
attribute [go_sem] MRd.cs MRd.row
abbrev vP : AV := .ptr 1000000 0 [] 4 0 0
def mFail (r : MRd) (c a : Int) : MRd := if r.code = 0 then ⟨r.t, r.p, c, a⟩ else r
def mRaw (r : MRd) (n : Nat) : ByteArray × MRd := if r.code = 0 then (if r.p + n > r.t.size then (⟨#[]⟩, ⟨r.t, r.p, 2, r.t.size⟩) else (r.t.extract r.p (r.p + n), ⟨r.t, r.p + n, r.code, r.at_⟩)) else (⟨#[]⟩, r)
theorem c143_c (a b c : Int) : CallR Tryz.prog 143 [vI a, vI b, vI c] (vB (mIn a b c)) [] := by
  refine use_of dcD2 false Tryz.f143 ?_
  conv => enter [1]; reduce
  refine jvR Tryz.f143 15 [.tmp 6] (by kernel_rfl) (by decide +kernel) rfl ?_
  simp -implicitDefEqProofs only [go_sem]
  refine guardP_intro (fun h => ?_) (fun h => ?_)
  · simp -implicitDefEqProofs only [go_sem, h]
    simp_all [mIn]
  · simp -implicitDefEqProofs only [go_sem, h]
    simp_all [mIn]
    omega
theorem c108_c (a b c : Int) : CallR Tryz.prog 108 [vI a, vI b, vI c] (vB (mIn a b c)) [] := by
  refine use_of dcD2 false Tryz.f108 ?_
  conv => enter [1]; reduce
  refine jvR Tryz.f108 15 [.tmp 6] (by kernel_rfl) (by decide +kernel) rfl ?_
  simp -implicitDefEqProofs only [go_sem]
  refine guardP_intro (fun h => ?_) (fun h => ?_)
  · simp -implicitDefEqProofs only [go_sem, h]
    simp_all [mIn]
  · simp -implicitDefEqProofs only [go_sem, h]
    simp_all [mIn]
    omega
theorem c159_c (r : MRd) (c a : Int) : CallM Tryz.prog 159 r.row [vP, vI c, vI a] (.tup []) (mFail r c a).row := by
  refine use_of dcD2 false Tryz.f159 ?_
  conv => enter [1]; reduce
  refine jvM Tryz.f159 18 [] (by kernel_rfl) (by decide +kernel) rfl ?_
  simp -implicitDefEqProofs only [go_sem]
  refine condJ_intro (fun h => ?_) (fun h => ?_)
  · have h' : r.code = 0 := by simpa using h
    simp -implicitDefEqProofs only [go_sem, h, mFail, h']
  · have h' : ¬ r.code = 0 := by simpa using h
    simp -implicitDefEqProofs only [go_sem, h, mFail, h']
theorem c158_c (r : MRd) (n : Nat) (hn : n ≤ 1000) (hp : r.p ≤ r.t.size) (ht : r.t.size ≤ 1000000000000) : CallM Tryz.prog 158 r.row [vP, vI n] (vS (mRaw r n).1) (mRaw r n).2.row := by
  refine use_of dcD2 false Tryz.f158 ?_
  conv => enter [1]; reduce
  refine jvM Tryz.f158 56 [.tmp 4] (by kernel_rfl) (by decide +kernel) rfl ?_
  simp -implicitDefEqProofs only [go_sem]
  refine condJ_intro (fun h => ?_) (fun h => ?_)
  · have h' : ¬ r.code = 0 := by simpa using h
    simp -implicitDefEqProofs only [go_sem, h, mRaw, h']
  · have h' : r.code = 0 := by simpa using h
    have hw1 : IntKind.i64.wrap ((r.t.size : Int) - r.p) = (r.t.size : Int) - r.p := wrS (by omega)
    have hw2 : IntKind.i64.wrap ((r.p : Int) + n) = ((r.p + n : Nat) : Int) := by rw [wrS (by omega)]; rfl
    simp -implicitDefEqProofs only [go_sem, h, hw1, hw2]
    refine condJ_intro (fun h => ?_) (fun h => ?_)
    · have hd : r.p + n > r.t.size := by have := of_decide_eq_true h; omega
      simp -implicitDefEqProofs only [go_sem, h]
      refine WantM.intro (c159_c r 2 r.t.size) ?_
      simp -implicitDefEqProofs only [go_sem, mFail, h', mRaw, hd]
    · have hd : ¬ r.p + n > r.t.size := by have := of_decide_eq_false h; omega
      have hsl : (r.p : Int) ≤ ((r.p + n : Nat) : Int) ∧ ((r.p + n : Nat) : Int) ≤ (r.t.size : Int) := by omega
      simp -implicitDefEqProofs only [go_sem, h, hw1, hw2, mRaw, h', hd, hsl]
theorem c107_c (r : MRd) (n : Nat) (hn : n ≤ 1000) (hp : r.p ≤ r.t.size) (ht : r.t.size ≤ 1000000000000) : CallM Tryz.prog 107 r.row [vP, vI n] (vS (mRaw r n).1) (mRaw r n).2.row := by
  refine use_of dcD2 false Tryz.f107 ?_
  conv => enter [1]; reduce
  refine jvM Tryz.f107 55 [.tmp 4] (by kernel_rfl) (by decide +kernel) rfl ?_
  simp -implicitDefEqProofs only [go_sem]
  refine condJ_intro (fun h => ?_) (fun h => ?_)
  · have h' : ¬ r.code = 0 := by simpa using h
    simp -implicitDefEqProofs only [go_sem, h, mRaw, h']
  · have h' : r.code = 0 := by simpa using h
    have hw2 : IntKind.i64.wrap ((r.p : Int) + n) = ((r.p + n : Nat) : Int) := by rw [wrS (by omega)]; rfl
    have hw3 : IntKind.i64.wrap (((r.p + n : Nat) : Int) - n) = (r.p : Int) := by rw [wrS (by omega)]; omega
    simp -implicitDefEqProofs only [go_sem, h, hw2]
    refine condJ_intro (fun h => ?_) (fun h => ?_)
    · have hd : r.p + n > r.t.size := by have := of_decide_eq_true h; omega
      simp -implicitDefEqProofs only [go_sem, h, h', mRaw, hd]
    · have hd : ¬ r.p + n > r.t.size := by have := of_decide_eq_false h; omega
      have hsl : (r.p : Int) ≤ ((r.p + n : Nat) : Int) ∧ ((r.p + n : Nat) : Int) ≤ (r.t.size : Int) := by omega
      simp -implicitDefEqProofs only [go_sem, h, hw2, hw3, mRaw, h', hd, hsl]
def numN (s : ByteArray) : Nat → Nat
  | 0 => 0
  | k + 1 => 256 * numN s k + bN s k
theorem numN_lt (s : ByteArray) (k : Nat) : numN s k < 256 ^ k := by
  induction k with
  | zero => simp [numN]
  | succ k ih =>
    have := bN_lt s k
    simp only [numN, Nat.pow_succ]
    omega
theorem numN_lt3 (s : ByteArray) {k : Nat} (h : k ≤ 3) : numN s k < 16777216 := Nat.lt_of_lt_of_le (numN_lt s k) (by
  have : 256 ^ k ≤ 256 ^ 3 := Nat.pow_le_pow_right (by omega) h
  omega)
def mNum (r : MRd) (n : Nat) (low high : Int) : Int × MRd :=
  if (mRaw r n).2.code = 0 then
    (if mIn (numN (mRaw r n).1 (mRaw r n).1.size) low high then (numN (mRaw r n).1 (mRaw r n).1.size, (mRaw r n).2) else (0, ⟨(mRaw r n).2.t, (mRaw r n).2.p, 3, r.p⟩))
  else (0, (mRaw r n).2)
theorem mRaw_size (r : MRd) (n : Nat) : (mRaw r n).1.size ≤ n := by
  unfold mRaw
  split
  · split
    · simp [ByteArray.size]
    · rw [ByteArray.size_extract]; omega
  · simp [ByteArray.size]
theorem c110_c (r : MRd) (n : Nat) (low high : Int) (hn : n ≤ 3) (hp : r.p ≤ r.t.size) (ht : r.t.size ≤ 1000000000000) : CallM Tryz.prog 110 r.row [vP, vI n, vI low, vI high] (vI (mNum r n low high).1) (mNum r n low high).2.row := by
  refine use_of dcD2 false Tryz.f110 ?_
  conv => enter [1]; reduce
  refine jvM Tryz.f110 50 [.tmp 8] (by kernel_rfl) (by decide +kernel) rfl ?_
  simp -implicitDefEqProofs only [go_sem]
  refine WantM.intro (c107_c r n (by omega) hp ht) ?_
  have hsz := mRaw_size r n
  unfold mNum
  generalize mRaw r n = x at *
  obtain ⟨b, t1, p1, c1, a1⟩ := x
  simp only at *
  simp -implicitDefEqProofs only [go_sem]
  refine condJ_intro (fun h => ?_) (fun h => ?_)
  · have h' : ¬ c1 = 0 := by simpa using h
    simp -implicitDefEqProofs only [go_sem, h, h']
  · have h' : c1 = 0 := by simpa using h
    subst h'
    simp -implicitDefEqProofs only [go_sem, h]
    refine jv_lp (fun m z => ∃ k, k ≤ b.size ∧ m = b.size - k ∧ z = ⟨50, [(0, vP), (2, vI low), (3, vI high), (9, vI r.p), (10, vS b), (11, vI (numN b k)), (12, vI k)], [(1000000, 0, one ⟨4, [[vS t1, vI p1, vI 0, vI a1]], 0, false⟩)], 1⟩) b.size ?_ ?_
    · simp -implicitDefEqProofs only [go_sem]
      exact ⟨0, Nat.zero_le _, rfl, rfl⟩
    · rintro m z ⟨k, hk, rfl, rfl⟩
      rcases Nat.lt_or_ge k b.size with hlt | hge
      · have hlt' : (k : Int) < (b.size : Int) := by omega
        have hg := data_get (s := b) (i := k) hlt
        have hb := bN_lt b k
        have hv := numN_lt3 b (k := k) (by omega)
        have w1 : IntKind.i64.wrap (bN b k : Int) = (bN b k : Int) := wrS (by omega)
        have w2 : IntKind.i64.wrap (256 * (numN b k : Int)) = ((256 * numN b k : Nat) : Int) := by rw [wrS (by omega)]; omega
        have w3 : IntKind.i64.wrap (((256 * numN b k : Nat) : Int) + (bN b k : Int)) = ((256 * numN b k + bN b k : Nat) : Int) := by rw [wrS (by omega)]; omega
        have w4 : IntKind.i64.wrap ((k : Int) + 1) = ((k + 1 : Nat) : Int) := by rw [wrS (by omega)]; omega
        simp -implicitDefEqProofs only [go_sem, hlt', hg, w1, w2, w3, w4]
        exact ⟨_, by omega, k + 1, hlt, rfl, rfl⟩
      · have hk : k = b.size := by omega
        subst hk
        have hlt' : ¬ ((b.size : Int) < (b.size : Int)) := by omega
        simp -implicitDefEqProofs only [go_sem, hlt']
        refine Want.intro (c108_c _ _ _) ?_
        simp -implicitDefEqProofs only [go_sem]
        cases hin : mIn (numN b b.size : Int) low high with
        | true => simp -implicitDefEqProofs only [go_sem, hin, condJ_true, condJ_false]
        | false => simp -implicitDefEqProofs only [go_sem, hin, condJ_true, condJ_false]
theorem c156_c (r : MRd) (n : Nat) (low high : Int) (hn : n ≤ 3) (hp : r.p ≤ r.t.size) (ht : r.t.size ≤ 1000000000000) : CallM Tryz.prog 156 r.row [vP, vI n, vI low, vI high] (vI (mNum r n low high).1) (mNum r n low high).2.row := by
  refine use_of dcD2 false Tryz.f156 ?_
  conv => enter [1]; reduce
  refine jvM Tryz.f156 56 [.tmp 8] (by kernel_rfl) (by decide +kernel) rfl ?_
  simp -implicitDefEqProofs only [go_sem]
  refine WantM.intro (c158_c r n (by omega) hp ht) ?_
  have hsz := mRaw_size r n
  unfold mNum
  generalize mRaw r n = x at *
  obtain ⟨b, t1, p1, c1, a1⟩ := x
  simp only at *
  simp -implicitDefEqProofs only [go_sem]
  refine jv_lp (fun m z => ∃ k, k ≤ b.size ∧ m = b.size - k ∧ z = ⟨56, [(0, vP), (2, vI low), (3, vI high), (9, vI r.p), (10, vS b), (11, vI (numN b k)), (12, vI k)], [(1000000, 0, one ⟨4, [[vS t1, vI p1, vI c1, vI a1]], 0, false⟩)], 1⟩) b.size ?_ ?_
  · simp -implicitDefEqProofs only [go_sem]
    exact ⟨0, Nat.zero_le _, rfl, rfl⟩
  · rintro m z ⟨k, hk, rfl, rfl⟩
    rcases Nat.lt_or_ge k b.size with hlt | hge
    · have hlt' : (k : Int) < (b.size : Int) := by omega
      have hg := data_get (s := b) (i := k) hlt
      have hb := bN_lt b k
      have hv := numN_lt3 b (k := k) (by omega)
      have w1 : IntKind.i64.wrap (bN b k : Int) = (bN b k : Int) := wrS (by omega)
      have w2 : IntKind.i64.wrap (256 * (numN b k : Int)) = ((256 * numN b k : Nat) : Int) := by rw [wrS (by omega)]; omega
      have w3 : IntKind.i64.wrap (((256 * numN b k : Nat) : Int) + (bN b k : Int)) = ((256 * numN b k + bN b k : Nat) : Int) := by rw [wrS (by omega)]; omega
      have w4 : IntKind.i64.wrap ((k : Int) + 1) = ((k + 1 : Nat) : Int) := by rw [wrS (by omega)]; omega
      simp -implicitDefEqProofs only [go_sem, hlt', hg, w1, w2, w3, w4]
      exact ⟨_, by omega, k + 1, hlt, rfl, rfl⟩
    · have hk : k = b.size := by omega
      subst hk
      have hlt' : ¬ ((b.size : Int) < (b.size : Int)) := by omega
      simp -implicitDefEqProofs only [go_sem, hlt']
      refine guardP_intro (fun h => ?_) (fun h => ?_)
      · have h' : c1 = 0 := by simpa using h
        subst h'
        simp -implicitDefEqProofs only [go_sem]
        refine Want.intro (c143_c _ _ _) ?_
        simp -implicitDefEqProofs only [go_sem]
        cases hin : mIn (numN b b.size : Int) low high with
        | true => simp -implicitDefEqProofs only [go_sem, hin, condJ_true, condJ_false, bne_self_eq_false]
        | false =>
          simp -implicitDefEqProofs only [go_sem, hin, condJ_true, condJ_false]
          refine WantM.intro (c159_c ⟨t1, p1, 0, a1⟩ 3 r.p) ?_
          simp -implicitDefEqProofs only [go_sem, mFail, condJ_true, condJ_false]
      · have h' : ¬ c1 = 0 := by simpa using h
        have h2 : (c1 != 0) = true := by simpa using h'
        simp -implicitDefEqProofs only [go_sem, h, h', h2, condJ_true, condJ_false]
def mDigR (r : MRd) : MDig × MRd := ((mHashBack (mRaw r 32).1).1, (mRaw r 32).2)
theorem c157_c (r : MRd) (hp : r.p ≤ r.t.size) (ht : r.t.size ≤ 1000000000000) : CallM Tryz.prog 157 r.row [vP] (.agg (mDigR r).1.cs) (mDigR r).2.row := by
  refine use_of dcD2 false Tryz.f157 ?_
  conv => enter [1]; reduce
  refine jvM Tryz.f157 12 [.cell 2 37] (by kernel_rfl) (by decide +kernel) rfl ?_
  simp -implicitDefEqProofs only [go_sem]
  refine WantM.intro (c158_c r 32 (by omega) hp ht) ?_
  have hsz := mRaw_size r 32
  unfold mDigR
  generalize mRaw r 32 = x at *
  obtain ⟨b, t1, p1, c1, a1⟩ := x
  simp only at *
  simp -implicitDefEqProofs only [go_sem]
  refine Want.intro (c250_c b (by omega)) ?_
  simp -implicitDefEqProofs only [go_sem]
theorem c111_c (r : MRd) (hp : r.p ≤ r.t.size) (ht : r.t.size ≤ 1000000000000) : CallM Tryz.prog 111 r.row [vP] (.agg (mDigR r).1.cs) (mDigR r).2.row := by
  refine use_of dcD2 false Tryz.f111 ?_
  conv => enter [1]; reduce
  refine jvM Tryz.f111 12 [.cell 2 37] (by kernel_rfl) (by decide +kernel) rfl ?_
  simp -implicitDefEqProofs only [go_sem]
  refine WantM.intro (c107_c r 32 (by omega) hp ht) ?_
  have hsz := mRaw_size r 32
  unfold mDigR
  generalize mRaw r 32 = x at *
  obtain ⟨b, t1, p1, c1, a1⟩ := x
  simp only at *
  simp -implicitDefEqProofs only [go_sem]
  refine Want.intro (c205_c b (by omega)) ?_
  simp -implicitDefEqProofs only [go_sem]
end Go.Proofs.YtjlhdfciklnndaaGreat.E
