/-
  Contracts: leaves that are drawn.
-/
import Derived.Test.YtjlhdfciklnndaaGreatD16
import Derived.Test.YtjlhdfciklnndaaGreatH3
namespace Go.Proofs.YtjlhdfciklnndaaGreat.E
open Go Go.RowKit
set_option maxHeartbeats 4000000
set_option maxRecDepth 10000
set_option linter.unusedSimpArgs false
set_option linter.unusedVariables false
set_option linter.unusedSectionVars false
def dcM1 : Dec := ⟨[(94, .cm [true]), (95, .cm [true, false]), (201, .cm [false]), (220, .cm [true, false]), (246, .cm [true, false]), (291, .cm [true])], [9, 10, 11], [27, 30, 44, 45, 46, 58, 68, 78, 79, 86, 101, 112, 113, 132, 174, 196, 247, 249, 351, 356], false⟩


def Dr.r2 (r : Dr) : Sig := [(1000000, 0, one ⟨1, [[.ptr 1000001 0 [] 2 0 0]], 0, false⟩), (1000001, 0, one ⟨2, [r.cs], 0, false⟩)]
abbrev vL : AV := .ptr 1000000 0 [] 1 0 0
attribute [go_sem] Dr.r2
def PostLf (r : Dr) (res : AV) (σ : Sig) : Prop := ∃ (t : ByteArray) (r' : Dr), (res = vS t ∧ σ = r'.r2) ∧ r'.ok (r.p + 10)
theorem b109 : (⟨#[109]⟩ : ByteArray) = bA [109] := rfl
theorem b108 : (⟨#[108]⟩ : ByteArray) = bA [108] := rfl
theorem c291_c (r : Dr) (h : r.ok 700000000) : ∃ res σ, PostLf r res σ ∧ CallM Tryz.prog 291 r.r2 [vL] res σ := by
  refine use_of dcM1 false Tryz.f291 ?_
  conv => enter [1]; reduce
  refine jvX Tryz.f291 15 [.tmp 2] (PostLf r) (by kernel_rfl) (by decide +kernel) (by kernel_rfl) rfl ?_
  have hp := h.2
  have hb := h.1
  have ok : ∀ i, i ≤ 1000 → (r.adv i).ok 1000000000 := fun i hi => (h.adv i).le (by omega)
  simp -implicitDefEqProofs only [go_sem]
  refine WantM.intro (pickM 10 (ok 0 (by omega))) ?_
  simp -implicitDefEqProofs only [go_sem]
  refine condJ_intro (fun g => ?_) (fun g => ?_)
  · simp -implicitDefEqProofs only [go_sem, g, b109]
    refine Want.intro (c221_c [109] 40 (by omega) (by simp)) ?_
    simp -implicitDefEqProofs only [go_sem]
    refine RetAt.intro (vS (bA (rep [109] 40))) (r.adv 1).r2 ⟨bA (rep [109] 40), r.adv 1, ⟨rfl, rfl⟩, hb, by show r.p + 1 ≤ _; omega⟩ ?_
    simp -implicitDefEqProofs only [go_sem]
  · simp -implicitDefEqProofs only [go_sem, g]
    have ht := tx_ok (r.adv 1) 5 (h.adv 1) (by omega) (by omega)
    have hts := tx_ok (r.adv 1) 5 (a := r.p + 1) ⟨hb, Nat.le_refl _⟩ (by omega) (by omega)
    refine WantM.intro (c246_c (r.adv 1) 5 ((h.adv 1).le (by omega)) (by omega)) ?_
    simp -implicitDefEqProofs only [go_sem]
    refine RetAt.intro (vS (tx (r.adv 1) 5).1) (tx (r.adv 1) 5).2.r2 ⟨(tx (r.adv 1) 5).1, (tx (r.adv 1) 5).2, ⟨rfl, rfl⟩, hts.1.le (by show r.p + 1 + 1 + 5 ≤ _; omega)⟩ ?_
    simp -implicitDefEqProofs only [go_sem]
def PostLs (r : Dr) (n : Nat) (res : AV) (σ : Sig) : Prop := ∃ (l : List ByteArray) (r' : Dr), (res = .blk 0 0 [] 1 0 l.length ∧ σ = r'.r2 ++ [(0, 0, one ⟨1, l.map leafCs, 2, false⟩)]) ∧ l.length = n ∧ r'.ok (r.p + 10 * n)
theorem c220_c (r : Dr) (n : Nat) (hn : n ≤ 100) (h : r.ok 600000000) : ∃ res σ, PostLs r n res σ ∧ CallM Tryz.prog 220 r.r2 [vL, vI n] res σ := by
  refine use_of dcM1 false Tryz.f220 ?_
  conv => enter [1]; reduce
  refine jvX Tryz.f220 19 [.tmp 4] (PostLs r n) (by kernel_rfl) (by decide +kernel) (by kernel_rfl) rfl ?_
  have hp := h.2
  have hb := h.1
  simp -implicitDefEqProofs only [go_sem]
  refine jv_lp (fun m s => ∃ (i : Nat) (l : List ByteArray) (R : Dr), i ≤ n ∧ l.length = i ∧ R.ok (r.p + 10 * i) ∧ m = n - i ∧ s = ⟨19, [(0, vL), (1, vI n), (5, .blk 5 0 [] 1 0 l.length), (6, vI i)], [(1000000, 0, one ⟨1, [[.ptr 1000001 0 [] 2 0 0]], 0, false⟩), (1000001, 0, one ⟨2, [R.cs], 0, false⟩), (5, 0, one ⟨1, l.map leafCs, 2, false⟩)], 1⟩) n ?_ ?_
  · simp -implicitDefEqProofs only [go_sem]
    exact ⟨0, [], r, Nat.zero_le _, rfl, ⟨hb, Nat.le_refl _⟩, rfl, rfl⟩
  · rintro m s ⟨i, l, R, hi, hl, hR, rfl, rfl⟩
    rcases Nat.lt_or_ge i n with hlt | hge
    · have hlt' : (i : Int) < (n : Int) := by omega
      have w4 : IntKind.i64.wrap ((i : Int) + 1) = ((i + 1 : Nat) : Int) := by rw [wrS (by omega)]; omega
      have ha : ∀ x, _ := fun x => app_ok (E := leafCs) (l := l) (xs := [x]) (b := 16) (n := 1000) (by simp; omega) (by omega) (by omega)
      obtain ⟨res, σ, ⟨t, r', ⟨rfl, rfl⟩, hr'⟩, hcall⟩ := c291_c R (hR.le (by omega))
      have hr2 := hr'.2
      have hR2 := hR.2
      simp -implicitDefEqProofs only [go_sem, hlt']
      refine WantM.intro hcall ?_
      simp -implicitDefEqProofs only [go_sem, ha, w4]
      exact ⟨_, by omega, i + 1, l ++ [t], r', hlt, by simp [hl], ⟨hr'.1, by omega⟩, rfl, by simp [leafCs]⟩
    · have hi : i = n := by omega
      have hlt' : ¬ ((i : Int) < (n : Int)) := by omega
      simp -implicitDefEqProofs only [go_sem, hlt']
      refine RetAt.intro (.blk 0 0 [] 1 0 l.length) (R.r2 ++ [(0, 0, one ⟨1, l.map leafCs, 2, false⟩)]) ⟨l, R, ⟨rfl, rfl⟩, by omega, hR.le (by omega)⟩ ?_
      simp -implicitDefEqProofs only [go_sem]
def szT (r : Dr) : Int := if pk r 9 = 0 then pk r.nx 70 else pk r.nx 20
theorem c94_c (r : Dr) (h : r.ok 700000000) : (0 ≤ szT r ∧ szT r < 70) ∧ CallM Tryz.prog 94 r.r2 [vL] (vI (szT r)) (r.adv 2).r2 := by
  have ok : ∀ i, i ≤ 1000 → (r.adv i).ok 1000000000 := fun i hi => (h.adv i).le (by omega)
  have q70 : 0 ≤ pk r.nx 70 ∧ pk r.nx 70 < 70 := pick_lt (ok 1 (by omega)) (by omega)
  have q20 : 0 ≤ pk r.nx 20 ∧ pk r.nx 20 < 20 := pick_lt (ok 1 (by omega)) (by omega)
  refine ⟨by unfold szT; split <;> omega, ?_⟩
  refine use_of dcM1 false Tryz.f94 ?_
  conv => enter [1]; reduce
  refine jvM Tryz.f94 19 [.tmp 2] (by kernel_rfl) (by decide +kernel) rfl ?_
  simp -implicitDefEqProofs only [go_sem]
  refine WantM.intro (pickM 9 (ok 0 (by omega))) ?_
  simp -implicitDefEqProofs only [go_sem]
  refine condJ_intro (fun g => ?_) (fun g => ?_)
  · have g' : pk r 9 = 0 := by simpa using g
    simp -implicitDefEqProofs only [go_sem, g]
    refine WantM.intro (pickM 70 (ok 1 (by omega))) ?_
    simp -implicitDefEqProofs only [go_sem, szT, g']
    rfl
  · have g' : ¬ pk r 9 = 0 := by simpa using g
    simp -implicitDefEqProofs only [go_sem, g]
    refine WantM.intro (pickM 20 (ok 1 (by omega))) ?_
    simp -implicitDefEqProofs only [go_sem, szT, g']
    rfl
theorem c219_c (n : Nat) (hn : n ≤ 1000) : CallR Tryz.prog 219 [vI n] (.blk 0 0 [] 1 0 (List.replicate n (⟨#[]⟩ : ByteArray)).length) [([], ⟨1, (List.replicate n (⟨#[]⟩ : ByteArray)).map leafCs, 2, false⟩)] := by
  refine use_of dcM1 false Tryz.f219 ?_
  conv => enter [1]; reduce
  refine jvR Tryz.f219 15 [.tmp 2] (by kernel_rfl) (by decide +kernel) rfl ?_
  simp -implicitDefEqProofs only [go_sem]
  refine jv_lp (fun m z => ∃ i : Nat, i ≤ n ∧ m = n - i ∧ z = ⟨15, [(0, vI n), (3, .blk 3 0 [] 1 0 (List.replicate i (⟨#[]⟩ : ByteArray)).length), (4, vI i)], [(3, 0, one ⟨1, (List.replicate i (⟨#[]⟩ : ByteArray)).map leafCs, 2, false⟩)], 1⟩) n ?_ ?_
  · simp -implicitDefEqProofs only [go_sem]
    exact ⟨0, Nat.zero_le _, rfl, rfl⟩
  · rintro m z ⟨i, hi, rfl, rfl⟩
    have hs : List.replicate (i + 1) (⟨#[]⟩ : ByteArray) = List.replicate i ⟨#[]⟩ ++ [⟨#[]⟩] := List.replicate_succ'
    obtain ⟨X, hX0⟩ : ∃ X, List.replicate i (⟨#[]⟩ : ByteArray) = X := ⟨_, rfl⟩
    have hX : X.length = i := by rw [← hX0]; exact List.length_replicate
    rw [hX0] at hs ⊢
    rcases Nat.lt_or_ge i n with hlt | hge
    · have hlt' : (i : Int) < (n : Int) := by omega
      have w4 : IntKind.i64.wrap ((i : Int) + 1) = ((i + 1 : Nat) : Int) := by rw [wrS (by omega)]; omega
      have ha : ∀ x, _ := fun x => app_ok (E := leafCs) (l := X) (xs := [x]) (b := 16) (n := 10000000) (by simp; omega) (by omega) (by omega)
      simp -implicitDefEqProofs only [go_sem, hlt', w4, ha]
      exact ⟨_, by omega, i + 1, hlt, rfl, by rw [hs]; simp [leafCs]⟩
    · have hi : i = n := by omega
      have hlt' : ¬ ((i : Int) < (n : Int)) := by omega
      subst hi
      simp -implicitDefEqProofs only [go_sem, hlt']
      rw [hX0]
      exact ⟨rfl, rfl⟩
theorem c101_c (l : List UInt8) (hl : l.length ≤ maxLen) : CallM Tryz.prog 101 [] [.ro 1 (l.map byteC)] (.ptr 0 0 [] 1 0 0) [(0, 0, one ⟨1, [[.ptr 1 0 [] 2 0 0]], 0, false⟩), (1, 0, one ⟨2, [(Dr.mk (l.take 2000) 0).cs], 0, false⟩)] := by
  refine use_of dcM1 false Tryz.f101 ?_
  conv => enter [1]; reduce
  refine jvM Tryz.f101 7 [.tmp 2] (by kernel_rfl) (by decide +kernel) rfl ?_
  simp -implicitDefEqProofs only [go_sem]
  refine WantM.intro (c201_c l hl) ?_
  simp -implicitDefEqProofs only [go_sem]
def PostSm (res : AV) (σ : Sig) (r : Dr) : Prop := ∃ (l : List ByteArray) (r' : Dr), (res = .blk 0 0 [] 1 0 l.length ∧ σ = r'.r2 ++ [(0, 0, one ⟨1, l.map leafCs, 2, false⟩)]) ∧ l.length ≤ 300 ∧ r'.ok (r.p + 1000)
theorem c125_c (r : Dr) (h : r.ok 500000000) : ∃ res σ, PostSm res σ r ∧ CallM Tryz.prog 125 r.r2 [vL] res σ := by
  refine use_of dcM1 true Tryz.f125 ?_
  conv => enter [1]; reduce
  refine jvX Tryz.f125 30 [.tmp 2] (fun res σ => PostSm res σ r) (by kernel_rfl) (by decide +kernel) (by kernel_rfl) rfl ?_
  have hp := h.2
  have hb := h.1
  have ok : ∀ i, i ≤ 1000 → (r.adv i).ok 1000000000 := fun i hi => (h.adv i).le (by omega)
  simp -implicitDefEqProofs only [go_sem]
  refine WantM.intro (pickM 24 (ok 0 (by omega))) ?_
  generalize pk r 24 = k
  simp -implicitDefEqProofs only [go_sem]
  refine condJ_intro (fun g => ?_) (fun g => ?_)
  · simp -implicitDefEqProofs only [go_sem, g]
    have q2 := pick_lt (ok 1 (by omega)) (n := 2) (by omega)
    obtain ⟨v, hv⟩ : ∃ v : Nat, pk (r.adv 1) 2 = v := ⟨(pk (r.adv 1) 2).toNat, by omega⟩
    have w1 : IntKind.i64.wrap (256 + (v : Int)) = ((256 + v : Nat) : Int) := by rw [wrS (by omega)]; omega
    refine WantM.intro (pickM 2 (ok 1 (by omega))) ?_
    simp -implicitDefEqProofs only [go_sem, hv, w1]
    refine Want.intro (c219_c (256 + v) (by omega)) ?_
    generalize hX : List.replicate (256 + v) (⟨#[]⟩ : ByteArray) = X
    have hXl : X.length = 256 + v := by rw [← hX]; exact List.length_replicate
    simp -implicitDefEqProofs only [go_sem]
    refine RetAt.intro (.blk 0 0 [] 1 0 X.length) ((r.adv 2).r2 ++ [(0, 0, one ⟨1, X.map leafCs, 2, false⟩)]) ⟨X, r.adv 2, ⟨rfl, rfl⟩, by omega, hb, by show r.p + 2 ≤ _; omega⟩ ?_
    simp -implicitDefEqProofs only [go_sem]
  · simp -implicitDefEqProofs only [go_sem, g]
    obtain ⟨hz, hcs⟩ := c94_c (r.adv 1) ((h.adv 1).le (by omega))
    refine WantM.intro hcs ?_
    obtain ⟨n, hn⟩ : ∃ n : Nat, szT (r.adv 1) = n := ⟨(szT (r.adv 1)).toNat, by omega⟩
    rw [hn] at hz ⊢
    simp -implicitDefEqProofs only [go_sem]
    obtain ⟨res, σ, ⟨l, r', ⟨rfl, rfl⟩, hl, hr'⟩, hcall⟩ := c220_c (r.adv 3) n (by omega) ((h.adv 3).le (by omega))
    have hr2 := hr'.2
    have hap : (r.adv 3).p = r.p + 3 := rfl
    refine WantM.intro hcall ?_
    have ha : ∀ x, _ := fun x => app_ok (E := leafCs) (l := l) (xs := [x]) (b := 16) (n := 1000) (by simp; omega) (by omega) (by omega)
    simp -implicitDefEqProofs only [go_sem]
    refine ct_intro [4] [] (fun s => ∃ (l : List ByteArray) (R : Dr), l.length ≤ 300 ∧ R.ok (r.p + 1000) ∧ s = ⟨30, [(4, .blk 4 0 [] 1 0 l.length)], [(1000000, 0, one ⟨1, [[.ptr 1000001 0 [] 2 0 0]], 0, false⟩), (1000001, 0, one ⟨2, [R.cs], 0, false⟩), (4, 0, one ⟨1, l.map leafCs, 2, false⟩)], 1⟩) ?_ ?_
    · simp -implicitDefEqProofs only [go_sem]
      refine condJ_intro (fun g => ?_) (fun g => ?_)
      · simp -implicitDefEqProofs only [go_sem, g, b108]
        refine Want.intro (c221_c [108] 41 (by omega) (by simp)) ?_
        simp -implicitDefEqProofs only [go_sem, ha]
        exact ⟨l ++ [bA (rep [108] 41)], r', by simp; omega, ⟨hr'.1, by omega⟩, by simp [leafCs]⟩
      · simp -implicitDefEqProofs only [go_sem, g]
        exact ⟨l, r', by omega, ⟨hr'.1, by omega⟩, rfl⟩
    · rintro s ⟨l, R, hl, hR, rfl⟩
      simp -implicitDefEqProofs only [go_sem]
      refine RetAt.intro (.blk 0 0 [] 1 0 l.length) (R.r2 ++ [(0, 0, one ⟨1, l.map leafCs, 2, false⟩)]) ⟨l, R, ⟨rfl, rfl⟩, hl, hR⟩ ?_
      simp -implicitDefEqProofs only [go_sem]
def PostTP (res : AV) (σ : Sig) : Prop := ∃ (l : List ByteArray), (res = .blk 0 0 [] 1 0 l.length ∧ σ = [(0, 0, one ⟨1, l.map leafCs, 2, false⟩)]) ∧ l.length ≤ 300
theorem c43_c (l : List ByteArray) (h : mLeavesOk l = true) : CallR Tryz.prog 43 [.ro 1 (l.map leafCs)] (.agg (vI l.length :: (mRoot l).cs)) [] := by
  refine use_of dcM1 false Tryz.f43 ?_
  conv => enter [1]; reduce
  refine jvR Tryz.f43 12 [.cell 2 39] (by kernel_rfl) (by decide +kernel) rfl ?_
  have hl := (mLeavesOk_of h).1
  simp -implicitDefEqProofs only [go_sem]
  refine Want.intro (c41_c l (by unfold maxLen; omega)) ?_
  simp -implicitDefEqProofs only [go_sem, h, Bool.not_true, condJ_false]
  refine Want.intro (c126_c l h) ?_
  simp -implicitDefEqProofs only [go_sem]
end Go.Proofs.YtjlhdfciklnndaaGreat.E
