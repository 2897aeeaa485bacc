/-
  Contracts: what is drawn for a log.
-/
import Derived.Test.YtjlhdfciklnndaaGreatM1
import Derived.Test.YtjlhdfciklnndaaGreatG3
namespace Go.Proofs.YtjlhdfciklnndaaGreat.E
open Go Go.RowKit
set_option maxHeartbeats 4000000
set_option maxRecDepth 10000
set_option linter.unusedSimpArgs false
set_option linter.unusedVariables false
set_option linter.unusedSectionVars false
def dcGD : Dec := ⟨[(93, .cm [false]), (94, .cm [true]), (95, .cm [true, false]), (101, .cm [false]), (102, .cm [true]), (103, .cm [true, false]), (125, .cm [true]), (202, .cm [true])], [9, 10, 11], [27, 30, 44, 45, 46, 58, 68, 78, 79, 86, 101, 112, 113, 132, 174, 196, 247, 249, 351, 356], true⟩


def PostLg (r : Dr) (res : AV) (σ : Sig) : Prop := ∃ (l : List ByteArray) (r' : Dr), (res = .agg [.blk 0 0 [] 1 0 l.length] ∧ σ = r'.r2 ++ [(0, 0, one ⟨1, l.map leafCs, 2, false⟩)]) ∧ l.length ≤ 300 ∧ r'.ok (r.p + 1000)
theorem c102_c (r : Dr) (h : r.ok 500000000) : ∃ res σ, PostLg r res σ ∧ CallM Tryz.prog 102 r.r2 [vL] res σ := by
  refine use_of dcGD false Tryz.f102 ?_
  conv => enter [1]; reduce
  refine jvX Tryz.f102 6 [.cell 2 63] (PostLg r) (by kernel_rfl) (by decide +kernel) (by kernel_rfl) rfl ?_
  simp -implicitDefEqProofs only [go_sem]
  obtain ⟨res, σ, ⟨x, r', ⟨rfl, rfl⟩, hx, hr'⟩, hcall⟩ := c125_c r h
  refine WantM.intro hcall ?_
  simp -implicitDefEqProofs only [go_sem]
  refine RetAt.intro (.agg [.blk 0 0 [] 1 0 x.length]) (r'.r2 ++ [(0, 0, one ⟨1, x.map leafCs, 2, false⟩)]) ⟨x, r', ⟨rfl, rfl⟩, hx, hr'⟩ ?_
  simp -implicitDefEqProofs only [go_sem]
def MMsg.out2 (m : MMsg) (r : Dr) : Sig := [(1000000, 0, one ⟨1, [[.ptr 1000001 0 [] 2 0 0]], 0, false⟩), (1000001, 0, one ⟨2, [r.cs], 0, false⟩), (0, 0, one ⟨4, m.proof.map MDig.cs, 2, false⟩), (1, 0, one ⟨1, m.leaves.map leafCs, 2, false⟩)]
attribute [go_sem] MMsg.out2
def PostQ (r : Dr) (res : AV) (σ : Sig) : Prop := ∃ (m : MMsg) (r' : Dr), (res = m.avM ∧ σ = m.out2 r') ∧ (m.root.ok ∧ (∀ d ∈ m.proof, d.ok)) ∧ (m.proof.length ≤ 1000 ∧ m.leaves.length ≤ 1000) ∧ r'.ok (r.p + 1010)
theorem c103_c (r : Dr) (n : Nat) (hn : n ≤ 300) (h : r.ok 500000000) : ∃ res σ, PostQ r res σ ∧ CallM Tryz.prog 103 r.r2 [vL, vI n] res σ := by
  refine use_of dcGD false Tryz.f103 ?_
  conv => enter [1]; reduce
  refine jvX Tryz.f103 64 [.cell 4 70] (PostQ r) (by kernel_rfl) (by decide +kernel) (by kernel_rfl) rfl ?_
  have hp := h.2
  have hb := h.1
  have ok : ∀ i, i ≤ 1000 → (r.adv i).ok 1000000000 := fun i hi => (h.adv i).le (by omega)
  have w1 : IntKind.i64.wrap ((n : Int) + 1) = (n : Int) + 1 := wrS (by omega)
  simp -implicitDefEqProofs only [go_sem]
  refine WantM.intro (pickM 8 (ok 0 (by omega))) ?_
  generalize pk r 8 = k
  simp -implicitDefEqProofs only [go_sem]
  refine condJ_intro (fun g => ?_) (fun g => ?_)
  · obtain ⟨res, σ, ⟨m, r', ⟨rfl, rfl⟩, hw, hr, hd, hr'⟩, hcall⟩ := c202_c (r.adv 1) ((h.adv 1).le (by omega))
    have hw := WOk.of hw
    have hr2 := hr'.2
    have hap : (r.adv 1).p = r.p + 1 := rfl
    simp -implicitDefEqProofs only [go_sem, g]
    refine WantM.intro hcall ?_
    simp -implicitDefEqProofs only [go_sem]
    refine RetAt.intro m.avM (m.out2 r') ⟨m, r', ⟨rfl, rfl⟩, ⟨hr, hd⟩, ⟨by have := hw.p; omega, by have := hw.l; omega⟩, hr'.1, by omega⟩ ?_
    simp -implicitDefEqProofs only [go_sem]
  · simp -implicitDefEqProofs only [go_sem, g]
    refine condJ_intro (fun g2 => ?_) (fun g2 => ?_)
    · simp -implicitDefEqProofs only [go_sem, g2]
      have q := pick_lt (ok 1 (by omega)) (n := 9) (by omega)
      have w2 : IntKind.i64.wrap (1 + pk (r.adv 1) 9) = 1 + pk (r.adv 1) 9 := wrS (by omega)
      refine WantM.intro (pickM 9 (ok 1 (by omega))) ?_
      simp -implicitDefEqProofs only [go_sem, w2]
      refine RetAt.intro (MMsg.mk 1 (1 + pk (r.adv 1) 9) 0 0 dig0 0 [] []).avM ((MMsg.mk 1 (1 + pk (r.adv 1) 9) 0 0 dig0 0 [] []).out2 (r.adv 2)) ⟨_, r.adv 2, ⟨rfl, rfl⟩, ⟨dig0_ok, by simp⟩, ⟨by simp, by simp⟩, hb, by show r.p + 2 ≤ _; omega⟩ ?_
      simp -implicitDefEqProofs only [go_sem]
      first | done | rfl | exact ⟨rfl, rfl⟩
    · simp -implicitDefEqProofs only [go_sem, g2]
      refine condJ_intro (fun g3 => ?_) (fun g3 => ?_)
      · simp -implicitDefEqProofs only [go_sem, g3, w1]
        have q := pick_lt (ok 1 (by omega)) (n := (n : Int) + 1) (by omega)
        refine WantM.intro (pickM ((n : Int) + 1) (ok 1 (by omega))) ?_
        generalize pk (r.adv 1) ((n : Int) + 1) = a at *
        have w2 : IntKind.i64.wrap ((n : Int) - a) = (n : Int) - a := wrS (by omega)
        have w3 : IntKind.i64.wrap ((n : Int) - a + 2) = (n : Int) - a + 2 := wrS (by omega)
        have q2 := pick_lt (ok 2 (by omega)) (n := (n : Int) - a + 2) (by omega)
        have w4 : IntKind.i64.wrap (a + pk (r.adv 2) ((n : Int) - a + 2)) = a + pk (r.adv 2) ((n : Int) - a + 2) := wrS (by omega)
        simp -implicitDefEqProofs only [go_sem, w2, w3]
        refine WantM.intro (pickM ((n : Int) - a + 2) (ok 2 (by omega))) ?_
        simp -implicitDefEqProofs only [go_sem, w4]
        refine RetAt.intro (MMsg.mk 4 0 a (a + pk (r.adv 2) ((n : Int) - a + 2)) dig0 0 [] []).avM ((MMsg.mk 4 0 a (a + pk (r.adv 2) ((n : Int) - a + 2)) dig0 0 [] []).out2 (r.adv 3)) ⟨_, r.adv 3, ⟨rfl, rfl⟩, ⟨dig0_ok, by simp⟩, ⟨by simp, by simp⟩, hb, by show r.p + 3 ≤ _; omega⟩ ?_
        simp -implicitDefEqProofs only [go_sem]
        first | done | rfl | exact ⟨rfl, rfl⟩
      · simp -implicitDefEqProofs only [go_sem, g3, w1]
        refine WantM.intro (pickM ((n : Int) + 1) (ok 1 (by omega))) ?_
        generalize pk (r.adv 1) ((n : Int) + 1) = a at *
        have q2 := pick_lt (ok 2 (by omega)) (n := 8) (by omega)
        have w4 : IntKind.i64.wrap (1 + pk (r.adv 2) 8) = 1 + pk (r.adv 2) 8 := wrS (by omega)
        simp -implicitDefEqProofs only [go_sem]
        refine WantM.intro (pickM 8 (ok 2 (by omega))) ?_
        simp -implicitDefEqProofs only [go_sem, w4]
        refine RetAt.intro (MMsg.mk 7 0 a 0 dig0 (1 + pk (r.adv 2) 8) [] []).avM ((MMsg.mk 7 0 a 0 dig0 (1 + pk (r.adv 2) 8) [] []).out2 (r.adv 3)) ⟨_, r.adv 3, ⟨rfl, rfl⟩, ⟨dig0_ok, by simp⟩, ⟨by simp, by simp⟩, hb, by show r.p + 3 ≤ _; omega⟩ ?_
        simp -implicitDefEqProofs only [go_sem]
        first | done | rfl | exact ⟨rfl, rfl⟩
theorem c93_c (l : List UInt8) (hl : l.length ≤ maxLen) : CallM Tryz.prog 93 [] [.ro 1 (l.map byteC)] (.ptr 0 0 [] 1 0 0) [(0, 0, one ⟨1, [[.ptr 1 0 [] 1 0 0]], 0, false⟩), (1, 0, one ⟨1, [[.ptr 2 0 [] 2 0 0]], 0, false⟩), (2, 0, one ⟨2, [(Dr.mk (l.take 2000) 0).cs], 0, false⟩)] := by
  refine use_of dcGD false Tryz.f93 ?_
  conv => enter [1]; reduce
  refine jvM Tryz.f93 7 [.tmp 2] (by kernel_rfl) (by decide +kernel) rfl ?_
  simp -implicitDefEqProofs only [go_sem]
  refine WantM.intro (c101_c l hl) ?_
  simp -implicitDefEqProofs only [go_sem]
def PostGL (res : AV) (σ : Sig) : Prop := ∃ m n : Int, res = .tup [vI m, vI n] ∧ σ = []
theorem c21_c (l : List UInt8) (hl : l.length ≤ maxLen) : ∃ res σ, PostGL res σ ∧ CallM Tryz.prog 21 [] [.ro 1 (l.map byteC)] res σ := by
  refine use_of dcGD true Tryz.f21 ?_
  conv => enter [1]; reduce
  refine jvX Tryz.f21 43 [.tmp 2, .tmp 3] PostGL (by kernel_rfl) (by decide +kernel) (by kernel_rfl) rfl ?_
  have h0 : (Dr.mk (l.take 2000) 0).ok 0 := ⟨List.length_take_le _ _, Nat.le_refl _⟩
  have ok : ∀ i, i ≤ 1000 → ((Dr.mk (l.take 2000) 0).adv i).ok 1000000000 := fun i hi => (h0.adv i).le (by omega)
  have okS := (c94_c ⟨l.take 2000, 0⟩ (h0.le (by omega)))
  have hz := okS.1
  simp -implicitDefEqProofs only [go_sem]
  refine WantM.intro (c93_c l hl) ?_
  simp -implicitDefEqProofs only [go_sem]
  refine WantM.intro okS.2 ?_
  simp -implicitDefEqProofs only [go_sem]
  have q4 := pick_lt (ok 3 (by omega)) (n := 4) (by omega)
  have w1 : IntKind.i64.wrap (257 - pk ((Dr.mk (l.take 2000) 0).adv 3) 4) = 257 - pk ((Dr.mk (l.take 2000) 0).adv 3) 4 := wrS (by omega)
  generalize szT ⟨l.take 2000, 0⟩ = S at *
  refine ct_intro [4, 5] [] (fun s => ∃ (Z : Int) (R : Dr), (0 ≤ Z ∧ Z ≤ 300) ∧ R.ok 100 ∧ s = ⟨43, [(4, .ptr 4 0 [] 1 0 0), (5, vI Z)], [(4, 0, one ⟨1, [[.ptr 10004 0 [] 1 0 0]], 0, false⟩), (10004, 0, one ⟨1, [[.ptr 20004 0 [] 2 0 0]], 0, false⟩), (20004, 0, one ⟨2, [R.cs], 0, false⟩)], 1⟩) ?_ ?_
  · simp -implicitDefEqProofs only [go_sem]
    refine WantM.intro (pickM 6 (ok 2 (by omega))) ?_
    simp -implicitDefEqProofs only [go_sem]
    refine condJ_intro (fun g => ?_) (fun g => ?_)
    · simp -implicitDefEqProofs only [go_sem, g]
      refine WantM.intro (pickM 4 (ok 3 (by omega))) ?_
      simp -implicitDefEqProofs only [go_sem, w1]
      exact ⟨_, (Dr.mk (l.take 2000) 0).adv 4, by omega, ⟨h0.1, by show 0 + 4 ≤ 100; omega⟩, rfl⟩
    · simp -implicitDefEqProofs only [go_sem, g]
      exact ⟨_, (Dr.mk (l.take 2000) 0).adv 3, by omega, ⟨h0.1, by show 0 + 3 ≤ 100; omega⟩, rfl⟩
  · rintro s ⟨Z, R, hZ, hR, rfl⟩
    have w2 : IntKind.i64.wrap (Z + 3) = Z + 3 := wrS (by omega)
    have q := pick_lt (hR.le (by omega)) (n := Z + 3) (by omega)
    have w3 : IntKind.i64.wrap (pk R (Z + 3) - 1) = pk R (Z + 3) - 1 := wrS (by omega)
    simp -implicitDefEqProofs only [go_sem, w2]
    refine WantM.intro (pickM (Z + 3) (hR.le (by omega))) ?_
    simp -implicitDefEqProofs only [go_sem, w3]
    refine RetAt.intro (.tup [vI (pk R (Z + 3) - 1), vI Z]) [] ⟨_, _, rfl, rfl⟩ ?_
    simp -implicitDefEqProofs only [go_sem]
def PostLH (res : AV) (σ : Sig) : Prop := ∃ (l : List ByteArray) (x : MLet), (res = .tup [.agg [.blk 0 0 [] 1 0 l.length], .agg x.cs] ∧ σ = [(0, 0, one ⟨1, l.map leafCs, 2, false⟩)]) ∧ l.length ≤ 300
def dLH (r1 r2 : Dr) (tx : ByteArray) : MLet := ⟨if pk r2 12 = 1 then 20 + pk r2.nx 2 else 1 + pk r1 5, 0, if pk r2 12 = 0 then tx ++ ⟨#[63]⟩ else tx⟩
theorem c24_c (code : List UInt8) (hl : code.length ≤ maxLen) : ∃ res σ, PostLH res σ ∧ CallM Tryz.prog 24 [] [.ro 1 (code.map byteC)] res σ := by
  have h0 : (Dr.mk (code.take 2000) 0).ok 0 := ⟨List.length_take_le _ _, Nat.le_refl _⟩
  obtain ⟨res, σ, ⟨l, r1, ⟨rfl, rfl⟩, hll, hr1⟩, hcall⟩ := c102_c ⟨code.take 2000, 0⟩ (h0.le (by omega))
  have hr1 : r1.ok 2000 := hr1.le (by show 0 + 1000 ≤ 2000; omega)
  have q5 := pick_lt (hr1.le (by omega)) (n := 5) (by omega)
  have w1 : IntKind.i64.wrap (1 + pk r1 5) = 1 + pk r1 5 := wrS (by omega)
  obtain ⟨res, σ, ⟨m, r2, ⟨rfl, rfl⟩, ⟨hm1, hm2⟩, ⟨hm3, hm4⟩, hr2⟩, hcall2⟩ := c103_c r1.nx l.length hll (hr1.nx.le (by omega))
  have hr2 : r2.ok 5000 := hr2.le (by have := hr1.2; show r1.p + 1 + 1010 ≤ 5000; omega)
  have q12 := pick_lt (hr2.le (by omega)) (n := 12) (by omega)
  have q2 := pick_lt (hr2.nx.le (by omega)) (n := 2) (by omega)
  have w2 : IntKind.i64.wrap (20 + pk r2.nx 2) = 20 + pk r2.nx 2 := wrS (by omega)
  have hWB := c44_c m (by unfold maxLen; omega) (by unfold maxLen; omega) hm1 hm2
  have hsz : (mWireBytes m).size ≤ 600 := by
    unfold mWireBytes
    split
    · rename_i hw
      have := wbL_len (WOk.of hw)
      show (bA (wbL m)).size ≤ 600
      rw [bA_size]
      omega
    · exact Nat.zero_le _
  refine ⟨.tup [.agg [.blk 0 0 [] 1 0 l.length], .agg (dLH r1 r2 (mWireBytes m)).cs], [(0, 0, one ⟨1, l.map leafCs, 2, false⟩)], ⟨l, _, ⟨rfl, rfl⟩, hll⟩, ?_⟩
  generalize mWireBytes m = tx at *
  refine use_of dcGD false Tryz.f24 ?_
  conv => enter [1]; reduce
  refine jvM Tryz.f24 47 [.cell 2 63, .cell 3 51] (by kernel_rfl) (by decide +kernel) rfl ?_
  simp -implicitDefEqProofs only [go_sem]
  refine WantM.intro (c101_c code hl) ?_
  simp -implicitDefEqProofs only [go_sem]
  refine WantM.intro hcall ?_
  simp -implicitDefEqProofs only [go_sem]
  refine ct_intro [2, 3, 4, 5, 6] [] (fun s => s = ⟨47, [(2, .ptr 2 0 [] 1 0 0), (3, .ptr 3 0 [] 3 0 0), (4, .ptr 4 0 [] 1 0 0), (5, .ptr 5 0 [] 1 0 0), (6, .ptr 6 0 [] 3 0 0)], [(2, 0, one ⟨1, [[.nilS]], 0, false⟩), (3, 0, one ⟨3, [[vI 0, vI 0, vS ⟨#[]⟩]], 0, false⟩), (4, 0, one ⟨1, [[.ptr 10004 0 [] 2 0 0]], 0, false⟩), (10004, 0, one ⟨2, [r2.cs], 0, false⟩), (5, 0, one ⟨1, [[.blk 10005 0 [] 1 0 l.length]], 0, false⟩), (10005, 0, one ⟨1, l.map leafCs, 2, false⟩), (6, 0, one ⟨3, [[vI (1 + pk r1 5), vI 0, vS tx]], 0, false⟩)], 1⟩) ?_ ?_
  · simp -implicitDefEqProofs only [go_sem]
    repeat' first | (refine Want.intro (by first | exact pickM 5 (hr1.le (by omega)) | exact hcall2 | exact hWB) ?_; try simp -implicitDefEqProofs only [go_sem, w1]) | (refine WantM.intro (by first | exact pickM 5 (hr1.le (by omega)) | exact hcall2 | exact hWB) ?_; try simp -implicitDefEqProofs only [go_sem, w1]) | (with_reducible refine And.intro ?_ ?_) | (refine guardP_intro (fun h => ?_) (fun h => ?_) <;> try simp -implicitDefEqProofs only [go_sem, w1, h]) | (refine condJ_intro (fun h => ?_) (fun h => ?_) <;> try simp -implicitDefEqProofs only [go_sem, w1, h])
    all_goals rfl
  · rintro s rfl
    have ht : ¬ (((tx.size + 1 : Nat) : Int) > 9223372036854775807) := by omega
    unfold dLH
    simp -implicitDefEqProofs only [go_sem]
    refine WantM.intro (pickM 12 (hr2.le (by omega))) ?_
    generalize pk r2 12 = k at *
    by_cases g0 : k = 0
    · have g0' : (k == 0) = true := by simpa using g0
      have g1' : (k == 1) = false := by rw [g0]; rfl
      have g1 : ¬ k = 1 := by omega
      have hs1 : (⟨#[63]⟩ : ByteArray).size = 1 := rfl
      simp -implicitDefEqProofs only [go_sem, g0', g1', g0, g1, hs1, ht]
      first | done | rfl | exact ⟨rfl, rfl⟩ | trace_state
    · have g0' : (k == 0) = false := by simpa using g0
      by_cases g1 : k = 1
      · have g1' : (k == 1) = true := by simpa using g1
        simp -implicitDefEqProofs only [go_sem, g0', g1', g0, g1]
        refine WantM.intro (pickM 2 (hr2.nx.le (by omega))) ?_
        simp -implicitDefEqProofs only [go_sem, w2]
        first | done | rfl | exact ⟨rfl, rfl⟩ | trace_state
      · have g1' : (k == 1) = false := by simpa using g1
        simp -implicitDefEqProofs only [go_sem, g0', g1', g0, g1]
        first | done | rfl | exact ⟨rfl, rfl⟩ | trace_state
end Go.Proofs.YtjlhdfciklnndaaGreat.E
