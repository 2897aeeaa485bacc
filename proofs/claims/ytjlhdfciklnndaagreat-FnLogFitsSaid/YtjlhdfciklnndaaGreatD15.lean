/-
  Contracts: messages that are drawn.
-/
import Derived.Test.YtjlhdfciklnndaaGreatD14
import Derived.Test.YtjlhdfciklnndaaGreatDP
namespace Go.Proofs.YtjlhdfciklnndaaGreat.E
open Go Go.RowKit
set_option maxHeartbeats 4000000
set_option maxRecDepth 10000
set_option linter.unusedSimpArgs false
set_option linter.unusedVariables false
set_option linter.unusedSectionVars false
def dcD15 : Dec := ⟨[(95, .cm [true, false]), (244, .cm [true]), (246, .cm [true, false]), (269, .cm [true])], [9, 10, 11], [27, 30, 44, 45, 46, 58, 68, 78, 79, 86, 101, 112, 113, 132, 174, 196, 247, 249, 351, 356], false⟩

theorem Dr.ok.le {r : Dr} {a b : Nat} (h : r.ok a) (hb : a ≤ b) : r.ok b := ⟨h.1, Nat.le_trans h.2 hb⟩
theorem Dr.ok.adv {r : Dr} {a : Nat} (h : r.ok a) (i : Nat) : (r.adv i).ok (a + i) := ⟨h.1, Nat.add_le_add_right h.2 i⟩
theorem Dr.ok.nx {r : Dr} {a : Nat} (h : r.ok a) : r.nx.ok (a + 1) := ⟨h.1, Nat.add_le_add_right h.2 1⟩
theorem pick_lt {r : Dr} {n : Int} (h : r.ok 1000000000) (hn : 1 ≤ n) : 0 ≤ pk r n ∧ pk r n < n := by
  have := (pick_c r n h).1
  omega
theorem pickM {r : Dr} (n : Int) (h : r.ok 1000000000) : CallM Tryz.prog 95 r.row [vD, vI n] (vI (pk r n)) r.nx.row := (pick_c r n h).2
def szD (r : Dr) : Int × Dr := if pk r 8 = 0 then (256 - pk r.nx 2, r.nx.nx) else (pk r.nx 30, r.nx.nx)
theorem c269_c (r : Dr) (h : r.ok 900000000) : (0 ≤ (szD r).1 ∧ (szD r).1 ≤ 256) ∧ (szD r).2.ok 1000000000 ∧ (szD r).2.p = r.p + 2 ∧ CallM Tryz.prog 269 r.row [vD] (vI (szD r).1) (szD r).2.row := by
  have h0 := h.le (b := 1000000000) (by omega)
  have h1 := h.nx.le (b := 1000000000) (by omega)
  have h2 := h.nx.nx.le (b := 1000000000) (by omega)
  have p8 := pick_lt h0 (n := 8) (by omega)
  have p2 := pick_lt h1 (n := 2) (by omega)
  have p30 := pick_lt h1 (n := 30) (by omega)
  unfold szD
  by_cases k0 : pk r 8 = 0
  · rw [if_pos k0]
    refine ⟨⟨by show 0 ≤ 256 - pk r.nx 2; omega, by show 256 - pk r.nx 2 ≤ 256; omega⟩, h2, rfl, ?_⟩
    refine use_of dcD15 false Tryz.f269 ?_
    conv => enter [1]; reduce
    refine jvM Tryz.f269 11 [.tmp 2] (by kernel_rfl) (by decide +kernel) rfl ?_
    have k1 : (pk r 8 == 0) = true := by simpa using k0
    have w1 : IntKind.i64.wrap (256 - pk r.nx 2) = 256 - pk r.nx 2 := wrS (by omega)
    simp -implicitDefEqProofs only [go_sem]
    refine WantM.intro (pickM 8 h0) ?_
    simp -implicitDefEqProofs only [go_sem, k1, condJ_true]
    refine WantM.intro (pickM 2 h1) ?_
    simp -implicitDefEqProofs only [go_sem, w1]
  · rw [if_neg k0]
    refine ⟨⟨p30.1, by show pk r.nx 30 ≤ 256; omega⟩, h2, rfl, ?_⟩
    refine use_of dcD15 false Tryz.f269 ?_
    conv => enter [1]; reduce
    refine jvM Tryz.f269 11 [.tmp 2] (by kernel_rfl) (by decide +kernel) rfl ?_
    have k1 : (pk r 8 == 0) = false := by simpa using k0
    simp -implicitDefEqProofs only [go_sem]
    refine WantM.intro (pickM 8 h0) ?_
    simp -implicitDefEqProofs only [go_sem, k1, condJ_false]
    refine WantM.intro (pickM 30 h1) ?_
    simp -implicitDefEqProofs only [go_sem]
/-- A message in rows of its own, and the reader. -/
def MMsg.outD (m : MMsg) (r : Dr) : Sig := [(1000000, 0, one ⟨2, [r.cs], 0, false⟩), (0, 0, one ⟨4, m.proof.map MDig.cs, 2, false⟩), (1, 0, one ⟨1, m.leaves.map leafCs, 2, false⟩)]
attribute [go_sem] MMsg.outD
def PostMsg (r : Dr) (res : AV) (σ : Sig) : Prop := ∃ (m : MMsg) (r' : Dr), (res = m.avM ∧ σ = m.outD r') ∧ mWireOk m = true ∧ m.root.ok ∧ (∀ d ∈ m.proof, d.ok) ∧ r'.ok (r.p + 1000)
theorem tx_ok (r : Dr) (n : Int) {a : Nat} (h : r.ok a) (ha : a ≤ 900000000) (hn : 0 ≤ n) : (tx r n).2.ok (a + 1 + n.toNat) ∧ (tx r n).1.size ≤ n.toNat := by
  have hq := pick_lt (h.le (b := 1000000000) (by omega)) (n := n + 1) (by omega)
  refine ⟨⟨h.1, ?_⟩, ?_⟩
  · show r.p + 1 + (pk r (n + 1)).toNat ≤ _
    have := h.2
    omega
  · show (bA _).size ≤ _
    rw [bA_size, txL_len]
    omega
theorem many40 : CallR Tryz.prog 221 [vS ⟨#[107]⟩, vI 40] (vS (bA (rep [107] 40))) [] := c221_c [107] 40 (by omega) (by simp)
theorem leavesOk_set {l : List ByteArray} (h : leavesOk l = true) (i : Nat) {s : ByteArray} (hs : s.size ≤ 40) : leavesOk (l.set i s) = true := by
  simp only [leavesOk, List.all_eq_true, decide_eq_true_eq] at *
  intro x hx
  rcases List.mem_or_eq_of_mem_set hx with hx | rfl
  · exact h x hx
  · exact hs
attribute [go_sem] dig0
theorem c202_c (r : Dr) (h1 : r.ok 700000000) : ∃ res σ, PostMsg r res σ ∧ CallM Tryz.prog 202 r.row [vD] res σ := by
  refine use_of dcD15 false Tryz.f202 ?_
  conv => enter [1]; reduce
  refine jvX Tryz.f202 105 [.cell 2 70] (PostMsg r) (by kernel_rfl) (by decide +kernel) (by kernel_rfl) rfl ?_
  have hp := h1.2
  have ok : ∀ i, i ≤ 1000 → (r.adv i).ok 1000000000 := fun i hi => (h1.adv i).le (by omega)
  have h0 := h1.le (b := 1000000000) (by omega)
  have p8 := pick_lt h0 (n := 8) (by omega)
  have q2 := pick_lt (ok 3 (by omega)) (n := 2) (by omega)
  have q5 := pick_lt (ok 1 (by omega)) (n := 5) (by omega)
  have ws1 : IntKind.i64.wrap (1000000 - pk (r.adv 3) 2) = 1000000 - pk (r.adv 3) 2 := wrS (by omega)
  have ws2 : IntKind.i64.wrap (1 + pk (r.adv 1) 5) = 1 + pk (r.adv 1) 5 := wrS (by omega)
  have b1 : 1 ≤ 1000000 - pk (r.adv 3) 2 ∧ 1000000 - pk (r.adv 3) 2 ≤ 1000000 := by omega
  have b2 : 1 ≤ 1 + pk (r.adv 1) 5 ∧ 1 + pk (r.adv 1) 5 ≤ 1000000 := by omega
  have w1 : IntKind.i64.wrap (1 + pk r 8) = 1 + pk r 8 := wrS (by omega)
  simp -implicitDefEqProofs only [go_sem]
  refine WantM.intro (pickM 8 h0) ?_
  simp -implicitDefEqProofs only [go_sem, w1]
  refine Want.intro (c128_c _) ?_
  generalize hK : 1 + pk r 8 = K at *
  have hk8 : K = 1 ∨ K = 2 ∨ K = 3 ∨ K = 6 ∨ K = 4 ∨ K = 5 ∨ K = 7 ∨ K = 8 := by omega
  rcases hk8 with rfl | rfl | rfl | rfl | rfl | rfl | rfl | rfl
  all_goals simp -implicitDefEqProofs only [go_sem, condJ_true, condJ_false]
  all_goals repeat' first | (refine Want.intro (by first | exact c130_c _ 115 (by decide) | exact c130_c _ 102 (by decide) | exact c130_c _ 110 (by decide) | exact c130_c _ 114 (by decide) | exact c130_c _ 99 (by decide) | exact c130_c _ 112 (by decide) | exact c130_c _ 108 (by decide) | exact pickM _ (ok 1 (by omega)) | exact pickM _ (ok 2 (by omega)) | exact pickM _ (ok 3 (by omega))) ?_; try simp -implicitDefEqProofs only [go_sem, condJ_true, condJ_false, ws1, ws2]) | (refine WantM.intro (by first | exact c130_c _ 115 (by decide) | exact c130_c _ 102 (by decide) | exact c130_c _ 110 (by decide) | exact c130_c _ 114 (by decide) | exact c130_c _ 99 (by decide) | exact c130_c _ 112 (by decide) | exact c130_c _ 108 (by decide) | exact pickM _ (ok 1 (by omega)) | exact pickM _ (ok 2 (by omega)) | exact pickM _ (ok 3 (by omega))) ?_; try simp -implicitDefEqProofs only [go_sem, condJ_true, condJ_false, ws1, ws2]) | (refine guardP_intro (fun h => ?_) (fun h => ?_) <;> try simp -implicitDefEqProofs only [go_sem, condJ_true, condJ_false, ws1, ws2, h]) | (refine condJ_intro (fun h => ?_) (fun h => ?_) <;> try simp -implicitDefEqProofs only [go_sem, condJ_true, condJ_false, ws1, ws2, h])
  · refine RetAt.intro (MMsg.avM ⟨1, (1000000 - pk (r.adv 3) 2), 0, 0, dig0, 0, [], []⟩) (MMsg.outD ⟨1, (1000000 - pk (r.adv 3) 2), 0, 0, dig0, 0, [], []⟩ (r.adv 4)) ⟨⟨1, (1000000 - pk (r.adv 3) 2), 0, 0, dig0, 0, [], []⟩, (r.adv 4), ⟨rfl, rfl⟩, ok_s b1, dig0_ok, by simp, ⟨h0.1, by show r.p + 4 ≤ _; omega⟩⟩ ?_
    simp -implicitDefEqProofs only [go_sem]
    first | done | rfl | exact ⟨rfl, rfl⟩
  · refine RetAt.intro (MMsg.avM ⟨1, (1 + pk (r.adv 1) 5), 0, 0, dig0, 0, [], []⟩) (MMsg.outD ⟨1, (1 + pk (r.adv 1) 5), 0, 0, dig0, 0, [], []⟩ (r.adv 3)) ⟨⟨1, (1 + pk (r.adv 1) 5), 0, 0, dig0, 0, [], []⟩, (r.adv 3), ⟨rfl, rfl⟩, ok_s b2, dig0_ok, by simp, ⟨h0.1, by show r.p + 3 ≤ _; omega⟩⟩ ?_
    simp -implicitDefEqProofs only [go_sem]
    first | done | rfl | exact ⟨rfl, rfl⟩
  · have z := c269_c (r.adv 4) ((h1.adv 4).le (by omega))
    have zp := z.2.2.1
    rw [adv_p] at zp
    have zd := z.2.1
    have zk : (szD (r.adv 4)).2.ok (r.p + 4 + 2) := ⟨zd.1, by omega⟩
    refine WantM.intro z.2.2.2 ?_
    simp -implicitDefEqProofs only [go_sem]
    repeat' first | (refine Want.intro (by first | exact c130_c _ 115 (by decide) | exact c130_c _ 102 (by decide) | exact c130_c _ 110 (by decide) | exact c130_c _ 114 (by decide) | exact c130_c _ 99 (by decide) | exact c130_c _ 112 (by decide) | exact c130_c _ 108 (by decide)) ?_; try simp -implicitDefEqProofs only [go_sem, condJ_true, condJ_false]) | (refine WantM.intro (by first | exact c130_c _ 115 (by decide) | exact c130_c _ 102 (by decide) | exact c130_c _ 110 (by decide) | exact c130_c _ 114 (by decide) | exact c130_c _ 99 (by decide) | exact c130_c _ 112 (by decide) | exact c130_c _ 108 (by decide)) ?_; try simp -implicitDefEqProofs only [go_sem, condJ_true, condJ_false]) | (refine guardP_intro (fun h => ?_) (fun h => ?_) <;> try simp -implicitDefEqProofs only [go_sem, condJ_true, condJ_false, h]) | (refine condJ_intro (fun h => ?_) (fun h => ?_) <;> try simp -implicitDefEqProofs only [go_sem, condJ_true, condJ_false, h])
    refine WantM.intro (c244_c _ (zk.le (by omega))) ?_
    simp -implicitDefEqProofs only [go_sem]
    repeat' first | (refine Want.intro (by first | exact c130_c _ 115 (by decide) | exact c130_c _ 102 (by decide) | exact c130_c _ 110 (by decide) | exact c130_c _ 114 (by decide) | exact c130_c _ 99 (by decide) | exact c130_c _ 112 (by decide) | exact c130_c _ 108 (by decide)) ?_; try simp -implicitDefEqProofs only [go_sem, condJ_true, condJ_false]) | (refine WantM.intro (by first | exact c130_c _ 115 (by decide) | exact c130_c _ 102 (by decide) | exact c130_c _ 110 (by decide) | exact c130_c _ 114 (by decide) | exact c130_c _ 99 (by decide) | exact c130_c _ 112 (by decide) | exact c130_c _ 108 (by decide)) ?_; try simp -implicitDefEqProofs only [go_sem, condJ_true, condJ_false]) | (refine guardP_intro (fun h => ?_) (fun h => ?_) <;> try simp -implicitDefEqProofs only [go_sem, condJ_true, condJ_false, h]) | (refine condJ_intro (fun h => ?_) (fun h => ?_) <;> try simp -implicitDefEqProofs only [go_sem, condJ_true, condJ_false, h])
    refine RetAt.intro (MMsg.avM ⟨2, (1000000 - pk (r.adv 3) 2), 0, (szD (r.adv 4)).1, (dgR (szD (r.adv 4)).2).1, 0, [], []⟩) (MMsg.outD ⟨2, (1000000 - pk (r.adv 3) 2), 0, (szD (r.adv 4)).1, (dgR (szD (r.adv 4)).2).1, 0, [], []⟩ (dgR (szD (r.adv 4)).2).2) ⟨⟨2, (1000000 - pk (r.adv 3) 2), 0, (szD (r.adv 4)).1, (dgR (szD (r.adv 4)).2).1, 0, [], []⟩, (dgR (szD (r.adv 4)).2).2, ⟨rfl, rfl⟩, ok_szr2 b1 z.1, dgR_dig _ (zk.le (by omega)), by simp, (dgR_ok _ zk).1.le (by omega)⟩ ?_
    simp -implicitDefEqProofs only [go_sem]
    first | done | rfl | exact ⟨rfl, rfl⟩
  · have z := c269_c (r.adv 3) ((h1.adv 3).le (by omega))
    have zp := z.2.2.1
    rw [adv_p] at zp
    have zd := z.2.1
    have zk : (szD (r.adv 3)).2.ok (r.p + 3 + 2) := ⟨zd.1, by omega⟩
    refine WantM.intro z.2.2.2 ?_
    simp -implicitDefEqProofs only [go_sem]
    repeat' first | (refine Want.intro (by first | exact c130_c _ 115 (by decide) | exact c130_c _ 102 (by decide) | exact c130_c _ 110 (by decide) | exact c130_c _ 114 (by decide) | exact c130_c _ 99 (by decide) | exact c130_c _ 112 (by decide) | exact c130_c _ 108 (by decide)) ?_; try simp -implicitDefEqProofs only [go_sem, condJ_true, condJ_false]) | (refine WantM.intro (by first | exact c130_c _ 115 (by decide) | exact c130_c _ 102 (by decide) | exact c130_c _ 110 (by decide) | exact c130_c _ 114 (by decide) | exact c130_c _ 99 (by decide) | exact c130_c _ 112 (by decide) | exact c130_c _ 108 (by decide)) ?_; try simp -implicitDefEqProofs only [go_sem, condJ_true, condJ_false]) | (refine guardP_intro (fun h => ?_) (fun h => ?_) <;> try simp -implicitDefEqProofs only [go_sem, condJ_true, condJ_false, h]) | (refine condJ_intro (fun h => ?_) (fun h => ?_) <;> try simp -implicitDefEqProofs only [go_sem, condJ_true, condJ_false, h])
    refine WantM.intro (c244_c _ (zk.le (by omega))) ?_
    simp -implicitDefEqProofs only [go_sem]
    repeat' first | (refine Want.intro (by first | exact c130_c _ 115 (by decide) | exact c130_c _ 102 (by decide) | exact c130_c _ 110 (by decide) | exact c130_c _ 114 (by decide) | exact c130_c _ 99 (by decide) | exact c130_c _ 112 (by decide) | exact c130_c _ 108 (by decide)) ?_; try simp -implicitDefEqProofs only [go_sem, condJ_true, condJ_false]) | (refine WantM.intro (by first | exact c130_c _ 115 (by decide) | exact c130_c _ 102 (by decide) | exact c130_c _ 110 (by decide) | exact c130_c _ 114 (by decide) | exact c130_c _ 99 (by decide) | exact c130_c _ 112 (by decide) | exact c130_c _ 108 (by decide)) ?_; try simp -implicitDefEqProofs only [go_sem, condJ_true, condJ_false]) | (refine guardP_intro (fun h => ?_) (fun h => ?_) <;> try simp -implicitDefEqProofs only [go_sem, condJ_true, condJ_false, h]) | (refine condJ_intro (fun h => ?_) (fun h => ?_) <;> try simp -implicitDefEqProofs only [go_sem, condJ_true, condJ_false, h])
    refine RetAt.intro (MMsg.avM ⟨2, (1 + pk (r.adv 1) 5), 0, (szD (r.adv 3)).1, (dgR (szD (r.adv 3)).2).1, 0, [], []⟩) (MMsg.outD ⟨2, (1 + pk (r.adv 1) 5), 0, (szD (r.adv 3)).1, (dgR (szD (r.adv 3)).2).1, 0, [], []⟩ (dgR (szD (r.adv 3)).2).2) ⟨⟨2, (1 + pk (r.adv 1) 5), 0, (szD (r.adv 3)).1, (dgR (szD (r.adv 3)).2).1, 0, [], []⟩, (dgR (szD (r.adv 3)).2).2, ⟨rfl, rfl⟩, ok_szr2 b2 z.1, dgR_dig _ (zk.le (by omega)), by simp, (dgR_ok _ zk).1.le (by omega)⟩ ?_
    simp -implicitDefEqProofs only [go_sem]
    first | done | rfl | exact ⟨rfl, rfl⟩
  · have z := c269_c (r.adv 4) ((h1.adv 4).le (by omega))
    have zp := z.2.2.1
    rw [adv_p] at zp
    have zd := z.2.1
    have zk : (szD (r.adv 4)).2.ok (r.p + 4 + 2) := ⟨zd.1, by omega⟩
    refine WantM.intro z.2.2.2 ?_
    simp -implicitDefEqProofs only [go_sem]
    repeat' first | (refine Want.intro (by first | exact c130_c _ 115 (by decide) | exact c130_c _ 102 (by decide) | exact c130_c _ 110 (by decide) | exact c130_c _ 114 (by decide) | exact c130_c _ 99 (by decide) | exact c130_c _ 112 (by decide) | exact c130_c _ 108 (by decide)) ?_; try simp -implicitDefEqProofs only [go_sem, condJ_true, condJ_false]) | (refine WantM.intro (by first | exact c130_c _ 115 (by decide) | exact c130_c _ 102 (by decide) | exact c130_c _ 110 (by decide) | exact c130_c _ 114 (by decide) | exact c130_c _ 99 (by decide) | exact c130_c _ 112 (by decide) | exact c130_c _ 108 (by decide)) ?_; try simp -implicitDefEqProofs only [go_sem, condJ_true, condJ_false]) | (refine guardP_intro (fun h => ?_) (fun h => ?_) <;> try simp -implicitDefEqProofs only [go_sem, condJ_true, condJ_false, h]) | (refine condJ_intro (fun h => ?_) (fun h => ?_) <;> try simp -implicitDefEqProofs only [go_sem, condJ_true, condJ_false, h])
    refine WantM.intro (c244_c _ (zk.le (by omega))) ?_
    simp -implicitDefEqProofs only [go_sem]
    repeat' first | (refine Want.intro (by first | exact c130_c _ 115 (by decide) | exact c130_c _ 102 (by decide) | exact c130_c _ 110 (by decide) | exact c130_c _ 114 (by decide) | exact c130_c _ 99 (by decide) | exact c130_c _ 112 (by decide) | exact c130_c _ 108 (by decide)) ?_; try simp -implicitDefEqProofs only [go_sem, condJ_true, condJ_false]) | (refine WantM.intro (by first | exact c130_c _ 115 (by decide) | exact c130_c _ 102 (by decide) | exact c130_c _ 110 (by decide) | exact c130_c _ 114 (by decide) | exact c130_c _ 99 (by decide) | exact c130_c _ 112 (by decide) | exact c130_c _ 108 (by decide)) ?_; try simp -implicitDefEqProofs only [go_sem, condJ_true, condJ_false]) | (refine guardP_intro (fun h => ?_) (fun h => ?_) <;> try simp -implicitDefEqProofs only [go_sem, condJ_true, condJ_false, h]) | (refine condJ_intro (fun h => ?_) (fun h => ?_) <;> try simp -implicitDefEqProofs only [go_sem, condJ_true, condJ_false, h])
    refine RetAt.intro (MMsg.avM ⟨3, (1000000 - pk (r.adv 3) 2), 0, (szD (r.adv 4)).1, (dgR (szD (r.adv 4)).2).1, 0, [], []⟩) (MMsg.outD ⟨3, (1000000 - pk (r.adv 3) 2), 0, (szD (r.adv 4)).1, (dgR (szD (r.adv 4)).2).1, 0, [], []⟩ (dgR (szD (r.adv 4)).2).2) ⟨⟨3, (1000000 - pk (r.adv 3) 2), 0, (szD (r.adv 4)).1, (dgR (szD (r.adv 4)).2).1, 0, [], []⟩, (dgR (szD (r.adv 4)).2).2, ⟨rfl, rfl⟩, ok_szr3 b1 z.1, dgR_dig _ (zk.le (by omega)), by simp, (dgR_ok _ zk).1.le (by omega)⟩ ?_
    simp -implicitDefEqProofs only [go_sem]
    first | done | rfl | exact ⟨rfl, rfl⟩
  · have z := c269_c (r.adv 3) ((h1.adv 3).le (by omega))
    have zp := z.2.2.1
    rw [adv_p] at zp
    have zd := z.2.1
    have zk : (szD (r.adv 3)).2.ok (r.p + 3 + 2) := ⟨zd.1, by omega⟩
    refine WantM.intro z.2.2.2 ?_
    simp -implicitDefEqProofs only [go_sem]
    repeat' first | (refine Want.intro (by first | exact c130_c _ 115 (by decide) | exact c130_c _ 102 (by decide) | exact c130_c _ 110 (by decide) | exact c130_c _ 114 (by decide) | exact c130_c _ 99 (by decide) | exact c130_c _ 112 (by decide) | exact c130_c _ 108 (by decide)) ?_; try simp -implicitDefEqProofs only [go_sem, condJ_true, condJ_false]) | (refine WantM.intro (by first | exact c130_c _ 115 (by decide) | exact c130_c _ 102 (by decide) | exact c130_c _ 110 (by decide) | exact c130_c _ 114 (by decide) | exact c130_c _ 99 (by decide) | exact c130_c _ 112 (by decide) | exact c130_c _ 108 (by decide)) ?_; try simp -implicitDefEqProofs only [go_sem, condJ_true, condJ_false]) | (refine guardP_intro (fun h => ?_) (fun h => ?_) <;> try simp -implicitDefEqProofs only [go_sem, condJ_true, condJ_false, h]) | (refine condJ_intro (fun h => ?_) (fun h => ?_) <;> try simp -implicitDefEqProofs only [go_sem, condJ_true, condJ_false, h])
    refine WantM.intro (c244_c _ (zk.le (by omega))) ?_
    simp -implicitDefEqProofs only [go_sem]
    repeat' first | (refine Want.intro (by first | exact c130_c _ 115 (by decide) | exact c130_c _ 102 (by decide) | exact c130_c _ 110 (by decide) | exact c130_c _ 114 (by decide) | exact c130_c _ 99 (by decide) | exact c130_c _ 112 (by decide) | exact c130_c _ 108 (by decide)) ?_; try simp -implicitDefEqProofs only [go_sem, condJ_true, condJ_false]) | (refine WantM.intro (by first | exact c130_c _ 115 (by decide) | exact c130_c _ 102 (by decide) | exact c130_c _ 110 (by decide) | exact c130_c _ 114 (by decide) | exact c130_c _ 99 (by decide) | exact c130_c _ 112 (by decide) | exact c130_c _ 108 (by decide)) ?_; try simp -implicitDefEqProofs only [go_sem, condJ_true, condJ_false]) | (refine guardP_intro (fun h => ?_) (fun h => ?_) <;> try simp -implicitDefEqProofs only [go_sem, condJ_true, condJ_false, h]) | (refine condJ_intro (fun h => ?_) (fun h => ?_) <;> try simp -implicitDefEqProofs only [go_sem, condJ_true, condJ_false, h])
    refine RetAt.intro (MMsg.avM ⟨3, (1 + pk (r.adv 1) 5), 0, (szD (r.adv 3)).1, (dgR (szD (r.adv 3)).2).1, 0, [], []⟩) (MMsg.outD ⟨3, (1 + pk (r.adv 1) 5), 0, (szD (r.adv 3)).1, (dgR (szD (r.adv 3)).2).1, 0, [], []⟩ (dgR (szD (r.adv 3)).2).2) ⟨⟨3, (1 + pk (r.adv 1) 5), 0, (szD (r.adv 3)).1, (dgR (szD (r.adv 3)).2).1, 0, [], []⟩, (dgR (szD (r.adv 3)).2).2, ⟨rfl, rfl⟩, ok_szr3 b2 z.1, dgR_dig _ (zk.le (by omega)), by simp, (dgR_ok _ zk).1.le (by omega)⟩ ?_
    simp -implicitDefEqProofs only [go_sem]
    first | done | rfl | exact ⟨rfl, rfl⟩
  · have z := c269_c (r.adv 4) ((h1.adv 4).le (by omega))
    have zp := z.2.2.1
    rw [adv_p] at zp
    have zd := z.2.1
    have zk : (szD (r.adv 4)).2.ok (r.p + 4 + 2) := ⟨zd.1, by omega⟩
    refine WantM.intro z.2.2.2 ?_
    simp -implicitDefEqProofs only [go_sem]
    repeat' first | (refine Want.intro (by first | exact c130_c _ 115 (by decide) | exact c130_c _ 102 (by decide) | exact c130_c _ 110 (by decide) | exact c130_c _ 114 (by decide) | exact c130_c _ 99 (by decide) | exact c130_c _ 112 (by decide) | exact c130_c _ 108 (by decide)) ?_; try simp -implicitDefEqProofs only [go_sem, condJ_true, condJ_false]) | (refine WantM.intro (by first | exact c130_c _ 115 (by decide) | exact c130_c _ 102 (by decide) | exact c130_c _ 110 (by decide) | exact c130_c _ 114 (by decide) | exact c130_c _ 99 (by decide) | exact c130_c _ 112 (by decide) | exact c130_c _ 108 (by decide)) ?_; try simp -implicitDefEqProofs only [go_sem, condJ_true, condJ_false]) | (refine guardP_intro (fun h => ?_) (fun h => ?_) <;> try simp -implicitDefEqProofs only [go_sem, condJ_true, condJ_false, h]) | (refine condJ_intro (fun h => ?_) (fun h => ?_) <;> try simp -implicitDefEqProofs only [go_sem, condJ_true, condJ_false, h])
    refine WantM.intro (c244_c _ (zk.le (by omega))) ?_
    simp -implicitDefEqProofs only [go_sem]
    repeat' first | (refine Want.intro (by first | exact c130_c _ 115 (by decide) | exact c130_c _ 102 (by decide) | exact c130_c _ 110 (by decide) | exact c130_c _ 114 (by decide) | exact c130_c _ 99 (by decide) | exact c130_c _ 112 (by decide) | exact c130_c _ 108 (by decide)) ?_; try simp -implicitDefEqProofs only [go_sem, condJ_true, condJ_false]) | (refine WantM.intro (by first | exact c130_c _ 115 (by decide) | exact c130_c _ 102 (by decide) | exact c130_c _ 110 (by decide) | exact c130_c _ 114 (by decide) | exact c130_c _ 99 (by decide) | exact c130_c _ 112 (by decide) | exact c130_c _ 108 (by decide)) ?_; try simp -implicitDefEqProofs only [go_sem, condJ_true, condJ_false]) | (refine guardP_intro (fun h => ?_) (fun h => ?_) <;> try simp -implicitDefEqProofs only [go_sem, condJ_true, condJ_false, h]) | (refine condJ_intro (fun h => ?_) (fun h => ?_) <;> try simp -implicitDefEqProofs only [go_sem, condJ_true, condJ_false, h])
    refine RetAt.intro (MMsg.avM ⟨6, (1000000 - pk (r.adv 3) 2), 0, (szD (r.adv 4)).1, (dgR (szD (r.adv 4)).2).1, 0, [], []⟩) (MMsg.outD ⟨6, (1000000 - pk (r.adv 3) 2), 0, (szD (r.adv 4)).1, (dgR (szD (r.adv 4)).2).1, 0, [], []⟩ (dgR (szD (r.adv 4)).2).2) ⟨⟨6, (1000000 - pk (r.adv 3) 2), 0, (szD (r.adv 4)).1, (dgR (szD (r.adv 4)).2).1, 0, [], []⟩, (dgR (szD (r.adv 4)).2).2, ⟨rfl, rfl⟩, ok_szr6 b1 z.1, dgR_dig _ (zk.le (by omega)), by simp, (dgR_ok _ zk).1.le (by omega)⟩ ?_
    simp -implicitDefEqProofs only [go_sem]
    first | done | rfl | exact ⟨rfl, rfl⟩
  · have z := c269_c (r.adv 3) ((h1.adv 3).le (by omega))
    have zp := z.2.2.1
    rw [adv_p] at zp
    have zd := z.2.1
    have zk : (szD (r.adv 3)).2.ok (r.p + 3 + 2) := ⟨zd.1, by omega⟩
    refine WantM.intro z.2.2.2 ?_
    simp -implicitDefEqProofs only [go_sem]
    repeat' first | (refine Want.intro (by first | exact c130_c _ 115 (by decide) | exact c130_c _ 102 (by decide) | exact c130_c _ 110 (by decide) | exact c130_c _ 114 (by decide) | exact c130_c _ 99 (by decide) | exact c130_c _ 112 (by decide) | exact c130_c _ 108 (by decide)) ?_; try simp -implicitDefEqProofs only [go_sem, condJ_true, condJ_false]) | (refine WantM.intro (by first | exact c130_c _ 115 (by decide) | exact c130_c _ 102 (by decide) | exact c130_c _ 110 (by decide) | exact c130_c _ 114 (by decide) | exact c130_c _ 99 (by decide) | exact c130_c _ 112 (by decide) | exact c130_c _ 108 (by decide)) ?_; try simp -implicitDefEqProofs only [go_sem, condJ_true, condJ_false]) | (refine guardP_intro (fun h => ?_) (fun h => ?_) <;> try simp -implicitDefEqProofs only [go_sem, condJ_true, condJ_false, h]) | (refine condJ_intro (fun h => ?_) (fun h => ?_) <;> try simp -implicitDefEqProofs only [go_sem, condJ_true, condJ_false, h])
    refine WantM.intro (c244_c _ (zk.le (by omega))) ?_
    simp -implicitDefEqProofs only [go_sem]
    repeat' first | (refine Want.intro (by first | exact c130_c _ 115 (by decide) | exact c130_c _ 102 (by decide) | exact c130_c _ 110 (by decide) | exact c130_c _ 114 (by decide) | exact c130_c _ 99 (by decide) | exact c130_c _ 112 (by decide) | exact c130_c _ 108 (by decide)) ?_; try simp -implicitDefEqProofs only [go_sem, condJ_true, condJ_false]) | (refine WantM.intro (by first | exact c130_c _ 115 (by decide) | exact c130_c _ 102 (by decide) | exact c130_c _ 110 (by decide) | exact c130_c _ 114 (by decide) | exact c130_c _ 99 (by decide) | exact c130_c _ 112 (by decide) | exact c130_c _ 108 (by decide)) ?_; try simp -implicitDefEqProofs only [go_sem, condJ_true, condJ_false]) | (refine guardP_intro (fun h => ?_) (fun h => ?_) <;> try simp -implicitDefEqProofs only [go_sem, condJ_true, condJ_false, h]) | (refine condJ_intro (fun h => ?_) (fun h => ?_) <;> try simp -implicitDefEqProofs only [go_sem, condJ_true, condJ_false, h])
    refine RetAt.intro (MMsg.avM ⟨6, (1 + pk (r.adv 1) 5), 0, (szD (r.adv 3)).1, (dgR (szD (r.adv 3)).2).1, 0, [], []⟩) (MMsg.outD ⟨6, (1 + pk (r.adv 1) 5), 0, (szD (r.adv 3)).1, (dgR (szD (r.adv 3)).2).1, 0, [], []⟩ (dgR (szD (r.adv 3)).2).2) ⟨⟨6, (1 + pk (r.adv 1) 5), 0, (szD (r.adv 3)).1, (dgR (szD (r.adv 3)).2).1, 0, [], []⟩, (dgR (szD (r.adv 3)).2).2, ⟨rfl, rfl⟩, ok_szr6 b2 z.1, dgR_dig _ (zk.le (by omega)), by simp, (dgR_ok _ zk).1.le (by omega)⟩ ?_
    simp -implicitDefEqProofs only [go_sem]
    first | done | rfl | exact ⟨rfl, rfl⟩
  · have z := c269_c r.nx (h1.nx.le (by omega))
    have zp := z.2.2.1
    rw [nx_p] at zp
    have zd := z.2.1
    have zk : (szD r.nx).2.ok (r.p + 3) := ⟨zd.1, by omega⟩
    refine WantM.intro z.2.2.2 ?_
    simp -implicitDefEqProofs only [go_sem]
    repeat' first | (refine Want.intro (by first | exact c130_c _ 115 (by decide) | exact c130_c _ 102 (by decide) | exact c130_c _ 110 (by decide) | exact c130_c _ 114 (by decide) | exact c130_c _ 99 (by decide) | exact c130_c _ 112 (by decide) | exact c130_c _ 108 (by decide)) ?_; try simp -implicitDefEqProofs only [go_sem, condJ_true, condJ_false]) | (refine WantM.intro (by first | exact c130_c _ 115 (by decide) | exact c130_c _ 102 (by decide) | exact c130_c _ 110 (by decide) | exact c130_c _ 114 (by decide) | exact c130_c _ 99 (by decide) | exact c130_c _ 112 (by decide) | exact c130_c _ 108 (by decide)) ?_; try simp -implicitDefEqProofs only [go_sem, condJ_true, condJ_false]) | (refine guardP_intro (fun h => ?_) (fun h => ?_) <;> try simp -implicitDefEqProofs only [go_sem, condJ_true, condJ_false, h]) | (refine condJ_intro (fun h => ?_) (fun h => ?_) <;> try simp -implicitDefEqProofs only [go_sem, condJ_true, condJ_false, h])
    have y := c269_c (szD r.nx).2 (zk.le (by omega))
    have yd := y.2.1
    have yp := y.2.2.1
    have yk : (szD (szD r.nx).2).2.ok (r.p + 5) := ⟨yd.1, by omega⟩
    refine WantM.intro y.2.2.2 ?_
    simp -implicitDefEqProofs only [go_sem]
    repeat' first | (refine Want.intro (by first | exact c130_c _ 115 (by decide) | exact c130_c _ 102 (by decide) | exact c130_c _ 110 (by decide) | exact c130_c _ 114 (by decide) | exact c130_c _ 99 (by decide) | exact c130_c _ 112 (by decide) | exact c130_c _ 108 (by decide)) ?_; try simp -implicitDefEqProofs only [go_sem, condJ_true, condJ_false]) | (refine WantM.intro (by first | exact c130_c _ 115 (by decide) | exact c130_c _ 102 (by decide) | exact c130_c _ 110 (by decide) | exact c130_c _ 114 (by decide) | exact c130_c _ 99 (by decide) | exact c130_c _ 112 (by decide) | exact c130_c _ 108 (by decide)) ?_; try simp -implicitDefEqProofs only [go_sem, condJ_true, condJ_false]) | (refine guardP_intro (fun h => ?_) (fun h => ?_) <;> try simp -implicitDefEqProofs only [go_sem, condJ_true, condJ_false, h]) | (refine condJ_intro (fun h => ?_) (fun h => ?_) <;> try simp -implicitDefEqProofs only [go_sem, condJ_true, condJ_false, h])
    refine RetAt.intro (MMsg.avM ⟨4, 0, (szD r.nx).1, (szD (szD r.nx).2).1, dig0, 0, [], []⟩) (MMsg.outD ⟨4, 0, (szD r.nx).1, (szD (szD r.nx).2).1, dig0, 0, [], []⟩ (szD (szD r.nx).2).2) ⟨⟨4, 0, (szD r.nx).1, (szD (szD r.nx).2).1, dig0, 0, [], []⟩, (szD (szD r.nx).2).2, ⟨rfl, rfl⟩, ok_fz z.1 y.1, dig0_ok, by simp, yk.le (by omega)⟩ ?_
    simp -implicitDefEqProofs only [go_sem]
    first | done | rfl | exact ⟨rfl, rfl⟩
  · have z := c269_c r.nx (h1.nx.le (by omega))
    have zp := z.2.2.1
    rw [nx_p] at zp
    have zd := z.2.1
    have zk : (szD r.nx).2.ok (r.p + 3) := ⟨zd.1, by omega⟩
    refine WantM.intro z.2.2.2 ?_
    simp -implicitDefEqProofs only [go_sem]
    repeat' first | (refine Want.intro (by first | exact c130_c _ 115 (by decide) | exact c130_c _ 102 (by decide) | exact c130_c _ 110 (by decide) | exact c130_c _ 114 (by decide) | exact c130_c _ 99 (by decide) | exact c130_c _ 112 (by decide) | exact c130_c _ 108 (by decide)) ?_; try simp -implicitDefEqProofs only [go_sem, condJ_true, condJ_false]) | (refine WantM.intro (by first | exact c130_c _ 115 (by decide) | exact c130_c _ 102 (by decide) | exact c130_c _ 110 (by decide) | exact c130_c _ 114 (by decide) | exact c130_c _ 99 (by decide) | exact c130_c _ 112 (by decide) | exact c130_c _ 108 (by decide)) ?_; try simp -implicitDefEqProofs only [go_sem, condJ_true, condJ_false]) | (refine guardP_intro (fun h => ?_) (fun h => ?_) <;> try simp -implicitDefEqProofs only [go_sem, condJ_true, condJ_false, h]) | (refine condJ_intro (fun h => ?_) (fun h => ?_) <;> try simp -implicitDefEqProofs only [go_sem, condJ_true, condJ_false, h])
    have y := c269_c (szD r.nx).2 (zk.le (by omega))
    have yd := y.2.1
    have yp := y.2.2.1
    have yk : (szD (szD r.nx).2).2.ok (r.p + 5) := ⟨yd.1, by omega⟩
    refine WantM.intro y.2.2.2 ?_
    simp -implicitDefEqProofs only [go_sem]
    repeat' first | (refine Want.intro (by first | exact c130_c _ 115 (by decide) | exact c130_c _ 102 (by decide) | exact c130_c _ 110 (by decide) | exact c130_c _ 114 (by decide) | exact c130_c _ 99 (by decide) | exact c130_c _ 112 (by decide) | exact c130_c _ 108 (by decide)) ?_; try simp -implicitDefEqProofs only [go_sem, condJ_true, condJ_false]) | (refine WantM.intro (by first | exact c130_c _ 115 (by decide) | exact c130_c _ 102 (by decide) | exact c130_c _ 110 (by decide) | exact c130_c _ 114 (by decide) | exact c130_c _ 99 (by decide) | exact c130_c _ 112 (by decide) | exact c130_c _ 108 (by decide)) ?_; try simp -implicitDefEqProofs only [go_sem, condJ_true, condJ_false]) | (refine guardP_intro (fun h => ?_) (fun h => ?_) <;> try simp -implicitDefEqProofs only [go_sem, condJ_true, condJ_false, h]) | (refine condJ_intro (fun h => ?_) (fun h => ?_) <;> try simp -implicitDefEqProofs only [go_sem, condJ_true, condJ_false, h])
    generalize (szD (szD r.nx).2).2 = R at *
    generalize (szD (szD r.nx).2).1 = ZZ at *
    generalize (szD r.nx).1 = FF at *
    have hq := pick_lt (yk.le (b := 1000000000) (by omega)) (n := 5) (by omega)
    refine WantM.intro (pickM 5 (yk.le (by omega))) ?_
    simp -implicitDefEqProofs only [go_sem]
    obtain ⟨K, hK⟩ : ∃ K : Nat, pk R 5 = K := ⟨(pk R 5).toNat, by omega⟩
    have hK4 : K ≤ 4 := by omega
    rw [hK]
    refine jv_lpN [(10003, 4)] (fun m s => ∃ (i : Nat) (l : List MDig) (Q : Dr), i ≤ K ∧ m = K - i ∧ l.length = i ∧ (∀ d ∈ l, d.ok) ∧ Q.ok (r.p + 6 + 36 * i) ∧ s = ⟨105, [(0, vD), (2, .ptr 2 0 [] 11 0 0), (3, .ptr 3 0 [] 11 0 0), (4, vS ⟨#[102, 110, 112]⟩), (5, vI ((K - i : Nat) : Int))], [(1000000, 0, one ⟨2, [Q.cs], 0, false⟩), (2, 0, one ⟨11, [zRow], 0, false⟩), (3, 0, one ⟨11, [[vI 5, vI 0, vI FF, vI ZZ, vU 0, vU 0, vU 0, vU 0, vI 0, .blk 10003 0 [] 4 0 l.length, .nilS]], 0, false⟩), (10003, 0, one ⟨4, l.map MDig.cs, 2, false⟩)], 1⟩) K ?_ ?_
    · simp -implicitDefEqProofs only [go_sem]
      exact ⟨0, [], R.nx, by omega, rfl, rfl, by simp, yk.nx, rfl⟩
    · rintro m s ⟨i, l, Q, hi, rfl, hl, hd, hQ, rfl⟩
      rcases Nat.lt_or_ge i K with hlt | hge
      · have hlt' : ((K - i : Nat) : Int) > 0 := by omega
        have w4 : IntKind.i64.wrap (((K - i : Nat) : Int) - 1) = ((K - (i + 1) : Nat) : Int) := by rw [wrS (by omega)]; omega
        have ha : ∀ x, _ := fun x => app_ok (E := MDig.cs) (l := l) (xs := [x]) (b := 32) (n := 100) (by simp; omega) (by omega) (by omega)
        simp -implicitDefEqProofs only [go_sem, hlt']
        refine WantM.intro (c244_c Q (hQ.le (by omega))) ?_
        simp -implicitDefEqProofs only [go_sem, ha, w4]
        refine ⟨_, by omega, i + 1, l ++ [(dgR Q).1], (dgR Q).2, hlt, rfl, by simp [hl], ?_, ((dgR_ok Q hQ).1.le (by omega)), ?_⟩
        · intro d hdm
          rcases List.mem_append.1 hdm with hdm | hdm
          · exact hd d hdm
          · rw [List.mem_singleton.1 hdm]
            exact dgR_dig Q (hQ.le (by omega))
        · simp [MDig.cs, Dr.cs]
      · have hiK : i = K := by omega
        subst hiK
        have hlt' : ¬ (((i - i : Nat) : Int) > 0) := by omega
        have hq2 := pick_lt (hQ.le (b := 1000000000) (by omega)) (n := 12) (by omega)
        simp -implicitDefEqProofs only [go_sem, hlt']
        refine WantM.intro (pickM 12 (hQ.le (by omega))) ?_
        simp -implicitDefEqProofs only [go_sem]
        refine condJ_intro (fun h => ?_) (fun h => ?_)
        · simp -implicitDefEqProofs only [go_sem, h]
          clear hK hq
          refine jv_lp (fun m s => ∃ (n : Nat) (l : List MDig), l.length = n ∧ n ≤ 16 ∧ m = 16 - n ∧ (∀ d ∈ l, d.ok) ∧ s = ⟨105, [(0, vD), (2, .ptr 2 0 [] 11 0 0), (3, .ptr 3 0 [] 11 0 0), (4, vS ⟨#[102, 110, 112]⟩)], [(1000000, 0, one ⟨2, [Q.nx.cs], 0, false⟩), (2, 0, one ⟨11, [zRow], 0, false⟩), (3, 0, one ⟨11, [[vI 5, vI 0, vI FF, vI ZZ, vU 0, vU 0, vU 0, vU 0, vI 0, .blk 10003 0 [] 4 0 l.length, .nilS]], 0, false⟩), (10003, 0, one ⟨4, l.map MDig.cs, 2, false⟩)], 1⟩) (16 - l.length) ?_ ?_
          · simp -implicitDefEqProofs only [go_sem]
            exact ⟨l.length, l, rfl, by omega, rfl, hd, rfl⟩
          · rintro m s ⟨n, l, rfl, hn, rfl, hd, rfl⟩
            rcases Nat.lt_or_ge l.length 16 with hlt | hge
            · have hlt' : (l.length : Int) < 16 := by omega
              have ha : ∀ x, _ := fun x => app_ok (E := MDig.cs) (l := l) (xs := [x]) (b := 32) (n := 100) (by simp; omega) (by omega) (by omega)
              simp -implicitDefEqProofs only [go_sem, hlt', ha]
              refine ⟨_, ?_, (l ++ [dig0]).length, l ++ [dig0], rfl, by simp; omega, rfl, ?_, ?_⟩
              · simp; omega
              · intro d hdm
                rcases List.mem_append.1 hdm with hdm | hdm
                · exact hd d hdm
                · rw [List.mem_singleton.1 hdm]
                  exact dig0_ok
              · simp [MDig.cs, dig0]
                rfl
            · have hlt' : ¬ (l.length : Int) < 16 := by omega
              simp -implicitDefEqProofs only [go_sem, hlt']
              repeat' first | (refine Want.intro (by first | exact c130_c _ 115 (by decide) | exact c130_c _ 102 (by decide) | exact c130_c _ 110 (by decide) | exact c130_c _ 114 (by decide) | exact c130_c _ 99 (by decide) | exact c130_c _ 112 (by decide) | exact c130_c _ 108 (by decide)) ?_; try simp -implicitDefEqProofs only [go_sem, condJ_true, condJ_false]) | (refine WantM.intro (by first | exact c130_c _ 115 (by decide) | exact c130_c _ 102 (by decide) | exact c130_c _ 110 (by decide) | exact c130_c _ 114 (by decide) | exact c130_c _ 99 (by decide) | exact c130_c _ 112 (by decide) | exact c130_c _ 108 (by decide)) ?_; try simp -implicitDefEqProofs only [go_sem, condJ_true, condJ_false]) | (refine guardP_intro (fun h => ?_) (fun h => ?_) <;> try simp -implicitDefEqProofs only [go_sem, condJ_true, condJ_false, h]) | (refine condJ_intro (fun h => ?_) (fun h => ?_) <;> try simp -implicitDefEqProofs only [go_sem, condJ_true, condJ_false, h])
              refine RetAt.intro (MMsg.avM ⟨5, 0, FF, ZZ, dig0, 0, l, []⟩) (MMsg.outD ⟨5, 0, FF, ZZ, dig0, 0, l, []⟩ Q.nx) ⟨⟨5, 0, FF, ZZ, dig0, 0, l, []⟩, Q.nx, ⟨rfl, rfl⟩, ok_fzp z.1 y.1 hn, dig0_ok, hd, hQ.nx.le (by omega)⟩ ?_
              simp -implicitDefEqProofs only [go_sem]
              first | done | rfl | exact ⟨rfl, rfl⟩
        · simp -implicitDefEqProofs only [go_sem, h]
          repeat' first | (refine Want.intro (by first | exact c130_c _ 115 (by decide) | exact c130_c _ 102 (by decide) | exact c130_c _ 110 (by decide) | exact c130_c _ 114 (by decide) | exact c130_c _ 99 (by decide) | exact c130_c _ 112 (by decide) | exact c130_c _ 108 (by decide)) ?_; try simp -implicitDefEqProofs only [go_sem, condJ_true, condJ_false]) | (refine WantM.intro (by first | exact c130_c _ 115 (by decide) | exact c130_c _ 102 (by decide) | exact c130_c _ 110 (by decide) | exact c130_c _ 114 (by decide) | exact c130_c _ 99 (by decide) | exact c130_c _ 112 (by decide) | exact c130_c _ 108 (by decide)) ?_; try simp -implicitDefEqProofs only [go_sem, condJ_true, condJ_false]) | (refine guardP_intro (fun h => ?_) (fun h => ?_) <;> try simp -implicitDefEqProofs only [go_sem, condJ_true, condJ_false, h]) | (refine condJ_intro (fun h => ?_) (fun h => ?_) <;> try simp -implicitDefEqProofs only [go_sem, condJ_true, condJ_false, h])
          refine RetAt.intro (MMsg.avM ⟨5, 0, FF, ZZ, dig0, 0, l, []⟩) (MMsg.outD ⟨5, 0, FF, ZZ, dig0, 0, l, []⟩ Q.nx) ⟨⟨5, 0, FF, ZZ, dig0, 0, l, []⟩, Q.nx, ⟨rfl, rfl⟩, ok_fzp z.1 y.1 (by omega), dig0_ok, hd, hQ.nx.le (by omega)⟩ ?_
          simp -implicitDefEqProofs only [go_sem]
          first | done | rfl | exact ⟨rfl, rfl⟩
  · have z := c269_c r.nx (h1.nx.le (by omega))
    have zp := z.2.2.1
    rw [nx_p] at zp
    have zd := z.2.1
    have zk : (szD r.nx).2.ok (r.p + 3) := ⟨zd.1, by omega⟩
    refine WantM.intro z.2.2.2 ?_
    simp -implicitDefEqProofs only [go_sem]
    repeat' first | (refine Want.intro (by first | exact c130_c _ 115 (by decide) | exact c130_c _ 102 (by decide) | exact c130_c _ 110 (by decide) | exact c130_c _ 114 (by decide) | exact c130_c _ 99 (by decide) | exact c130_c _ 112 (by decide) | exact c130_c _ 108 (by decide)) ?_; try simp -implicitDefEqProofs only [go_sem, condJ_true, condJ_false]) | (refine WantM.intro (by first | exact c130_c _ 115 (by decide) | exact c130_c _ 102 (by decide) | exact c130_c _ 110 (by decide) | exact c130_c _ 114 (by decide) | exact c130_c _ 99 (by decide) | exact c130_c _ 112 (by decide) | exact c130_c _ 108 (by decide)) ?_; try simp -implicitDefEqProofs only [go_sem, condJ_true, condJ_false]) | (refine guardP_intro (fun h => ?_) (fun h => ?_) <;> try simp -implicitDefEqProofs only [go_sem, condJ_true, condJ_false, h]) | (refine condJ_intro (fun h => ?_) (fun h => ?_) <;> try simp -implicitDefEqProofs only [go_sem, condJ_true, condJ_false, h])
    have q8 := pick_lt (zk.le (b := 1000000000) (by omega)) (n := 8) (by omega)
    have w8 : IntKind.i64.wrap (1 + pk (szD r.nx).2 8) = 1 + pk (szD r.nx).2 8 := wrS (by omega)
    refine WantM.intro (pickM 8 (zk.le (by omega))) ?_
    simp -implicitDefEqProofs only [go_sem, w8]
    repeat' first | (refine Want.intro (by first | exact c130_c _ 115 (by decide) | exact c130_c _ 102 (by decide) | exact c130_c _ 110 (by decide) | exact c130_c _ 114 (by decide) | exact c130_c _ 99 (by decide) | exact c130_c _ 112 (by decide) | exact c130_c _ 108 (by decide)) ?_; try simp -implicitDefEqProofs only [go_sem, condJ_true, condJ_false]) | (refine WantM.intro (by first | exact c130_c _ 115 (by decide) | exact c130_c _ 102 (by decide) | exact c130_c _ 110 (by decide) | exact c130_c _ 114 (by decide) | exact c130_c _ 99 (by decide) | exact c130_c _ 112 (by decide) | exact c130_c _ 108 (by decide)) ?_; try simp -implicitDefEqProofs only [go_sem, condJ_true, condJ_false]) | (refine guardP_intro (fun h => ?_) (fun h => ?_) <;> try simp -implicitDefEqProofs only [go_sem, condJ_true, condJ_false, h]) | (refine condJ_intro (fun h => ?_) (fun h => ?_) <;> try simp -implicitDefEqProofs only [go_sem, condJ_true, condJ_false, h])
    refine RetAt.intro (MMsg.avM ⟨7, 0, (szD r.nx).1, 0, dig0, 1 + pk (szD r.nx).2 8, [], []⟩) (MMsg.outD ⟨7, 0, (szD r.nx).1, 0, dig0, 1 + pk (szD r.nx).2 8, [], []⟩ (szD r.nx).2.nx) ⟨⟨7, 0, (szD r.nx).1, 0, dig0, 1 + pk (szD r.nx).2 8, [], []⟩, (szD r.nx).2.nx, ⟨rfl, rfl⟩, ok_fc z.1 (by omega), dig0_ok, by simp, zk.nx.le (by omega)⟩ ?_
    simp -implicitDefEqProofs only [go_sem]
    first | done | rfl | exact ⟨rfl, rfl⟩
  · have z := c269_c r.nx (h1.nx.le (by omega))
    have zp := z.2.2.1
    rw [nx_p] at zp
    have zd := z.2.1
    have zk : (szD r.nx).2.ok (r.p + 3) := ⟨zd.1, by omega⟩
    refine WantM.intro z.2.2.2 ?_
    simp -implicitDefEqProofs only [go_sem]
    repeat' first | (refine Want.intro (by first | exact c130_c _ 115 (by decide) | exact c130_c _ 102 (by decide) | exact c130_c _ 110 (by decide) | exact c130_c _ 114 (by decide) | exact c130_c _ 99 (by decide) | exact c130_c _ 112 (by decide) | exact c130_c _ 108 (by decide)) ?_; try simp -implicitDefEqProofs only [go_sem, condJ_true, condJ_false]) | (refine WantM.intro (by first | exact c130_c _ 115 (by decide) | exact c130_c _ 102 (by decide) | exact c130_c _ 110 (by decide) | exact c130_c _ 114 (by decide) | exact c130_c _ 99 (by decide) | exact c130_c _ 112 (by decide) | exact c130_c _ 108 (by decide)) ?_; try simp -implicitDefEqProofs only [go_sem, condJ_true, condJ_false]) | (refine guardP_intro (fun h => ?_) (fun h => ?_) <;> try simp -implicitDefEqProofs only [go_sem, condJ_true, condJ_false, h]) | (refine condJ_intro (fun h => ?_) (fun h => ?_) <;> try simp -implicitDefEqProofs only [go_sem, condJ_true, condJ_false, h])
    generalize (szD r.nx).2 = R at *
    generalize (szD r.nx).1 = FF at *
    have hq := pick_lt (zk.le (b := 1000000000) (by omega)) (n := 9) (by omega)
    refine WantM.intro (pickM 9 (zk.le (by omega))) ?_
    simp -implicitDefEqProofs only [go_sem]
    obtain ⟨K, hK⟩ : ∃ K : Nat, pk R 9 = K := ⟨(pk R 9).toNat, by omega⟩
    have hK8 : K ≤ 8 := by omega
    rw [hK]
    refine jv_lpN [(11003, 1)] (fun m s => ∃ (i : Nat) (l : List ByteArray) (Q : Dr), i ≤ K ∧ m = K - i ∧ l.length = i ∧ leavesOk l = true ∧ Q.ok (r.p + 4 + 10 * i) ∧ s = ⟨105, [(0, vD), (2, .ptr 2 0 [] 11 0 0), (3, .ptr 3 0 [] 11 0 0), (6, vI ((K - i : Nat) : Int))], [(1000000, 0, one ⟨2, [Q.cs], 0, false⟩), (2, 0, one ⟨11, [zRow], 0, false⟩), (3, 0, one ⟨11, [[vI 8, vI 0, vI FF, vI 0, vU 0, vU 0, vU 0, vU 0, vI 0, .nilS, .blk 10003 0 [] 1 0 l.length]], 0, false⟩), (10003, 0, one ⟨1, l.map leafCs, 2, false⟩)], 1⟩) K ?_ ?_
    · simp -implicitDefEqProofs only [go_sem]
      exact ⟨0, [], R.nx, by omega, rfl, rfl, rfl, zk.nx, rfl⟩
    · rintro m s ⟨i, l, Q, hi, rfl, hl, hd, hQ, rfl⟩
      rcases Nat.lt_or_ge i K with hlt | hge
      · have hlt' : ((K - i : Nat) : Int) > 0 := by omega
        have w4 : IntKind.i64.wrap (((K - i : Nat) : Int) - 1) = ((K - (i + 1) : Nat) : Int) := by rw [wrS (by omega)]; omega
        have ha : ∀ x, _ := fun x => app_ok (E := leafCs) (l := l) (xs := [x]) (b := 16) (n := 100) (by simp; omega) (by omega) (by omega)
        have ht := tx_ok Q 4 hQ (by omega) (by omega)
        simp -implicitDefEqProofs only [go_sem, hlt']
        refine WantM.intro (c246_c Q 4 (hQ.le (by omega)) (by omega)) ?_
        simp -implicitDefEqProofs only [go_sem, ha, w4]
        refine ⟨_, by omega, i + 1, l ++ [(tx Q 4).1], (tx Q 4).2, hlt, rfl, by simp [hl], ?_, ht.1.le (by omega), ?_⟩
        · have h4 := ht.2
          simp only [leavesOk, List.all_append, List.all_cons, List.all_nil, Bool.and_true, Bool.and_eq_true, decide_eq_true_eq] at hd ⊢
          exact ⟨hd, by omega⟩
        · simp [leafCs, Dr.cs]
      · have hiK : i = K := by omega
        subst hiK
        have hlt' : ¬ (((i - i : Nat) : Int) > 0) := by omega
        have hq2 := pick_lt (hQ.le (b := 1000000000) (by omega)) (n := 8) (by omega)
        simp -implicitDefEqProofs only [go_sem, hlt']
        refine WantM.intro (pickM 8 (hQ.le (by omega))) ?_
        simp -implicitDefEqProofs only [go_sem]
        refine guardP_intro (fun h => ?_) (fun h => ?_)
        · simp -implicitDefEqProofs only [go_sem, h]
          refine condJ_intro (fun h => ?_) (fun h => ?_)
          · have hpos : 0 < l.length := by have := of_decide_eq_true h; omega
            have hpos' : (0 : Int) < (l.length : Int) := by omega
            have hg : l[0]? = some l[0] := List.getElem?_eq_getElem hpos
            simp -implicitDefEqProofs only [go_sem, h]
            refine Want.intro many40 ?_
            simp -implicitDefEqProofs only [go_sem, hpos', hg]
            refine RetAt.intro (MMsg.avM ⟨8, 0, FF, 0, dig0, 0, [], l.set 0 (bA (rep [107] 40))⟩) (MMsg.outD ⟨8, 0, FF, 0, dig0, 0, [], l.set 0 (bA (rep [107] 40))⟩ Q.nx) ⟨⟨8, 0, FF, 0, dig0, 0, [], l.set 0 (bA (rep [107] 40))⟩, Q.nx, ⟨rfl, rfl⟩, ok_fl z.1 (by simp; omega) (leavesOk_set hd 0 (by rw [bA_size, rep_len]; decide)), dig0_ok, by simp, hQ.nx.le (by omega)⟩ ?_
            simp -implicitDefEqProofs only [go_sem, List.map_set]
            first | done | rfl | exact ⟨rfl, rfl⟩ | trace_state
          · simp -implicitDefEqProofs only [go_sem, h]
            refine RetAt.intro (MMsg.avM ⟨8, 0, FF, 0, dig0, 0, [], l⟩) (MMsg.outD ⟨8, 0, FF, 0, dig0, 0, [], l⟩ Q.nx) ⟨⟨8, 0, FF, 0, dig0, 0, [], l⟩, Q.nx, ⟨rfl, rfl⟩, ok_fl z.1 (by omega) hd, dig0_ok, by simp, hQ.nx.le (by omega)⟩ ?_
            simp -implicitDefEqProofs only [go_sem]
            first | done | rfl | exact ⟨rfl, rfl⟩
        · simp -implicitDefEqProofs only [go_sem, h, condJ_false]
          refine RetAt.intro (MMsg.avM ⟨8, 0, FF, 0, dig0, 0, [], l⟩) (MMsg.outD ⟨8, 0, FF, 0, dig0, 0, [], l⟩ Q.nx) ⟨⟨8, 0, FF, 0, dig0, 0, [], l⟩, Q.nx, ⟨rfl, rfl⟩, ok_fl z.1 (by omega) hd, dig0_ok, by simp, hQ.nx.le (by omega)⟩ ?_
          simp -implicitDefEqProofs only [go_sem]
          first | done | rfl | exact ⟨rfl, rfl⟩
end Go.Proofs.YtjlhdfciklnndaaGreat.E
