/-
  The law of WitnessHear.
-/
import Derived.Test.YtjlhdfciklnndaaGreatVB
import Derived.Test.YtjlhdfciklnndaaGreatVC
import Derived.Test.YtjlhdfciklnndaaGreatLT
namespace Go.Proofs.YtjlhdfciklnndaaGreat.E
open Go Go.RowKit
set_option maxHeartbeats 4000000
set_option maxRecDepth 10000
set_option linter.unusedSimpArgs false
set_option linter.unusedVariables false
set_option linter.unusedSectionVars false
def dcVL : Dec := ⟨[(47, .cm [true, false, false]), (48, .cm [false, false, false]), (59, .cm [false]), (60, .cm [true, true]), (62, .cm [true, false]), (63, .cm [true, false]), (64, .cm [true, false])], [9, 10, 11], [27, 30, 44, 45, 46, 58, 68, 78, 79, 86, 101, 112, 113, 132, 174, 196, 247, 249, 351, 356], true⟩

theorem base_sm {w : MWit} (h : w.wishes.length ≤ 8) : (MHeard.base w).sm := ⟨by show w.wishes.length ≤ _; omega, Nat.zero_le _, fun k e => (by cases e), Nat.zero_le _, Nat.zero_le _⟩
theorem vouch_sm {w : MWit} {held : MPt} {me who s : Int} {p : MPt} (h : w.wishes.length ≤ 8) : (mHVouch w held me who s p).sm := by
  unfold mHVouch
  split
  · exact base_sm h
  · split
    · exact ⟨by show w.wishes.length ≤ _; omega, Nat.zero_le _, fun k e => (by cases e), by show 1 ≤ _; omega, Nat.zero_le _⟩
    · split
      · exact ⟨by show w.wishes.length ≤ _; omega, Nat.zero_le _, fun k e => (by cases e), Nat.zero_le _, by show 1 ≤ _; omega⟩
      · split
        · rename_i h8
          exact ⟨by show (mWishIn w.wishes ⟨who, s, p⟩).length ≤ _; omega, Nat.zero_le _, fun k e => (by cases e), by show 1 ≤ _; omega, Nat.zero_le _⟩
        · exact base_sm h
theorem mRaws_bd (d : MDisk) (size : Int) (root : MDig) : (mRaws d size root).length ≤ 8 := by
  rw [mRaws_eq]
  split
  · exact Nat.le_refl 8
  · exact Nat.zero_le _
theorem growth_sm {w : MWit} {held : MPt} {me : Int} {m : MMsg} (h : w.wishes.length ≤ 8) (hp : m.proof.length ≤ 1000) : (mHGrowth w held me m).sm := by
  have h1 := gF_le held m.size m.proof w.wishes
  have h2 := hvF_le me (gF held m.size m.proof w.wishes).p (gF held m.size m.proof w.wishes).al (gF held m.size m.proof w.wishes).left
  have h3 := mRaws_bd w.disk (gF held m.size m.proof w.wishes).p.size (gF held m.size m.proof w.wishes).p.root
  unfold mHGrowth
  generalize gF held m.size m.proof w.wishes = S at *
  split
  · exact base_sm h
  · split
    · exact ⟨by show S.left.length ≤ _; omega, Nat.zero_le _, fun k e => (by cases e), Nat.zero_le _, by show S.al.length ≤ _; omega⟩
    · split
      · exact base_sm h
      · generalize hvF me S.p S.al S.left = H at *
        exact ⟨by show H.rest.length ≤ _; omega, by show (mRaws w.disk S.p.size S.p.root).length ≤ _; omega, fun k e => (by cases e; show m.proof.length ≤ _; omega), by show H.le.length ≤ _; omega, by show H.al.length ≤ _; omega⟩
theorem mWHear_sm {w : MWit} {me : Int} {l : MLet} : (mWHear w me l).sm := by
  unfold mWHear
  split
  · rename_i h
    simp only [Bool.and_eq_true] at h
    have h8 := witOk_len h.1
    split
    · exact vouch_sm h8
    · split
      · exact growth_sm h8 (mWire_len l.text).1
      · exact base_sm h8
  · exact ⟨Nat.zero_le _, Nat.zero_le _, fun k e => (by cases e), Nat.zero_le _, Nat.zero_le _⟩
theorem mkHd_shape (h : MHeard) (k : Int) : (mkHd h k).disk = h.disk ∧ (mkHd h k).wishes.length = h.wishes.length ∧ (mkHd h k).raws.length = h.raws.length ∧ (mkHd h k).letters.length = h.letters.length ∧ (mkHd h k).alarms.length = h.alarms.length ∧ ((h.kept = none ∧ (mkHd h k).kept = none) ∨ ∃ q q', h.kept = some q ∧ (mkHd h k).kept = some q') := by
  refine ⟨rfl, gMark_len, gMark_len, gMark_len, gMark_len, ?_⟩
  unfold mkHd hdK
  cases e : h.kept with
  | none => exact .inl ⟨rfl, rfl⟩
  | some q => exact .inr ⟨q, _, rfl, rfl⟩
/-- The rows of what is heard, in a slot; marked. -/
def hRowsM (s : Nat) (T M : MHeard) : Sig := [(s, 0, one ⟨19, [hcells T.disk (.blk (10000 + s) 0 [] 7 0 T.wishes.length) (.blk (20000 + s) 0 [] 3 0 T.raws.length) (.blk (30000 + s) 0 [] 11 0 T.kept.toList.length) (.blk (40000 + s) 0 [] 3 0 T.letters.length) (.blk (50000 + s) 0 [] 13 0 T.alarms.length)], 0, false⟩), (10000 + s, 0, one ⟨7, M.wishes.map MWish.cs, 2, false⟩), (20000 + s, 0, one ⟨3, M.raws.map MRaw.cs, 2, false⟩), (30000 + s, 0, one (kRow M.kept (60000 + s))), (40000 + s, 0, one ⟨3, M.letters.map MLet.cs, 2, false⟩), (50000 + s, 0, one ⟨13, M.alarms.map MAl.cs, 2, false⟩)] ++ kSig M.kept (60000 + s)
def hRows (s : Nat) (T : MHeard) : Sig := hRowsM s T T
attribute [go_sem] hRows hRowsM
theorem c9_c (w : MWit) (me : Int) (l : MLet) (hd : w.disk.ok) (hs : w.wishes.length ≤ maxLen) (hwo : ∀ x ∈ w.wishes, x.pt.root.ok) (hl : l.text.size ≤ maxLen) : CallR Tryz.prog 9 [w.ro, vI me, .agg l.cs] (vB true) [] := by
  refine use_of dcVL false Tryz.f9 ?_
  conv => enter [1]; reduce
  refine jvR Tryz.f9 87 [.tmp 6] (by kernel_rfl) (by decide +kernel) rfl ?_
  simp -implicitDefEqProofs only [go_sem]
  refine Want.intro (c58_c w 1048576 hs (by omega)) ?_
  simp -implicitDefEqProofs only [go_sem]
  refine condJ_intro (fun h => ?_) (fun h => ?_)
  · simp -implicitDefEqProofs only [go_sem, h]
  · have k0 := szN_bd (of_decide_eq_false h)
    simp -implicitDefEqProofs only [go_sem, h]
    refine Want.intro (c11_c l _ hl (by omega)) ?_
    simp -implicitDefEqProofs only [go_sem]
    refine condJ_intro (fun h => ?_) (fun h => ?_)
    · simp -implicitDefEqProofs only [go_sem, h]
    · simp -implicitDefEqProofs only [go_sem, h]
      have hT := c59_c w (by omega)
      have hL := c14_c l
      have hS := c48_c w me l hd hs hwo
      have hI := c47_c w me l hd hs
      have hsm := mWHear_sm (w := w) (me := me) (l := l)
      generalize mWHear w me l = T at *
      have hE := c60_c T hsm
      have hM := c63_c T 1 hsm (by omega)
      have hH := c64_c T 1 hsm (by omega)
      have hbx := (hb hsm (k := 1) (by omega)).x
      have hbN : ¬ ((hdX T 1).2 < 0) := by omega
      have hnum := mkWish_num w.wishes.length 1
      have hkN : ¬ ((gMark mkWish w.wishes.length 1).2 < 0) := by omega
      have hEC := c61_c w hs
      have hMW := c62_c w.disk w.wishes 1 (by omega) (by omega)
      obtain ⟨z1, z2, z3, z4, z5, z6⟩ := mkHd_shape T 1
      generalize mkHd T 1 = M at *
      generalize (hdX T 1).2 = N at *
      obtain ⟨dd, ww, rr, kk, ll, aa⟩ := T
      obtain ⟨dd', ww', rr', kk', ll', aa'⟩ := M
      simp only at z1 z2 z3 z4 z5 z6
      subst z1
      obtain ⟨disk, wishes⟩ := w
      simp only at hd hs hwo k0 hnum hMW
      rcases z6 with ⟨rfl, rfl⟩ | ⟨q, q', rfl, rfl⟩
      · have hv : hdV (⟨dd', ww', rr', none, ll', aa'⟩ : MHeard) 1000000 = hdV (⟨dd', ww, rr, none, ll, aa⟩ : MHeard) 1000000 := by simp only [hdV, z2, z3, z4, z5]; try rfl
        rw [hv] at hH
        refine ct_intro [1, 3, 5, 8] [] (fun s => s = ⟨87, [(1, vI me), (3, .ptr 3 0 [] 15 0 0), (5, .ptr 5 0 [] 3 0 0), (8, .ptr 8 0 [] 19 0 0)], (3, 0, one ⟨15, [MWit.cs ⟨disk, wishes⟩ (.ro 7 (wishes.map MWish.cs))], 0, false⟩) :: (5, 0, one ⟨3, [l.cs], 0, false⟩) :: hRows 8 (⟨dd', ww, rr, none, ll, aa⟩ : MHeard), 1⟩) ?_ ?_
        · simp -implicitDefEqProofs only [go_sem]
          repeat' first | (refine Want.intro (by first | exact hT | exact hL | exact hS) ?_; try simp -implicitDefEqProofs only [go_sem]) | (refine WantM.intro (by first | exact hT | exact hL | exact hS) ?_; try simp -implicitDefEqProofs only [go_sem]) | (with_reducible refine And.intro ?_ ?_) | (refine guardP_intro (fun h => ?_) (fun h => ?_) <;> try simp -implicitDefEqProofs only [go_sem, h]) | (refine condJ_intro (fun h => ?_) (fun h => ?_) <;> try simp -implicitDefEqProofs only [go_sem, h])
          all_goals first | done | rfl | trace_state
        · rintro s rfl
          simp -implicitDefEqProofs only [go_sem]
          refine WantM.intro hT ?_
          simp -implicitDefEqProofs only [go_sem]
          refine ct_intro [1, 3, 5, 8, 9, 10] [] (fun s => s = ⟨87, [(1, vI me), (3, .ptr 3 0 [] 15 0 0), (5, .ptr 5 0 [] 3 0 0), (8, .ptr 8 0 [] 19 0 0), (9, .ptr 9 0 [] 15 0 0), (10, .ptr 10 0 [] 19 0 0)], (3, 0, one ⟨15, [MWit.cs ⟨disk, wishes⟩ (.ro 7 (wishes.map MWish.cs))], 0, false⟩) :: (5, 0, one ⟨3, [l.cs], 0, false⟩) :: (hRows 8 (⟨dd', ww, rr, none, ll, aa⟩ : MHeard) ++ ((9, 0, one ⟨15, [MWit.cs ⟨disk, wishes⟩ (.blk 10009 0 [] 7 0 wishes.length)], 0, false⟩) :: (10009, 0, one ⟨7, wishes.map MWish.cs, 2, false⟩) :: hRows 10 (⟨dd', ww, rr, none, ll, aa⟩ : MHeard))), 1⟩) ?_ ?_
          · simp -implicitDefEqProofs only [go_sem]
            repeat' first | (refine Want.intro (by first | exact hT | exact hL | exact hI) ?_; try simp -implicitDefEqProofs only [go_sem]) | (refine WantM.intro (by first | exact hT | exact hL | exact hI) ?_; try simp -implicitDefEqProofs only [go_sem]) | (with_reducible refine And.intro ?_ ?_) | (refine guardP_intro (fun h => ?_) (fun h => ?_) <;> try simp -implicitDefEqProofs only [go_sem, h]) | (refine condJ_intro (fun h => ?_) (fun h => ?_) <;> try simp -implicitDefEqProofs only [go_sem, h])
            all_goals first | done | rfl | trace_state
          · rintro s rfl
            simp -implicitDefEqProofs only [go_sem]
            refine WantM.intro hE ?_
            simp -implicitDefEqProofs only [go_sem]
            refine WantM.intro hT ?_
            simp -implicitDefEqProofs only [go_sem]
            refine Want.intro hEC ?_
            simp -implicitDefEqProofs only [go_sem]
            refine WantM.intro hMW ?_
            simp -implicitDefEqProofs only [go_sem, hkN, guardP_ff]
            refine WantM.intro hE ?_
            simp -implicitDefEqProofs only [go_sem]
            refine WantM.intro hM ?_
            simp -implicitDefEqProofs only [go_sem]
            refine WantM.intro hH ?_
            simp -implicitDefEqProofs only [go_sem, hbN, bne_self_eq_false]
            refine ct_intro [8, 10, 12, 14] [] (fun s => s = ⟨87, [(8, .ptr 8 0 [] 19 0 0), (10, .ptr 10 0 [] 19 0 0), (12, vI N), (14, .ptr 14 0 [] 19 0 0)], hRows 8 (⟨dd', ww, rr, none, ll, aa⟩ : MHeard) ++ (hRowsM 10 (⟨dd', ww, rr, none, ll, aa⟩ : MHeard) (⟨dd', ww', rr', none, ll', aa'⟩ : MHeard) ++ hRows 14 (⟨dd', ww, rr, none, ll, aa⟩ : MHeard)), 1⟩) ?_ ?_
            · simp -implicitDefEqProofs only [go_sem]
              repeat' first | (refine Want.intro (by first | exact hT | exact hL | exact hI) ?_; try simp -implicitDefEqProofs only [go_sem]) | (refine WantM.intro (by first | exact hT | exact hL | exact hI) ?_; try simp -implicitDefEqProofs only [go_sem]) | (with_reducible refine And.intro ?_ ?_) | (refine guardP_intro (fun h => ?_) (fun h => ?_) <;> try simp -implicitDefEqProofs only [go_sem, h]) | (refine condJ_intro (fun h => ?_) (fun h => ?_) <;> try simp -implicitDefEqProofs only [go_sem, h])
              all_goals first | done | rfl | trace_state
            · rintro s rfl
              simp -implicitDefEqProofs only [go_sem]
              refine WantM.intro hE ?_
              simp -implicitDefEqProofs only [go_sem]
              refine WantM.intro hH ?_
              simp -implicitDefEqProofs only [go_sem, hbN, bne_self_eq_false]
      · have hv : hdV (⟨dd', ww', rr', some q', ll', aa'⟩ : MHeard) 1000000 = hdV (⟨dd', ww, rr, some q, ll, aa⟩ : MHeard) 1000000 := by simp only [hdV, z2, z3, z4, z5]; try rfl
        rw [hv] at hH
        refine ct_intro [1, 3, 5, 8] [] (fun s => s = ⟨87, [(1, vI me), (3, .ptr 3 0 [] 15 0 0), (5, .ptr 5 0 [] 3 0 0), (8, .ptr 8 0 [] 19 0 0)], (3, 0, one ⟨15, [MWit.cs ⟨disk, wishes⟩ (.ro 7 (wishes.map MWish.cs))], 0, false⟩) :: (5, 0, one ⟨3, [l.cs], 0, false⟩) :: hRows 8 (⟨dd', ww, rr, some q, ll, aa⟩ : MHeard), 1⟩) ?_ ?_
        · simp -implicitDefEqProofs only [go_sem]
          repeat' first | (refine Want.intro (by first | exact hT | exact hL | exact hS) ?_; try simp -implicitDefEqProofs only [go_sem]) | (refine WantM.intro (by first | exact hT | exact hL | exact hS) ?_; try simp -implicitDefEqProofs only [go_sem]) | (with_reducible refine And.intro ?_ ?_) | (refine guardP_intro (fun h => ?_) (fun h => ?_) <;> try simp -implicitDefEqProofs only [go_sem, h]) | (refine condJ_intro (fun h => ?_) (fun h => ?_) <;> try simp -implicitDefEqProofs only [go_sem, h])
          all_goals first | done | rfl | trace_state
        · rintro s rfl
          simp -implicitDefEqProofs only [go_sem]
          refine WantM.intro hT ?_
          simp -implicitDefEqProofs only [go_sem]
          refine ct_intro [1, 3, 5, 8, 9, 10] [] (fun s => s = ⟨87, [(1, vI me), (3, .ptr 3 0 [] 15 0 0), (5, .ptr 5 0 [] 3 0 0), (8, .ptr 8 0 [] 19 0 0), (9, .ptr 9 0 [] 15 0 0), (10, .ptr 10 0 [] 19 0 0)], (3, 0, one ⟨15, [MWit.cs ⟨disk, wishes⟩ (.ro 7 (wishes.map MWish.cs))], 0, false⟩) :: (5, 0, one ⟨3, [l.cs], 0, false⟩) :: (hRows 8 (⟨dd', ww, rr, some q, ll, aa⟩ : MHeard) ++ ((9, 0, one ⟨15, [MWit.cs ⟨disk, wishes⟩ (.blk 10009 0 [] 7 0 wishes.length)], 0, false⟩) :: (10009, 0, one ⟨7, wishes.map MWish.cs, 2, false⟩) :: hRows 10 (⟨dd', ww, rr, some q, ll, aa⟩ : MHeard))), 1⟩) ?_ ?_
          · simp -implicitDefEqProofs only [go_sem]
            repeat' first | (refine Want.intro (by first | exact hT | exact hL | exact hI) ?_; try simp -implicitDefEqProofs only [go_sem]) | (refine WantM.intro (by first | exact hT | exact hL | exact hI) ?_; try simp -implicitDefEqProofs only [go_sem]) | (with_reducible refine And.intro ?_ ?_) | (refine guardP_intro (fun h => ?_) (fun h => ?_) <;> try simp -implicitDefEqProofs only [go_sem, h]) | (refine condJ_intro (fun h => ?_) (fun h => ?_) <;> try simp -implicitDefEqProofs only [go_sem, h])
            all_goals first | done | rfl | trace_state
          · rintro s rfl
            simp -implicitDefEqProofs only [go_sem]
            refine WantM.intro hE ?_
            simp -implicitDefEqProofs only [go_sem]
            refine WantM.intro hT ?_
            simp -implicitDefEqProofs only [go_sem]
            refine Want.intro hEC ?_
            simp -implicitDefEqProofs only [go_sem]
            refine WantM.intro hMW ?_
            simp -implicitDefEqProofs only [go_sem, hkN, guardP_ff]
            refine WantM.intro hE ?_
            simp -implicitDefEqProofs only [go_sem]
            refine WantM.intro hM ?_
            simp -implicitDefEqProofs only [go_sem]
            refine WantM.intro hH ?_
            simp -implicitDefEqProofs only [go_sem, hbN, bne_self_eq_false]
            refine ct_intro [8, 10, 12, 14] [] (fun s => s = ⟨87, [(8, .ptr 8 0 [] 19 0 0), (10, .ptr 10 0 [] 19 0 0), (12, vI N), (14, .ptr 14 0 [] 19 0 0)], hRows 8 (⟨dd', ww, rr, some q, ll, aa⟩ : MHeard) ++ (hRowsM 10 (⟨dd', ww, rr, some q, ll, aa⟩ : MHeard) (⟨dd', ww', rr', some q', ll', aa'⟩ : MHeard) ++ hRows 14 (⟨dd', ww, rr, some q, ll, aa⟩ : MHeard)), 1⟩) ?_ ?_
            · simp -implicitDefEqProofs only [go_sem]
              repeat' first | (refine Want.intro (by first | exact hT | exact hL | exact hI) ?_; try simp -implicitDefEqProofs only [go_sem]) | (refine WantM.intro (by first | exact hT | exact hL | exact hI) ?_; try simp -implicitDefEqProofs only [go_sem]) | (with_reducible refine And.intro ?_ ?_) | (refine guardP_intro (fun h => ?_) (fun h => ?_) <;> try simp -implicitDefEqProofs only [go_sem, h]) | (refine condJ_intro (fun h => ?_) (fun h => ?_) <;> try simp -implicitDefEqProofs only [go_sem, h])
              all_goals first | done | rfl | trace_state
            · rintro s rfl
              simp -implicitDefEqProofs only [go_sem]
              refine WantM.intro hE ?_
              simp -implicitDefEqProofs only [go_sem]
              refine WantM.intro hH ?_
              simp -implicitDefEqProofs only [go_sem, hbN, bne_self_eq_false]
end Go.Proofs.YtjlhdfciklnndaaGreat.E
