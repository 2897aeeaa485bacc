/-
  Contracts: what comes of a growth, in the program.
-/
import Derived.Test.YtjlhdfciklnndaaGreatV6
namespace Go.Proofs.YtjlhdfciklnndaaGreat.E
open Go Go.RowKit
set_option maxHeartbeats 4000000
set_option maxRecDepth 10000
set_option linter.unusedSimpArgs false
set_option linter.unusedVariables false
set_option linter.unusedSectionVars false
def dcV8 : Dec := ⟨[], [9, 10, 11], [27, 30, 44, 45, 46, 58, 68, 78, 79, 86, 101, 112, 113, 132, 174, 196, 247, 249, 351, 356], false⟩

theorem mRaws_le (d : MDisk) (size : Int) (root : MDig) : (mRaws d size root).length ≤ 8 := by
  rw [mRaws_eq]
  split
  · exact Nat.le_refl 8
  · exact Nat.zero_le _
theorem c140_c (w : MWit) (held : MPt) (me : Int) (m : MMsg) (hl : w.wishes.length ≤ 8) (hd : w.disk.ok) (hp : ∀ d ∈ m.proof, d.ok) (hpl : m.proof.length ≤ 1000) : CallM Tryz.prog 140 [(1000000, 0, one ⟨7, w.wishes.map MWish.cs, 2, false⟩)] [hearIn w, .agg held.cs, vI me, m.ro] (mHGrowth w held me m).av (mHGrowth w held me m).out := by
  refine use_of dcV8 false Tryz.f140 ?_
  conv => enter [1]; reduce
  refine jvM Tryz.f140 171 [.cell 8 115] (by kernel_rfl) (by decide +kernel) rfl ?_
  obtain ⟨disk, l⟩ := w
  simp only at hl hd
  have hlm : l.length ≤ maxLen := by unfold maxLen; omega
  unfold mHGrowth
  simp only
  simp -implicitDefEqProofs only [go_sem]
  by_cases c1 : m.from_ = held.size
  · have c1' : (m.from_ != held.size) = false := by rw [bne_eq_false_iff_eq]; exact c1
    rw [if_neg (fun h => h c1)]
    simp -implicitDefEqProofs only [go_sem, c1', guardP_tf, guardP_ff, guardP_ft, guardP_tt, condJ_true, condJ_false, Bool.not_true, Bool.not_false]
    refine jv_lpN [(10, 7)] (fun n z => ∃ (i : Nat) (c : AV) (R : Sig), (i ≤ l.length ∧ ((gF held m.size m.proof (l.take i)).al = [] ∧ c = .nilS ∧ R = [] ∨ (gF held m.size m.proof (l.take i)).al ≠ [] ∧ c = .blk 10004 0 [] 13 0 (gF held m.size m.proof (l.take i)).al.length ∧ R = [(10004, 0, one ⟨13, (gF held m.size m.proof (l.take i)).al.map MAl.cs, 2, false⟩)])) ∧ n = l.length - i ∧ z = ⟨171, [(2, vI me), (4, .ptr 4 0 [] 19 0 0), (5, .ptr 5 0 [] 5 0 0), (7, .ptr 7 0 [] 11 0 0), (8, .ptr 8 0 [] 19 0 0), (9, .ptr 9 0 [] 19 0 0), (10, .blk 10 0 [] 7 0 (gF held m.size m.proof (l.take i)).left.length), (11, vB (gF held m.size m.proof (l.take i)).taken), (12, .ptr 12 0 [] 5 0 0), (29, .blk 1000000 0 [] 7 0 l.length), (30, vI l.length), (31, vI i)], [(1000000, 0, one ⟨7, l.map MWish.cs, 2, false⟩), (4, 0, one ⟨19, [hcells disk (.blk 1000000 0 [] 7 0 l.length) .nilS .nilS .nilS c], 0, false⟩)] ++ (R ++ [(5, 0, one ⟨5, [held.cs], 0, false⟩), (7, 0, one ⟨11, [m.roC], 0, false⟩), (8, 0, one ⟨19, [hcells zdisk .nilS .nilS .nilS .nilS .nilS], 0, false⟩), (9, 0, one ⟨19, [hcells disk (.blk 1000000 0 [] 7 0 l.length) .nilS .nilS .nilS .nilS], 0, false⟩), (10, 0, one ⟨7, (gF held m.size m.proof (l.take i)).left.map MWish.cs, 2, false⟩), (12, 0, one ⟨5, [(gF held m.size m.proof (l.take i)).p.cs], 0, false⟩)]), 1⟩) l.length ?_ ?_
    · simp -implicitDefEqProofs only [go_sem, MMsg.roC]
      exact ⟨0, .nilS, [], ⟨Nat.zero_le _, .inl ⟨rfl, rfl, rfl⟩⟩, rfl, rfl⟩
    · rintro n z ⟨i, c, R, ⟨hi, hc⟩, rfl, rfl⟩
      rcases Nat.lt_or_ge i l.length with hlt | hge
      · have hlt' : (i : Int) < (l.length : Int) := by omega
        have hg : l[i]? = some l[i] := List.getElem?_eq_getElem hlt
        have hw := wrap_succ hlt hlm
        have hst := gF_step (held := held) (size := m.size) (P := m.proof) hlt
        have hle := gF_le held m.size m.proof (l.take i)
        rw [List.length_take] at hle
        have h1m : 1 ≤ maxLen := by unfold maxLen; omega
        generalize l[i] = x at *
        have hgc := c235_m held x.pt m.proof hp
        generalize gF held m.size m.proof (l.take i) = S at *
        obtain ⟨left, tk, p, al⟩ := S
        unfold gStep at hst
        simp only at hst hle hc
        generalize mGC held x.pt (m.proof.map MDig.bd) = cd at *
        have ha1 : ∀ v, _ := fun v => app1 (L := left.map MWish.cs) (b := 56) (by rw [List.length_map]; omega) (by omega) v
        have ha2 : ∀ v, _ := fun v => app1 (L := al.map MAl.cs) (b := 104) (by rw [List.length_map]; omega) (by omega) v
        rcases hc with ⟨rfl, rfl, rfl⟩ | ⟨hne, rfl, rfl⟩
        · cases tk with
          | true =>
            rw [if_pos (.inl rfl)] at hst
            simp -implicitDefEqProofs only [go_sem, hlt', hg, hw, ha1, guardP_tf, guardP_ff, guardP_ft, guardP_tt, condJ_true, condJ_false, Bool.not_true, Bool.not_false]
            refine ⟨_, by omega, i + 1, .nilS, [], ⟨hlt, .inl ⟨by rw [hst], rfl, rfl⟩⟩, rfl, ?_⟩
            rw [hst]
            try simp only [List.map_append, List.length_append, List.length_map, List.map_cons, List.map_nil, List.length_cons, List.length_nil, List.nil_append]
            try rfl
          | false =>
            by_cases c2 : x.pt.size = m.size
            · have c2' : (x.pt.size != m.size) = false := by rw [bne_eq_false_iff_eq]; exact c2
              rw [if_neg (fun h => h.elim (by simp) (fun h => h c2))] at hst
              simp -implicitDefEqProofs only [go_sem, hlt', hg, hw, c2', guardP_tf, guardP_ff, guardP_ft, guardP_tt, condJ_true, condJ_false, Bool.not_true, Bool.not_false]
              refine Want.intro hgc ?_
              by_cases c3 : cd = 0
              · have c3' : (cd != 0) = false := by rw [bne_eq_false_iff_eq]; exact c3
                rw [if_neg (fun h => h c3)] at hst
                simp -implicitDefEqProofs only [go_sem, hw, ha1, c3', guardP_tf, guardP_ff, guardP_ft, guardP_tt, condJ_true, condJ_false, Bool.not_true, Bool.not_false]
                refine ⟨_, by omega, i + 1, .nilS, [], ⟨hlt, .inl ⟨by rw [hst], rfl, rfl⟩⟩, rfl, ?_⟩
                rw [hst]
                try simp only [List.map_append, List.length_append, List.length_map, List.map_cons, List.map_nil, List.length_cons, List.length_nil, List.nil_append]
                try rfl
              · have c3' : (cd != 0) = true := by rw [bne_iff_ne]; exact c3
                rw [if_pos c3] at hst
                simp -implicitDefEqProofs only [go_sem, hw, h1m, c3', guardP_tf, guardP_ff, guardP_ft, guardP_tt, condJ_true, condJ_false, Bool.not_true, Bool.not_false]
                refine ⟨_, by omega, i + 1, _, _, ⟨hlt, .inr ⟨by rw [hst]; simp, rfl, rfl⟩⟩, rfl, ?_⟩
                rw [hst]
                try simp only [List.map_append, List.length_append, List.length_map, List.map_cons, List.map_nil, List.length_cons, List.length_nil, List.nil_append]
                try rfl
            · have c2' : (x.pt.size != m.size) = true := by rw [bne_iff_ne]; exact c2
              rw [if_pos (.inr c2)] at hst
              simp -implicitDefEqProofs only [go_sem, hlt', hg, hw, ha1, c2', guardP_tf, guardP_ff, guardP_ft, guardP_tt, condJ_true, condJ_false, Bool.not_true, Bool.not_false]
              refine ⟨_, by omega, i + 1, .nilS, [], ⟨hlt, .inl ⟨by rw [hst], rfl, rfl⟩⟩, rfl, ?_⟩
              rw [hst]
              try simp only [List.map_append, List.length_append, List.length_map, List.map_cons, List.map_nil, List.length_cons, List.length_nil, List.nil_append]
              try rfl
        · cases tk with
          | true =>
            rw [if_pos (.inl rfl)] at hst
            simp -implicitDefEqProofs only [go_sem, hlt', hg, hw, ha1, guardP_tf, guardP_ff, guardP_ft, guardP_tt, condJ_true, condJ_false, Bool.not_true, Bool.not_false]
            refine ⟨_, by omega, i + 1, _, _, ⟨hlt, .inr ⟨by rw [hst]; exact hne, rfl, rfl⟩⟩, rfl, ?_⟩
            rw [hst]
            try simp only [List.map_append, List.length_append, List.length_map, List.map_cons, List.map_nil, List.length_cons, List.length_nil, List.nil_append]
            try rfl
          | false =>
            by_cases c2 : x.pt.size = m.size
            · have c2' : (x.pt.size != m.size) = false := by rw [bne_eq_false_iff_eq]; exact c2
              rw [if_neg (fun h => h.elim (by simp) (fun h => h c2))] at hst
              simp -implicitDefEqProofs only [go_sem, hlt', hg, hw, c2', guardP_tf, guardP_ff, guardP_ft, guardP_tt, condJ_true, condJ_false, Bool.not_true, Bool.not_false]
              refine Want.intro hgc ?_
              by_cases c3 : cd = 0
              · have c3' : (cd != 0) = false := by rw [bne_eq_false_iff_eq]; exact c3
                rw [if_neg (fun h => h c3)] at hst
                simp -implicitDefEqProofs only [go_sem, hw, ha1, c3', guardP_tf, guardP_ff, guardP_ft, guardP_tt, condJ_true, condJ_false, Bool.not_true, Bool.not_false]
                refine ⟨_, by omega, i + 1, _, _, ⟨hlt, .inr ⟨by rw [hst]; exact hne, rfl, rfl⟩⟩, rfl, ?_⟩
                rw [hst]
                try simp only [List.map_append, List.length_append, List.length_map, List.map_cons, List.map_nil, List.length_cons, List.length_nil, List.nil_append]
                try rfl
              · have c3' : (cd != 0) = true := by rw [bne_iff_ne]; exact c3
                rw [if_pos c3] at hst
                simp -implicitDefEqProofs only [go_sem, hw, ha2, c3', guardP_tf, guardP_ff, guardP_ft, guardP_tt, condJ_true, condJ_false, Bool.not_true, Bool.not_false]
                refine ⟨_, by omega, i + 1, _, _, ⟨hlt, .inr ⟨by rw [hst]; simp, rfl, rfl⟩⟩, rfl, ?_⟩
                rw [hst]
                try simp only [List.map_append, List.length_append, List.length_map, List.map_cons, List.map_nil, List.length_cons, List.length_nil, List.nil_append]
                try rfl
            · have c2' : (x.pt.size != m.size) = true := by rw [bne_iff_ne]; exact c2
              rw [if_pos (.inr c2)] at hst
              simp -implicitDefEqProofs only [go_sem, hlt', hg, hw, ha1, c2', guardP_tf, guardP_ff, guardP_ft, guardP_tt, condJ_true, condJ_false, Bool.not_true, Bool.not_false]
              refine ⟨_, by omega, i + 1, _, _, ⟨hlt, .inr ⟨by rw [hst]; exact hne, rfl, rfl⟩⟩, rfl, ?_⟩
              rw [hst]
              try simp only [List.map_append, List.length_append, List.length_map, List.map_cons, List.map_nil, List.length_cons, List.length_nil, List.nil_append]
              try rfl
      · have hi : i = l.length := by omega
        subst hi
        have hlt' : ¬ ((l.length : Int) < (l.length : Int)) := by omega
        have hle := gF_le held m.size m.proof l
        rw [List.take_length] at hc ⊢
        generalize gF held m.size m.proof l = S at *
        obtain ⟨left, tk, p, al⟩ := S
        simp only at hle hc ⊢
        have hcl := c138_c left (by omega)
        cases tk with
        | false =>
          rw [if_pos rfl]
          rcases hc with ⟨rfl, rfl, rfl⟩ | ⟨hne, rfl, rfl⟩
          · simp -implicitDefEqProofs only [go_sem, hlt', guardP_tf, guardP_ff, guardP_ft, guardP_tt, condJ_true, condJ_false, Bool.not_true, Bool.not_false]
            refine Want.intro hcl ?_
            simp -implicitDefEqProofs only [go_sem, guardP_tf, guardP_ff, guardP_ft, guardP_tt, condJ_true, condJ_false, Bool.not_true, Bool.not_false, Bool.false_eq_true]
          · simp -implicitDefEqProofs only [go_sem, hlt', guardP_tf, guardP_ff, guardP_ft, guardP_tt, condJ_true, condJ_false, Bool.not_true, Bool.not_false]
            refine Want.intro hcl ?_
            simp -implicitDefEqProofs only [go_sem, guardP_tf, guardP_ff, guardP_ft, guardP_tt, condJ_true, condJ_false, Bool.not_true, Bool.not_false, Bool.false_eq_true]
        | true =>
          rw [if_neg (by simp)]
          have hrr := c236_c disk p.size p.root hd
          have hRl := mRaws_le disk p.size p.root
          generalize mRaws disk p.size p.root = R at *
          by_cases hR : R = []
          · rw [if_pos hR]
            subst hR
            have hR0 : (((0 : Nat) : Int) == 0) = true := rfl
            rcases hc with ⟨rfl, rfl, rfl⟩ | ⟨hne, rfl, rfl⟩
            · simp -implicitDefEqProofs only [go_sem, hlt', guardP_tf, guardP_ff, guardP_ft, guardP_tt, condJ_true, condJ_false, Bool.not_true, Bool.not_false]
              refine Want.intro hcl ?_
              simp -implicitDefEqProofs only [go_sem, guardP_tf, guardP_ff, guardP_ft, guardP_tt, condJ_true, condJ_false, Bool.not_true, Bool.not_false]
              refine Want.intro hrr ?_
              simp -implicitDefEqProofs only [go_sem, hR0, guardP_tf, guardP_ff, guardP_ft, guardP_tt, condJ_true, condJ_false, Bool.not_true, Bool.not_false]
            · simp -implicitDefEqProofs only [go_sem, hlt', guardP_tf, guardP_ff, guardP_ft, guardP_tt, condJ_true, condJ_false, Bool.not_true, Bool.not_false]
              refine Want.intro hcl ?_
              simp -implicitDefEqProofs only [go_sem, guardP_tf, guardP_ff, guardP_ft, guardP_tt, condJ_true, condJ_false, Bool.not_true, Bool.not_false]
              refine Want.intro hrr ?_
              simp -implicitDefEqProofs only [go_sem, hR0, guardP_tf, guardP_ff, guardP_ft, guardP_tt, condJ_true, condJ_false, Bool.not_true, Bool.not_false]
          · rw [if_neg hR]
            have hR0 : ((R.length : Int) == 0) = false := by
              rw [beq_eq_false_iff_ne]
              intro h
              exact hR (List.eq_nil_of_length_eq_zero (by omega))
            have hdw := c160_c disk R (by unfold maxLen; omega)
            have hcp := c112_c m.proof (by omega)
            rcases hc with ⟨rfl, rfl, rfl⟩ | ⟨hne, rfl, rfl⟩
            · simp -implicitDefEqProofs only [go_sem, hlt', guardP_tf, guardP_ff, guardP_ft, guardP_tt, condJ_true, condJ_false, Bool.not_true, Bool.not_false]
              refine Want.intro hcl ?_
              simp -implicitDefEqProofs only [go_sem, guardP_tf, guardP_ff, guardP_ft, guardP_tt, condJ_true, condJ_false, Bool.not_true, Bool.not_false]
              refine Want.intro hrr ?_
              simp -implicitDefEqProofs only [go_sem, hR0, guardP_tf, guardP_ff, guardP_ft, guardP_tt, condJ_true, condJ_false, Bool.not_true, Bool.not_false]
              refine Want.intro hdw ?_
              simp -implicitDefEqProofs only [go_sem]
              refine Want.intro hcp ?_
              simp -implicitDefEqProofs only [go_sem]
              generalize mWrite disk R = D at *
              refine jv_lpN [(16, 7)] (fun n z => ∃ (i : Nat) (c1 c2 : AV) (X : Sig) (nm : Nat), (i ≤ left.length ∧ Shp (hvF me p [] (left.take i)) m.proof 4 c1 c2 X nm) ∧ n = left.length - i ∧ z = ⟨171, [(2, vI me), (4, .ptr 4 0 [] 19 0 0), (8, .ptr 8 0 [] 19 0 0), (12, .ptr 12 0 [] 5 0 0), (16, .blk 16 0 [] 7 0 (hvF me p [] (left.take i)).rest.length), (113, .blk 113 0 [] 7 0 left.length), (114, vI left.length), (115, vI i)], [(1000000, 0, one ⟨7, l.map MWish.cs, 2, false⟩), (4, 0, one ⟨19, [hcells D (.blk 10004 0 [] 7 0 left.length) (.blk 20004 0 [] 3 0 R.length) (.blk 30004 0 [] 11 0 1) c1 c2], 0, false⟩), (10004, 0, one ⟨7, left.map MWish.cs, 2, false⟩), (20004, 0, one ⟨3, R.map MRaw.cs, 2, false⟩), (30004, 0, one ⟨11, [MKeep.cs ⟨held, p, m.proof⟩ (.blk nm 0 [] 4 0 m.proof.length)], 0, false⟩)] ++ (X ++ [(8, 0, one ⟨19, [hcells zdisk .nilS .nilS .nilS .nilS .nilS], 0, false⟩), (12, 0, one ⟨5, [p.cs], 0, false⟩), (16, 0, one ⟨7, (hvF me p [] (left.take i)).rest.map MWish.cs, 2, false⟩), (113, 0, one ⟨7, left.map MWish.cs, 2, false⟩)]), 1⟩) left.length ?_ ?_
              · simp -implicitDefEqProofs only [go_sem]
                first
                  | exact ⟨0, _, _, _, _, ⟨Nat.zero_le _, Shp.s00 (H := hvF me p [] (left.take 0)) rfl rfl⟩, rfl, rfl⟩
                  | exact ⟨0, _, _, _, _, ⟨Nat.zero_le _, Shp.s01 (H := hvF me p [] (left.take 0)) rfl hne⟩, rfl, rfl⟩
              · rintro n z ⟨i, c1, c2, X, nm, ⟨hi, hc⟩, rfl, rfl⟩
                have hvl := hvF_le me p [] (left.take i)
                rw [List.length_take] at hvl
                rcases Nat.lt_or_ge i left.length with hlt | hge
                · have hlt' : (i : Int) < (left.length : Int) := by omega
                  have hg : left[i]? = some left[i] := List.getElem?_eq_getElem hlt
                  have hw := wrap_succ hlt (show left.length ≤ maxLen by unfold maxLen; omega)
                  have hst := hvF_step (me := me) (p := p) (al := []) hlt
                  have h1m : 1 ≤ maxLen := by unfold maxLen; omega
                  generalize left[i] = x at *
                  have hak := c232_c me x.who x.session p
                  generalize hvF me p [] (left.take i) = H at *
                  obtain ⟨le, al', rest⟩ := H
                  unfold hStep at hst
                  simp only at hst hvl
                  have ha1 : ∀ v, _ := fun v => app1 (L := le.map MLet.cs) (b := 32) (by rw [List.length_map]; omega) (by omega) v
                  have ha2 : ∀ v, _ := fun v => app1 (L := al'.map MAl.cs) (b := 104) (by rw [List.length_map]; omega) (by omega) v
                  have ha3 : ∀ v, _ := fun v => app1 (L := rest.map MWish.cs) (b := 56) (by rw [List.length_map]; omega) (by omega) v
                  cases hc with
                  | s00 q1 q2 =>
                    simp only at q1
                    subst q1
                    simp only at q2
                    subst q2
                    cases e1 : eqPt x.pt p with
                    | true =>
                      rw [if_pos e1] at hst
                      have e1' := e1
                      unfold eqPt at e1'
                      simp -implicitDefEqProofs only [go_sem, hlt', hg, hw, e1', guardP_tf, guardP_ff, guardP_ft, guardP_tt, condJ_true, condJ_false, Bool.not_true, Bool.not_false]
                      refine Want.intro hak ?_
                      simp -implicitDefEqProofs only [go_sem, h1m, hw, guardP_tf, guardP_ff, guardP_ft, guardP_tt, condJ_true, condJ_false, Bool.not_true, Bool.not_false]
                      refine ⟨_, by omega, i + 1, _, _, _, _, ⟨hlt, Shp.s10 (H := (hvF me p [] (left.take (i + 1)))) (by rw [hst]; simp) (by rw [hst])⟩, rfl, ?_⟩
                      rw [hst]
                      try simp only [List.map_append, List.length_append, List.length_map, List.map_cons, List.map_nil, List.length_cons, List.length_nil, List.nil_append]
                      try rfl
                    | false =>
                      rw [if_neg (by rw [e1]; simp)] at hst
                      have e1' := e1
                      unfold eqPt at e1'
                      by_cases e2 : x.pt.size = p.size
                      · have e2' : (x.pt.size == p.size) = true := by rw [e2]; simp
                        rw [if_pos e2] at hst
                        rw [e2', Bool.true_and] at e1'
                        simp -implicitDefEqProofs only [go_sem, hlt', hg, hw, e1', e2', h1m, guardP_tf, guardP_ff, guardP_ft, guardP_tt, condJ_true, condJ_false, Bool.not_true, Bool.not_false]
                        refine ⟨_, by omega, i + 1, _, _, _, _, ⟨hlt, Shp.s01 (H := (hvF me p [] (left.take (i + 1)))) (by rw [hst]) (by rw [hst]; simp)⟩, rfl, ?_⟩
                        rw [hst]
                        try simp only [List.map_append, List.length_append, List.length_map, List.map_cons, List.map_nil, List.length_cons, List.length_nil, List.nil_append]
                        try rfl
                      · have e2' : (x.pt.size == p.size) = false := beq_eq_false_iff_ne.2 e2
                        rw [if_neg e2] at hst
                        by_cases e3 : x.pt.size > p.size
                        · rw [if_pos e3] at hst
                          simp -implicitDefEqProofs only [go_sem, hlt', hg, hw, e1', e2', e3, ha3, guardP_tf, guardP_ff, guardP_ft, guardP_tt, condJ_true, condJ_false, Bool.not_true, Bool.not_false]
                          refine ⟨_, by omega, i + 1, _, _, _, _, ⟨hlt, Shp.s00 (H := (hvF me p [] (left.take (i + 1)))) (by rw [hst]) (by rw [hst])⟩, rfl, ?_⟩
                          rw [hst]
                          try simp only [List.map_append, List.length_append, List.length_map, List.map_cons, List.map_nil, List.length_cons, List.length_nil, List.nil_append]
                          try rfl
                        · rw [if_neg e3] at hst
                          simp -implicitDefEqProofs only [go_sem, hlt', hg, hw, e1', e2', e3, guardP_tf, guardP_ff, guardP_ft, guardP_tt, condJ_true, condJ_false, Bool.not_true, Bool.not_false]
                          refine ⟨_, by omega, i + 1, _, _, _, _, ⟨hlt, Shp.s00 (H := (hvF me p [] (left.take (i + 1)))) (by rw [hst]) (by rw [hst])⟩, rfl, ?_⟩
                          rw [hst]
                          try simp only [List.map_append, List.length_append, List.length_map, List.map_cons, List.map_nil, List.length_cons, List.length_nil, List.nil_append]
                          try rfl
                  | s01 q1 q2 =>
                    simp only at q1
                    subst q1
                    cases e1 : eqPt x.pt p with
                    | true =>
                      rw [if_pos e1] at hst
                      have e1' := e1
                      unfold eqPt at e1'
                      simp -implicitDefEqProofs only [go_sem, hlt', hg, hw, e1', guardP_tf, guardP_ff, guardP_ft, guardP_tt, condJ_true, condJ_false, Bool.not_true, Bool.not_false]
                      refine Want.intro hak ?_
                      simp -implicitDefEqProofs only [go_sem, h1m, hw, guardP_tf, guardP_ff, guardP_ft, guardP_tt, condJ_true, condJ_false, Bool.not_true, Bool.not_false]
                      refine ⟨_, by omega, i + 1, _, _, _, _, ⟨hlt, Shp.s11 (H := (hvF me p [] (left.take (i + 1)))) (by rw [hst]; simp) (by rw [hst]; exact q2)⟩, rfl, ?_⟩
                      rw [hst]
                      try simp only [List.map_append, List.length_append, List.length_map, List.map_cons, List.map_nil, List.length_cons, List.length_nil, List.nil_append]
                      try rfl
                    | false =>
                      rw [if_neg (by rw [e1]; simp)] at hst
                      have e1' := e1
                      unfold eqPt at e1'
                      by_cases e2 : x.pt.size = p.size
                      · have e2' : (x.pt.size == p.size) = true := by rw [e2]; simp
                        rw [if_pos e2] at hst
                        rw [e2', Bool.true_and] at e1'
                        simp -implicitDefEqProofs only [go_sem, hlt', hg, hw, e1', e2', ha2, guardP_tf, guardP_ff, guardP_ft, guardP_tt, condJ_true, condJ_false, Bool.not_true, Bool.not_false]
                        refine ⟨_, by omega, i + 1, _, _, _, _, ⟨hlt, Shp.s01 (H := (hvF me p [] (left.take (i + 1)))) (by rw [hst]) (by rw [hst]; simp)⟩, rfl, ?_⟩
                        rw [hst]
                        try simp only [List.map_append, List.length_append, List.length_map, List.map_cons, List.map_nil, List.length_cons, List.length_nil, List.nil_append]
                        try rfl
                      · have e2' : (x.pt.size == p.size) = false := beq_eq_false_iff_ne.2 e2
                        rw [if_neg e2] at hst
                        by_cases e3 : x.pt.size > p.size
                        · rw [if_pos e3] at hst
                          simp -implicitDefEqProofs only [go_sem, hlt', hg, hw, e1', e2', e3, ha3, guardP_tf, guardP_ff, guardP_ft, guardP_tt, condJ_true, condJ_false, Bool.not_true, Bool.not_false]
                          refine ⟨_, by omega, i + 1, _, _, _, _, ⟨hlt, Shp.s01 (H := (hvF me p [] (left.take (i + 1)))) (by rw [hst]) (by rw [hst]; exact q2)⟩, rfl, ?_⟩
                          rw [hst]
                          try simp only [List.map_append, List.length_append, List.length_map, List.map_cons, List.map_nil, List.length_cons, List.length_nil, List.nil_append]
                          try rfl
                        · rw [if_neg e3] at hst
                          simp -implicitDefEqProofs only [go_sem, hlt', hg, hw, e1', e2', e3, guardP_tf, guardP_ff, guardP_ft, guardP_tt, condJ_true, condJ_false, Bool.not_true, Bool.not_false]
                          refine ⟨_, by omega, i + 1, _, _, _, _, ⟨hlt, Shp.s01 (H := (hvF me p [] (left.take (i + 1)))) (by rw [hst]) (by rw [hst]; exact q2)⟩, rfl, ?_⟩
                          rw [hst]
                          try simp only [List.map_append, List.length_append, List.length_map, List.map_cons, List.map_nil, List.length_cons, List.length_nil, List.nil_append]
                          try rfl
                  | s10 q1 q2 =>
                    simp only at q2
                    subst q2
                    cases e1 : eqPt x.pt p with
                    | true =>
                      rw [if_pos e1] at hst
                      have e1' := e1
                      unfold eqPt at e1'
                      simp -implicitDefEqProofs only [go_sem, hlt', hg, hw, e1', guardP_tf, guardP_ff, guardP_ft, guardP_tt, condJ_true, condJ_false, Bool.not_true, Bool.not_false]
                      refine Want.intro hak ?_
                      simp -implicitDefEqProofs only [go_sem, ha1, hw, guardP_tf, guardP_ff, guardP_ft, guardP_tt, condJ_true, condJ_false, Bool.not_true, Bool.not_false]
                      refine ⟨_, by omega, i + 1, _, _, _, _, ⟨hlt, Shp.s10 (H := (hvF me p [] (left.take (i + 1)))) (by rw [hst]; simp) (by rw [hst])⟩, rfl, ?_⟩
                      rw [hst]
                      try simp only [List.map_append, List.length_append, List.length_map, List.map_cons, List.map_nil, List.length_cons, List.length_nil, List.nil_append]
                      try rfl
                    | false =>
                      rw [if_neg (by rw [e1]; simp)] at hst
                      have e1' := e1
                      unfold eqPt at e1'
                      by_cases e2 : x.pt.size = p.size
                      · have e2' : (x.pt.size == p.size) = true := by rw [e2]; simp
                        rw [if_pos e2] at hst
                        rw [e2', Bool.true_and] at e1'
                        simp -implicitDefEqProofs only [go_sem, hlt', hg, hw, e1', e2', h1m, guardP_tf, guardP_ff, guardP_ft, guardP_tt, condJ_true, condJ_false, Bool.not_true, Bool.not_false]
                        refine ⟨_, by omega, i + 1, _, _, _, _, ⟨hlt, Shp.s11 (H := (hvF me p [] (left.take (i + 1)))) (by rw [hst]; exact q1) (by rw [hst]; simp)⟩, rfl, ?_⟩
                        rw [hst]
                        try simp only [List.map_append, List.length_append, List.length_map, List.map_cons, List.map_nil, List.length_cons, List.length_nil, List.nil_append]
                        try rfl
                      · have e2' : (x.pt.size == p.size) = false := beq_eq_false_iff_ne.2 e2
                        rw [if_neg e2] at hst
                        by_cases e3 : x.pt.size > p.size
                        · rw [if_pos e3] at hst
                          simp -implicitDefEqProofs only [go_sem, hlt', hg, hw, e1', e2', e3, ha3, guardP_tf, guardP_ff, guardP_ft, guardP_tt, condJ_true, condJ_false, Bool.not_true, Bool.not_false]
                          refine ⟨_, by omega, i + 1, _, _, _, _, ⟨hlt, Shp.s10 (H := (hvF me p [] (left.take (i + 1)))) (by rw [hst]; exact q1) (by rw [hst])⟩, rfl, ?_⟩
                          rw [hst]
                          try simp only [List.map_append, List.length_append, List.length_map, List.map_cons, List.map_nil, List.length_cons, List.length_nil, List.nil_append]
                          try rfl
                        · rw [if_neg e3] at hst
                          simp -implicitDefEqProofs only [go_sem, hlt', hg, hw, e1', e2', e3, guardP_tf, guardP_ff, guardP_ft, guardP_tt, condJ_true, condJ_false, Bool.not_true, Bool.not_false]
                          refine ⟨_, by omega, i + 1, _, _, _, _, ⟨hlt, Shp.s10 (H := (hvF me p [] (left.take (i + 1)))) (by rw [hst]; exact q1) (by rw [hst])⟩, rfl, ?_⟩
                          rw [hst]
                          try simp only [List.map_append, List.length_append, List.length_map, List.map_cons, List.map_nil, List.length_cons, List.length_nil, List.nil_append]
                          try rfl
                  | s11 q1 q2 =>
                    cases e1 : eqPt x.pt p with
                    | true =>
                      rw [if_pos e1] at hst
                      have e1' := e1
                      unfold eqPt at e1'
                      simp -implicitDefEqProofs only [go_sem, hlt', hg, hw, e1', guardP_tf, guardP_ff, guardP_ft, guardP_tt, condJ_true, condJ_false, Bool.not_true, Bool.not_false]
                      refine Want.intro hak ?_
                      simp -implicitDefEqProofs only [go_sem, ha1, hw, guardP_tf, guardP_ff, guardP_ft, guardP_tt, condJ_true, condJ_false, Bool.not_true, Bool.not_false]
                      refine ⟨_, by omega, i + 1, _, _, _, _, ⟨hlt, Shp.s11 (H := (hvF me p [] (left.take (i + 1)))) (by rw [hst]; simp) (by rw [hst]; exact q2)⟩, rfl, ?_⟩
                      rw [hst]
                      try simp only [List.map_append, List.length_append, List.length_map, List.map_cons, List.map_nil, List.length_cons, List.length_nil, List.nil_append]
                      try rfl
                    | false =>
                      rw [if_neg (by rw [e1]; simp)] at hst
                      have e1' := e1
                      unfold eqPt at e1'
                      by_cases e2 : x.pt.size = p.size
                      · have e2' : (x.pt.size == p.size) = true := by rw [e2]; simp
                        rw [if_pos e2] at hst
                        rw [e2', Bool.true_and] at e1'
                        simp -implicitDefEqProofs only [go_sem, hlt', hg, hw, e1', e2', ha2, guardP_tf, guardP_ff, guardP_ft, guardP_tt, condJ_true, condJ_false, Bool.not_true, Bool.not_false]
                        refine ⟨_, by omega, i + 1, _, _, _, _, ⟨hlt, Shp.s11 (H := (hvF me p [] (left.take (i + 1)))) (by rw [hst]; exact q1) (by rw [hst]; simp)⟩, rfl, ?_⟩
                        rw [hst]
                        try simp only [List.map_append, List.length_append, List.length_map, List.map_cons, List.map_nil, List.length_cons, List.length_nil, List.nil_append]
                        try rfl
                      · have e2' : (x.pt.size == p.size) = false := beq_eq_false_iff_ne.2 e2
                        rw [if_neg e2] at hst
                        by_cases e3 : x.pt.size > p.size
                        · rw [if_pos e3] at hst
                          simp -implicitDefEqProofs only [go_sem, hlt', hg, hw, e1', e2', e3, ha3, guardP_tf, guardP_ff, guardP_ft, guardP_tt, condJ_true, condJ_false, Bool.not_true, Bool.not_false]
                          refine ⟨_, by omega, i + 1, _, _, _, _, ⟨hlt, Shp.s11 (H := (hvF me p [] (left.take (i + 1)))) (by rw [hst]; exact q1) (by rw [hst]; exact q2)⟩, rfl, ?_⟩
                          rw [hst]
                          try simp only [List.map_append, List.length_append, List.length_map, List.map_cons, List.map_nil, List.length_cons, List.length_nil, List.nil_append]
                          try rfl
                        · rw [if_neg e3] at hst
                          simp -implicitDefEqProofs only [go_sem, hlt', hg, hw, e1', e2', e3, guardP_tf, guardP_ff, guardP_ft, guardP_tt, condJ_true, condJ_false, Bool.not_true, Bool.not_false]
                          refine ⟨_, by omega, i + 1, _, _, _, _, ⟨hlt, Shp.s11 (H := (hvF me p [] (left.take (i + 1)))) (by rw [hst]; exact q1) (by rw [hst]; exact q2)⟩, rfl, ?_⟩
                          rw [hst]
                          try simp only [List.map_append, List.length_append, List.length_map, List.map_cons, List.map_nil, List.length_cons, List.length_nil, List.nil_append]
                          try rfl
                · have hi : i = left.length := by omega
                  subst hi
                  have hlt' : ¬ ((left.length : Int) < (left.length : Int)) := by omega
                  rw [List.take_length] at hc hvl ⊢
                  generalize hvF me p [] left = H at *
                  obtain ⟨le, al', rest⟩ := H
                  simp only at hvl
                  have hcl2 := c138_c rest (by omega)
                  cases hc with
                  | s00 q1 q2 =>
                    simp only at q1
                    subst q1
                    simp only at q2
                    subst q2
                    simp -implicitDefEqProofs only [go_sem, hlt', guardP_tf, guardP_ff, guardP_ft, guardP_tt, condJ_true, condJ_false, Bool.not_true, Bool.not_false]
                    refine Want.intro hcl2 ?_
                    simp -implicitDefEqProofs only [go_sem]
                  | s01 q1 q2 =>
                    simp only at q1
                    subst q1
                    simp -implicitDefEqProofs only [go_sem, hlt', guardP_tf, guardP_ff, guardP_ft, guardP_tt, condJ_true, condJ_false, Bool.not_true, Bool.not_false]
                    refine Want.intro hcl2 ?_
                    simp -implicitDefEqProofs only [go_sem]
                  | s10 q1 q2 =>
                    simp only at q2
                    subst q2
                    simp -implicitDefEqProofs only [go_sem, hlt', guardP_tf, guardP_ff, guardP_ft, guardP_tt, condJ_true, condJ_false, Bool.not_true, Bool.not_false]
                    refine Want.intro hcl2 ?_
                    simp -implicitDefEqProofs only [go_sem]
                  | s11 q1 q2 =>
                    simp -implicitDefEqProofs only [go_sem, hlt', guardP_tf, guardP_ff, guardP_ft, guardP_tt, condJ_true, condJ_false, Bool.not_true, Bool.not_false]
                    refine Want.intro hcl2 ?_
                    simp -implicitDefEqProofs only [go_sem]
            · simp -implicitDefEqProofs only [go_sem, hlt', guardP_tf, guardP_ff, guardP_ft, guardP_tt, condJ_true, condJ_false, Bool.not_true, Bool.not_false]
              refine Want.intro hcl ?_
              simp -implicitDefEqProofs only [go_sem, guardP_tf, guardP_ff, guardP_ft, guardP_tt, condJ_true, condJ_false, Bool.not_true, Bool.not_false]
              refine Want.intro hrr ?_
              simp -implicitDefEqProofs only [go_sem, hR0, guardP_tf, guardP_ff, guardP_ft, guardP_tt, condJ_true, condJ_false, Bool.not_true, Bool.not_false]
              refine Want.intro hdw ?_
              simp -implicitDefEqProofs only [go_sem]
              refine Want.intro hcp ?_
              simp -implicitDefEqProofs only [go_sem]
              generalize mWrite disk R = D at *
              refine jv_lpN [(16, 7)] (fun n z => ∃ (i : Nat) (c1 c2 : AV) (X : Sig) (nm : Nat), (i ≤ left.length ∧ Shp (hvF me p al (left.take i)) m.proof 4 c1 c2 X nm) ∧ n = left.length - i ∧ z = ⟨171, [(2, vI me), (4, .ptr 4 0 [] 19 0 0), (8, .ptr 8 0 [] 19 0 0), (12, .ptr 12 0 [] 5 0 0), (16, .blk 16 0 [] 7 0 (hvF me p al (left.take i)).rest.length), (113, .blk 113 0 [] 7 0 left.length), (114, vI left.length), (115, vI i)], [(1000000, 0, one ⟨7, l.map MWish.cs, 2, false⟩), (4, 0, one ⟨19, [hcells D (.blk 10004 0 [] 7 0 left.length) (.blk 20004 0 [] 3 0 R.length) (.blk 30004 0 [] 11 0 1) c1 c2], 0, false⟩), (10004, 0, one ⟨7, left.map MWish.cs, 2, false⟩), (20004, 0, one ⟨3, R.map MRaw.cs, 2, false⟩), (30004, 0, one ⟨11, [MKeep.cs ⟨held, p, m.proof⟩ (.blk nm 0 [] 4 0 m.proof.length)], 0, false⟩)] ++ (X ++ [(8, 0, one ⟨19, [hcells zdisk .nilS .nilS .nilS .nilS .nilS], 0, false⟩), (12, 0, one ⟨5, [p.cs], 0, false⟩), (16, 0, one ⟨7, (hvF me p al (left.take i)).rest.map MWish.cs, 2, false⟩), (113, 0, one ⟨7, left.map MWish.cs, 2, false⟩)]), 1⟩) left.length ?_ ?_
              · simp -implicitDefEqProofs only [go_sem]
                first
                  | exact ⟨0, _, _, _, _, ⟨Nat.zero_le _, Shp.s00 (H := hvF me p [] (left.take 0)) rfl rfl⟩, rfl, rfl⟩
                  | exact ⟨0, _, _, _, _, ⟨Nat.zero_le _, Shp.s01 (H := hvF me p al (left.take 0)) rfl hne⟩, rfl, rfl⟩
              · rintro n z ⟨i, c1, c2, X, nm, ⟨hi, hc⟩, rfl, rfl⟩
                have hvl := hvF_le me p al (left.take i)
                rw [List.length_take] at hvl
                rcases Nat.lt_or_ge i left.length with hlt | hge
                · have hlt' : (i : Int) < (left.length : Int) := by omega
                  have hg : left[i]? = some left[i] := List.getElem?_eq_getElem hlt
                  have hw := wrap_succ hlt (show left.length ≤ maxLen by unfold maxLen; omega)
                  have hst := hvF_step (me := me) (p := p) (al := al) hlt
                  have h1m : 1 ≤ maxLen := by unfold maxLen; omega
                  generalize left[i] = x at *
                  have hak := c232_c me x.who x.session p
                  generalize hvF me p al (left.take i) = H at *
                  obtain ⟨le, al', rest⟩ := H
                  unfold hStep at hst
                  simp only at hst hvl
                  have ha1 : ∀ v, _ := fun v => app1 (L := le.map MLet.cs) (b := 32) (by rw [List.length_map]; omega) (by omega) v
                  have ha2 : ∀ v, _ := fun v => app1 (L := al'.map MAl.cs) (b := 104) (by rw [List.length_map]; omega) (by omega) v
                  have ha3 : ∀ v, _ := fun v => app1 (L := rest.map MWish.cs) (b := 56) (by rw [List.length_map]; omega) (by omega) v
                  cases hc with
                  | s00 q1 q2 =>
                    simp only at q1
                    subst q1
                    simp only at q2
                    subst q2
                    cases e1 : eqPt x.pt p with
                    | true =>
                      rw [if_pos e1] at hst
                      have e1' := e1
                      unfold eqPt at e1'
                      simp -implicitDefEqProofs only [go_sem, hlt', hg, hw, e1', guardP_tf, guardP_ff, guardP_ft, guardP_tt, condJ_true, condJ_false, Bool.not_true, Bool.not_false]
                      refine Want.intro hak ?_
                      simp -implicitDefEqProofs only [go_sem, h1m, hw, guardP_tf, guardP_ff, guardP_ft, guardP_tt, condJ_true, condJ_false, Bool.not_true, Bool.not_false]
                      refine ⟨_, by omega, i + 1, _, _, _, _, ⟨hlt, Shp.s10 (H := (hvF me p al (left.take (i + 1)))) (by rw [hst]; simp) (by rw [hst])⟩, rfl, ?_⟩
                      rw [hst]
                      try simp only [List.map_append, List.length_append, List.length_map, List.map_cons, List.map_nil, List.length_cons, List.length_nil, List.nil_append]
                      try rfl
                    | false =>
                      rw [if_neg (by rw [e1]; simp)] at hst
                      have e1' := e1
                      unfold eqPt at e1'
                      by_cases e2 : x.pt.size = p.size
                      · have e2' : (x.pt.size == p.size) = true := by rw [e2]; simp
                        rw [if_pos e2] at hst
                        rw [e2', Bool.true_and] at e1'
                        simp -implicitDefEqProofs only [go_sem, hlt', hg, hw, e1', e2', h1m, guardP_tf, guardP_ff, guardP_ft, guardP_tt, condJ_true, condJ_false, Bool.not_true, Bool.not_false]
                        refine ⟨_, by omega, i + 1, _, _, _, _, ⟨hlt, Shp.s01 (H := (hvF me p al (left.take (i + 1)))) (by rw [hst]) (by rw [hst]; simp)⟩, rfl, ?_⟩
                        rw [hst]
                        try simp only [List.map_append, List.length_append, List.length_map, List.map_cons, List.map_nil, List.length_cons, List.length_nil, List.nil_append]
                        try rfl
                      · have e2' : (x.pt.size == p.size) = false := beq_eq_false_iff_ne.2 e2
                        rw [if_neg e2] at hst
                        by_cases e3 : x.pt.size > p.size
                        · rw [if_pos e3] at hst
                          simp -implicitDefEqProofs only [go_sem, hlt', hg, hw, e1', e2', e3, ha3, guardP_tf, guardP_ff, guardP_ft, guardP_tt, condJ_true, condJ_false, Bool.not_true, Bool.not_false]
                          refine ⟨_, by omega, i + 1, _, _, _, _, ⟨hlt, Shp.s00 (H := (hvF me p al (left.take (i + 1)))) (by rw [hst]) (by rw [hst])⟩, rfl, ?_⟩
                          rw [hst]
                          try simp only [List.map_append, List.length_append, List.length_map, List.map_cons, List.map_nil, List.length_cons, List.length_nil, List.nil_append]
                          try rfl
                        · rw [if_neg e3] at hst
                          simp -implicitDefEqProofs only [go_sem, hlt', hg, hw, e1', e2', e3, guardP_tf, guardP_ff, guardP_ft, guardP_tt, condJ_true, condJ_false, Bool.not_true, Bool.not_false]
                          refine ⟨_, by omega, i + 1, _, _, _, _, ⟨hlt, Shp.s00 (H := (hvF me p al (left.take (i + 1)))) (by rw [hst]) (by rw [hst])⟩, rfl, ?_⟩
                          rw [hst]
                          try simp only [List.map_append, List.length_append, List.length_map, List.map_cons, List.map_nil, List.length_cons, List.length_nil, List.nil_append]
                          try rfl
                  | s01 q1 q2 =>
                    simp only at q1
                    subst q1
                    cases e1 : eqPt x.pt p with
                    | true =>
                      rw [if_pos e1] at hst
                      have e1' := e1
                      unfold eqPt at e1'
                      simp -implicitDefEqProofs only [go_sem, hlt', hg, hw, e1', guardP_tf, guardP_ff, guardP_ft, guardP_tt, condJ_true, condJ_false, Bool.not_true, Bool.not_false]
                      refine Want.intro hak ?_
                      simp -implicitDefEqProofs only [go_sem, h1m, hw, guardP_tf, guardP_ff, guardP_ft, guardP_tt, condJ_true, condJ_false, Bool.not_true, Bool.not_false]
                      refine ⟨_, by omega, i + 1, _, _, _, _, ⟨hlt, Shp.s11 (H := (hvF me p al (left.take (i + 1)))) (by rw [hst]; simp) (by rw [hst]; exact q2)⟩, rfl, ?_⟩
                      rw [hst]
                      try simp only [List.map_append, List.length_append, List.length_map, List.map_cons, List.map_nil, List.length_cons, List.length_nil, List.nil_append]
                      try rfl
                    | false =>
                      rw [if_neg (by rw [e1]; simp)] at hst
                      have e1' := e1
                      unfold eqPt at e1'
                      by_cases e2 : x.pt.size = p.size
                      · have e2' : (x.pt.size == p.size) = true := by rw [e2]; simp
                        rw [if_pos e2] at hst
                        rw [e2', Bool.true_and] at e1'
                        simp -implicitDefEqProofs only [go_sem, hlt', hg, hw, e1', e2', ha2, guardP_tf, guardP_ff, guardP_ft, guardP_tt, condJ_true, condJ_false, Bool.not_true, Bool.not_false]
                        refine ⟨_, by omega, i + 1, _, _, _, _, ⟨hlt, Shp.s01 (H := (hvF me p al (left.take (i + 1)))) (by rw [hst]) (by rw [hst]; simp)⟩, rfl, ?_⟩
                        rw [hst]
                        try simp only [List.map_append, List.length_append, List.length_map, List.map_cons, List.map_nil, List.length_cons, List.length_nil, List.nil_append]
                        try rfl
                      · have e2' : (x.pt.size == p.size) = false := beq_eq_false_iff_ne.2 e2
                        rw [if_neg e2] at hst
                        by_cases e3 : x.pt.size > p.size
                        · rw [if_pos e3] at hst
                          simp -implicitDefEqProofs only [go_sem, hlt', hg, hw, e1', e2', e3, ha3, guardP_tf, guardP_ff, guardP_ft, guardP_tt, condJ_true, condJ_false, Bool.not_true, Bool.not_false]
                          refine ⟨_, by omega, i + 1, _, _, _, _, ⟨hlt, Shp.s01 (H := (hvF me p al (left.take (i + 1)))) (by rw [hst]) (by rw [hst]; exact q2)⟩, rfl, ?_⟩
                          rw [hst]
                          try simp only [List.map_append, List.length_append, List.length_map, List.map_cons, List.map_nil, List.length_cons, List.length_nil, List.nil_append]
                          try rfl
                        · rw [if_neg e3] at hst
                          simp -implicitDefEqProofs only [go_sem, hlt', hg, hw, e1', e2', e3, guardP_tf, guardP_ff, guardP_ft, guardP_tt, condJ_true, condJ_false, Bool.not_true, Bool.not_false]
                          refine ⟨_, by omega, i + 1, _, _, _, _, ⟨hlt, Shp.s01 (H := (hvF me p al (left.take (i + 1)))) (by rw [hst]) (by rw [hst]; exact q2)⟩, rfl, ?_⟩
                          rw [hst]
                          try simp only [List.map_append, List.length_append, List.length_map, List.map_cons, List.map_nil, List.length_cons, List.length_nil, List.nil_append]
                          try rfl
                  | s10 q1 q2 =>
                    simp only at q2
                    subst q2
                    cases e1 : eqPt x.pt p with
                    | true =>
                      rw [if_pos e1] at hst
                      have e1' := e1
                      unfold eqPt at e1'
                      simp -implicitDefEqProofs only [go_sem, hlt', hg, hw, e1', guardP_tf, guardP_ff, guardP_ft, guardP_tt, condJ_true, condJ_false, Bool.not_true, Bool.not_false]
                      refine Want.intro hak ?_
                      simp -implicitDefEqProofs only [go_sem, ha1, hw, guardP_tf, guardP_ff, guardP_ft, guardP_tt, condJ_true, condJ_false, Bool.not_true, Bool.not_false]
                      refine ⟨_, by omega, i + 1, _, _, _, _, ⟨hlt, Shp.s10 (H := (hvF me p al (left.take (i + 1)))) (by rw [hst]; simp) (by rw [hst])⟩, rfl, ?_⟩
                      rw [hst]
                      try simp only [List.map_append, List.length_append, List.length_map, List.map_cons, List.map_nil, List.length_cons, List.length_nil, List.nil_append]
                      try rfl
                    | false =>
                      rw [if_neg (by rw [e1]; simp)] at hst
                      have e1' := e1
                      unfold eqPt at e1'
                      by_cases e2 : x.pt.size = p.size
                      · have e2' : (x.pt.size == p.size) = true := by rw [e2]; simp
                        rw [if_pos e2] at hst
                        rw [e2', Bool.true_and] at e1'
                        simp -implicitDefEqProofs only [go_sem, hlt', hg, hw, e1', e2', h1m, guardP_tf, guardP_ff, guardP_ft, guardP_tt, condJ_true, condJ_false, Bool.not_true, Bool.not_false]
                        refine ⟨_, by omega, i + 1, _, _, _, _, ⟨hlt, Shp.s11 (H := (hvF me p al (left.take (i + 1)))) (by rw [hst]; exact q1) (by rw [hst]; simp)⟩, rfl, ?_⟩
                        rw [hst]
                        try simp only [List.map_append, List.length_append, List.length_map, List.map_cons, List.map_nil, List.length_cons, List.length_nil, List.nil_append]
                        try rfl
                      · have e2' : (x.pt.size == p.size) = false := beq_eq_false_iff_ne.2 e2
                        rw [if_neg e2] at hst
                        by_cases e3 : x.pt.size > p.size
                        · rw [if_pos e3] at hst
                          simp -implicitDefEqProofs only [go_sem, hlt', hg, hw, e1', e2', e3, ha3, guardP_tf, guardP_ff, guardP_ft, guardP_tt, condJ_true, condJ_false, Bool.not_true, Bool.not_false]
                          refine ⟨_, by omega, i + 1, _, _, _, _, ⟨hlt, Shp.s10 (H := (hvF me p al (left.take (i + 1)))) (by rw [hst]; exact q1) (by rw [hst])⟩, rfl, ?_⟩
                          rw [hst]
                          try simp only [List.map_append, List.length_append, List.length_map, List.map_cons, List.map_nil, List.length_cons, List.length_nil, List.nil_append]
                          try rfl
                        · rw [if_neg e3] at hst
                          simp -implicitDefEqProofs only [go_sem, hlt', hg, hw, e1', e2', e3, guardP_tf, guardP_ff, guardP_ft, guardP_tt, condJ_true, condJ_false, Bool.not_true, Bool.not_false]
                          refine ⟨_, by omega, i + 1, _, _, _, _, ⟨hlt, Shp.s10 (H := (hvF me p al (left.take (i + 1)))) (by rw [hst]; exact q1) (by rw [hst])⟩, rfl, ?_⟩
                          rw [hst]
                          try simp only [List.map_append, List.length_append, List.length_map, List.map_cons, List.map_nil, List.length_cons, List.length_nil, List.nil_append]
                          try rfl
                  | s11 q1 q2 =>
                    cases e1 : eqPt x.pt p with
                    | true =>
                      rw [if_pos e1] at hst
                      have e1' := e1
                      unfold eqPt at e1'
                      simp -implicitDefEqProofs only [go_sem, hlt', hg, hw, e1', guardP_tf, guardP_ff, guardP_ft, guardP_tt, condJ_true, condJ_false, Bool.not_true, Bool.not_false]
                      refine Want.intro hak ?_
                      simp -implicitDefEqProofs only [go_sem, ha1, hw, guardP_tf, guardP_ff, guardP_ft, guardP_tt, condJ_true, condJ_false, Bool.not_true, Bool.not_false]
                      refine ⟨_, by omega, i + 1, _, _, _, _, ⟨hlt, Shp.s11 (H := (hvF me p al (left.take (i + 1)))) (by rw [hst]; simp) (by rw [hst]; exact q2)⟩, rfl, ?_⟩
                      rw [hst]
                      try simp only [List.map_append, List.length_append, List.length_map, List.map_cons, List.map_nil, List.length_cons, List.length_nil, List.nil_append]
                      try rfl
                    | false =>
                      rw [if_neg (by rw [e1]; simp)] at hst
                      have e1' := e1
                      unfold eqPt at e1'
                      by_cases e2 : x.pt.size = p.size
                      · have e2' : (x.pt.size == p.size) = true := by rw [e2]; simp
                        rw [if_pos e2] at hst
                        rw [e2', Bool.true_and] at e1'
                        simp -implicitDefEqProofs only [go_sem, hlt', hg, hw, e1', e2', ha2, guardP_tf, guardP_ff, guardP_ft, guardP_tt, condJ_true, condJ_false, Bool.not_true, Bool.not_false]
                        refine ⟨_, by omega, i + 1, _, _, _, _, ⟨hlt, Shp.s11 (H := (hvF me p al (left.take (i + 1)))) (by rw [hst]; exact q1) (by rw [hst]; simp)⟩, rfl, ?_⟩
                        rw [hst]
                        try simp only [List.map_append, List.length_append, List.length_map, List.map_cons, List.map_nil, List.length_cons, List.length_nil, List.nil_append]
                        try rfl
                      · have e2' : (x.pt.size == p.size) = false := beq_eq_false_iff_ne.2 e2
                        rw [if_neg e2] at hst
                        by_cases e3 : x.pt.size > p.size
                        · rw [if_pos e3] at hst
                          simp -implicitDefEqProofs only [go_sem, hlt', hg, hw, e1', e2', e3, ha3, guardP_tf, guardP_ff, guardP_ft, guardP_tt, condJ_true, condJ_false, Bool.not_true, Bool.not_false]
                          refine ⟨_, by omega, i + 1, _, _, _, _, ⟨hlt, Shp.s11 (H := (hvF me p al (left.take (i + 1)))) (by rw [hst]; exact q1) (by rw [hst]; exact q2)⟩, rfl, ?_⟩
                          rw [hst]
                          try simp only [List.map_append, List.length_append, List.length_map, List.map_cons, List.map_nil, List.length_cons, List.length_nil, List.nil_append]
                          try rfl
                        · rw [if_neg e3] at hst
                          simp -implicitDefEqProofs only [go_sem, hlt', hg, hw, e1', e2', e3, guardP_tf, guardP_ff, guardP_ft, guardP_tt, condJ_true, condJ_false, Bool.not_true, Bool.not_false]
                          refine ⟨_, by omega, i + 1, _, _, _, _, ⟨hlt, Shp.s11 (H := (hvF me p al (left.take (i + 1)))) (by rw [hst]; exact q1) (by rw [hst]; exact q2)⟩, rfl, ?_⟩
                          rw [hst]
                          try simp only [List.map_append, List.length_append, List.length_map, List.map_cons, List.map_nil, List.length_cons, List.length_nil, List.nil_append]
                          try rfl
                · have hi : i = left.length := by omega
                  subst hi
                  have hlt' : ¬ ((left.length : Int) < (left.length : Int)) := by omega
                  rw [List.take_length] at hc hvl ⊢
                  generalize hvF me p al left = H at *
                  obtain ⟨le, al', rest⟩ := H
                  simp only at hvl
                  have hcl2 := c138_c rest (by omega)
                  cases hc with
                  | s00 q1 q2 =>
                    simp only at q1
                    subst q1
                    simp only at q2
                    subst q2
                    simp -implicitDefEqProofs only [go_sem, hlt', guardP_tf, guardP_ff, guardP_ft, guardP_tt, condJ_true, condJ_false, Bool.not_true, Bool.not_false]
                    refine Want.intro hcl2 ?_
                    simp -implicitDefEqProofs only [go_sem]
                  | s01 q1 q2 =>
                    simp only at q1
                    subst q1
                    simp -implicitDefEqProofs only [go_sem, hlt', guardP_tf, guardP_ff, guardP_ft, guardP_tt, condJ_true, condJ_false, Bool.not_true, Bool.not_false]
                    refine Want.intro hcl2 ?_
                    simp -implicitDefEqProofs only [go_sem]
                  | s10 q1 q2 =>
                    simp only at q2
                    subst q2
                    simp -implicitDefEqProofs only [go_sem, hlt', guardP_tf, guardP_ff, guardP_ft, guardP_tt, condJ_true, condJ_false, Bool.not_true, Bool.not_false]
                    refine Want.intro hcl2 ?_
                    simp -implicitDefEqProofs only [go_sem]
                  | s11 q1 q2 =>
                    simp -implicitDefEqProofs only [go_sem, hlt', guardP_tf, guardP_ff, guardP_ft, guardP_tt, condJ_true, condJ_false, Bool.not_true, Bool.not_false]
                    refine Want.intro hcl2 ?_
                    simp -implicitDefEqProofs only [go_sem]
  · have c1' : (m.from_ != held.size) = true := by rw [bne_iff_ne]; exact c1
    rw [if_pos c1]
    simp -implicitDefEqProofs only [go_sem, c1', guardP_tf, guardP_ff, guardP_ft, guardP_tt, condJ_true, condJ_false, Bool.not_true, Bool.not_false]
end Go.Proofs.YtjlhdfciklnndaaGreat.E
