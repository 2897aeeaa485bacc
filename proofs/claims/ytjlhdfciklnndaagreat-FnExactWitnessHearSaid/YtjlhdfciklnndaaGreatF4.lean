/-
  Contracts: what comes of letters to clients, in the reference.
-/
import Derived.Test.YtjlhdfciklnndaaGreatF3
namespace Go.Proofs.YtjlhdfciklnndaaGreat.E
open Go Go.RowKit
set_option maxHeartbeats 4000000
set_option maxRecDepth 10000
set_option linter.unusedSimpArgs false
set_option linter.unusedVariables false
set_option linter.unusedSectionVars false
def dcF4 : Dec := ⟨[(181, .cm [false, false, false]), (182, .cm [false, false]), (183, .cm [false])], [9, 10, 11], [27, 30, 44, 45, 46, 58, 68, 78, 79, 86, 101, 112, 113, 132, 174, 196, 247, 249, 351, 356], false⟩

structure MAl where
  kind : Int
  who : Int
  held : MPt
  told : MPt
  code : Int
def MAl.cs (a : MAl) : List AV := [vI a.kind, vI a.who, vI a.held.size, vU a.held.root.a, vU a.held.root.b, vU a.held.root.c, vU a.held.root.d, vI a.told.size, vU a.told.root.a, vU a.told.root.b, vU a.told.root.c, vU a.told.root.d, vI a.code]
structure MTold where
  cl : MCl
  letters : List MLet
  alarms : List MAl
  acc : List MPt
def MCl.av (c : MCl) (p : List Nat) : AV := .agg (c.cs (.blk 0 0 p 1 0 c.acks.length))
def MTold.cs (t : MTold) (a l x p : AV) : List AV := t.cl.cs a ++ [l, x, p]
def MTold.av (t : MTold) : AV := .agg (t.cs (.blk 0 0 [9] 1 0 t.cl.acks.length) (.blk 0 0 [15] 3 0 t.letters.length) (.blk 0 0 [16] 13 0 t.alarms.length) (.blk 0 0 [17] 5 0 t.acc.length))
def MCl.ar (c : MCl) : Row := ⟨1, c.acks.map intC, 2, false⟩
def MTold.lr (t : MTold) : Row := ⟨3, t.letters.map MLet.cs, 2, false⟩
def MTold.xr (t : MTold) : Row := ⟨13, t.alarms.map MAl.cs, 2, false⟩
def MTold.pr (t : MTold) : Row := ⟨5, t.acc.map MPt.cs, 2, false⟩
def MTold.rf (t : MTold) : List (List Nat × Row) := [([9], t.cl.ar), ([15], t.lr), ([16], t.xr), ([17], t.pr)]
def zCl : List AV := [vI 0, vI 0, vI 0, vI 0, vI 0, .sc (.int .u64 0), .sc (.int .u64 0), .sc (.int .u64 0), .sc (.int .u64 0), .nilS, vI 0, .sc (.int .u64 0), .sc (.int .u64 0), .sc (.int .u64 0), .sc (.int .u64 0)]
attribute [go_sem] zCl MAl.cs MCl.av MTold.cs MTold.av MCl.ar MTold.lr MTold.xr MTold.pr MTold.rf
def MTold.avQ (t : MTold) : AV := .agg (t.cs (.blk 0 0 [] 1 0 t.cl.acks.length) (.blk 1 0 [] 3 0 t.letters.length) (.blk 2 0 [] 13 0 t.alarms.length) (.blk 3 0 [] 5 0 t.acc.length))
def MTold.outQ (t : MTold) : Sig := [(0, 0, one t.cl.ar), (1, 0, one t.lr), (2, 0, one t.xr), (3, 0, one t.pr)]
attribute [go_sem] MTold.avQ MTold.outQ
theorem take_step {α : Type} {l : List α} {i : Nat} (h : i < l.length) : l.take (i + 1) = l.take i ++ [l[i]] := List.take_succ_eq_append_getElem h
theorem c183_c (c : MCl) (hl : c.acks.length ≤ 100) : CallM Tryz.prog 183 [] [c.ro] (c.av []) [(0, 0, one c.ar)] := by
  refine use_of dcF4 false Tryz.f183 ?_
  conv => enter [1]; reduce
  refine jvM Tryz.f183 24 [.cell 2 41] (by kernel_rfl) (by decide +kernel) rfl ?_
  have hl' : c.acks.length ≤ maxLen := by unfold maxLen; omega
  simp -implicitDefEqProofs only [go_sem]
  refine jv_lp (fun m s => ∃ i : Nat, i ≤ c.acks.length ∧ m = c.acks.length - i ∧ s = ⟨24, [(1, .ptr 1 0 [] 15 0 0), (2, .ptr 2 0 [] 15 0 0), (3, .blk 3 0 [] 1 0 (c.acks.take i).length), (4, vI i)], [(1, 0, one ⟨15, [c.cs (.ro 1 (c.acks.map intC))], 0, false⟩), (2, 0, one ⟨15, [zCl], 0, false⟩), (3, 0, one ⟨1, (c.acks.take i).map intC, 2, false⟩)], 1⟩) c.acks.length ?_ ?_
  · simp -implicitDefEqProofs only [go_sem]
    exact ⟨0, Nat.zero_le _, rfl, rfl⟩
  · rintro m s ⟨i, hi, rfl, rfl⟩
    rcases Nat.lt_or_ge i c.acks.length with hlt | hge
    · have hlt' : (i : Int) < (c.acks.length : Int) := by omega
      have hg : c.acks[i]? = some c.acks[i] := List.getElem?_eq_getElem hlt
      have hw := wrap_succ hlt hl'
      have ha : ∀ x, _ := fun x => app_ok (E := intC) (l := c.acks.take i) (xs := [x]) (b := 8) (n := 1000) (by simp; omega) (by omega) (by omega)
      simp -implicitDefEqProofs only [go_sem, hlt', hg, hw, ha]
      refine ⟨_, by omega, i + 1, hlt, rfl, ?_⟩
      rw [take_step hlt]
      simp only [List.map_append, List.length_append, List.length_map, List.map_cons, List.map_nil, List.length_cons, List.length_nil, intC]
      try rfl
    · have hi : i = c.acks.length := by omega
      subst hi
      have hlt' : ¬ ((c.acks.length : Int) < (c.acks.length : Int)) := by omega
      simp -implicitDefEqProofs only [go_sem, hlt', List.take_length]
theorem c68_c (n : Int) : CallR Tryz.prog 68 [vI n] (vB (mIn n 1 20)) [] := by
  refine use_of dcF4 false Tryz.f68 ?_
  conv => enter [1]; reduce
  refine jvR Tryz.f68 5 [.tmp 2] (by kernel_rfl) (by decide +kernel) rfl ?_
  simp -implicitDefEqProofs only [go_sem]
  refine Want.intro (c143_c _ _ _) ?_
  simp -implicitDefEqProofs only [go_sem]
/-- The witnesses with one more, from a place on. -/
def ackGo (w : Int) : List Int → Bool → List Int
  | [], put => if put then [] else [w]
  | a :: l, put => (if !put && decide (a ≥ w) then [w] else []) ++ ((if a != w then [a] else []) ++ ackGo w l (put || decide (a ≥ w)))
def mAcks (l : List Int) (w : Int) : List Int := ackGo w l false
theorem ackGo_len (w : Int) : ∀ (l : List Int) (put : Bool), (ackGo w l put).length ≤ 2 * l.length + 1
  | [], put => by cases put <;> simp [ackGo]
  | a :: l, put => by
    have := ackGo_len w l (put || decide (a ≥ w))
    simp only [ackGo, List.length_append, List.length_cons]
    split <;> split <;> simp only [List.length_cons, List.length_nil] <;> omega
theorem ackGo_drop {w : Int} {l : List Int} {i : Nat} (h : i < l.length) (put : Bool) : ackGo w (l.drop i) put = (if !put && decide (l[i] ≥ w) then [w] else []) ++ ((if l[i] != w then [l[i]] else []) ++ ackGo w (l.drop (i + 1)) (put || decide (l[i] ≥ w))) := by
  rw [List.drop_eq_getElem_cons h]; rfl
theorem c262_c (l : List Int) (w : Int) (hl : l.length ≤ 100) : CallR Tryz.prog 262 [.ro 1 (l.map intC), vI w] (.blk 0 0 [] 1 0 (mAcks l w).length) [([], ⟨1, (mAcks l w).map intC, 2, false⟩)] := by
  refine use_of dcF4 false Tryz.f262 ?_
  conv => enter [1]; reduce
  refine jvR Tryz.f262 49 [.tmp 4] (by kernel_rfl) (by decide +kernel) rfl ?_
  have hl' : l.length ≤ maxLen := by unfold maxLen; omega
  simp -implicitDefEqProofs only [go_sem]
  refine jv_lp (fun m s => ∃ (i : Nat) (o : List Int) (put : Bool), i ≤ l.length ∧ m = l.length - i ∧ o.length ≤ 2 * i ∧ o ++ ackGo w (l.drop i) put = mAcks l w ∧ s = ⟨49, [(0, .ro 1 (l.map intC)), (1, vI w), (5, .blk 5 0 [] 1 0 o.length), (6, vB put), (7, vI i)], [(5, 0, one ⟨1, o.map intC, 2, false⟩)], 1⟩) l.length ?_ ?_
  · simp -implicitDefEqProofs only [go_sem]
    exact ⟨0, [], false, Nat.zero_le _, rfl, Nat.le_refl _, rfl, rfl⟩
  · rintro m s ⟨i, o, put, hi, rfl, ho, hx, rfl⟩
    rcases Nat.lt_or_ge i l.length with hlt | hge
    · have hlt' : (i : Int) < (l.length : Int) := by omega
      have hg : l[i]? = some l[i] := List.getElem?_eq_getElem hlt
      have hw := wrap_succ hlt hl'
      rw [ackGo_drop hlt] at hx
      have ha : ∀ x, _ := fun x => app_ok (E := intC) (l := o) (xs := [x]) (b := 8) (n := 1000) (by simp; omega) (by omega) (by omega)
      have ha2 : ∀ x y : List AV, (o.map intC ++ [x] ++ [y]).length ≤ maxLen ∧ (o.map intC ++ [x] ++ [y]).length * 8 ≤ 140737488355328 := fun x y => by unfold maxLen; simp; omega
      cases hd : decide (l[i] ≥ w) <;> cases he : (l[i] != w) <;> cases put
      all_goals simp only [hd, he, Bool.not_true, Bool.not_false, Bool.and_true, Bool.and_false, Bool.true_and, Bool.false_and, if_true, if_false, Bool.false_eq_true, Bool.or_true, Bool.or_false, List.nil_append] at hx
      all_goals simp -implicitDefEqProofs only [go_sem, hlt', hg]
      all_goals repeat' first | (refine guardP_intro (fun h => ?_) (fun h => ?_) <;> try simp -implicitDefEqProofs only [go_sem, hlt', hg, hd, he, hw, ha, ha2, guardP_tt, guardP_ff, guardP_tf, guardP_ft, condJ_true, condJ_false, h]) | (refine condJ_intro (fun h => ?_) (fun h => ?_) <;> try simp -implicitDefEqProofs only [go_sem, hlt', hg, hd, he, hw, ha, ha2, guardP_tt, guardP_ff, guardP_tf, guardP_ft, condJ_true, condJ_false, h])
      all_goals first
        | (rw [hd] at h; cases h; done)
        | (rw [he] at h; cases h; done)
        | (refine ⟨_, by omega, i + 1, o, true, hlt, rfl, ?_, ?_, ?_⟩; all_goals first | omega | (simp; omega) | (rw [← hx]; simp; done) | (simp [intC]; done))
        | (refine ⟨_, by omega, i + 1, o, false, hlt, rfl, ?_, ?_, ?_⟩; all_goals first | omega | (simp; omega) | (rw [← hx]; simp; done) | (simp [intC]; done))
        | (refine ⟨_, by omega, i + 1, o ++ [l[i]], true, hlt, rfl, ?_, ?_, ?_⟩; all_goals first | omega | (simp; omega) | (rw [← hx]; simp; done) | (simp [intC]; done))
        | (refine ⟨_, by omega, i + 1, o ++ [l[i]], false, hlt, rfl, ?_, ?_, ?_⟩; all_goals first | omega | (simp; omega) | (rw [← hx]; simp; done) | (simp [intC]; done))
        | (refine ⟨_, by omega, i + 1, o ++ [w], true, hlt, rfl, ?_, ?_, ?_⟩; all_goals first | omega | (simp; omega) | (rw [← hx]; simp; done) | (simp [intC]; done))
        | (refine ⟨_, by omega, i + 1, o ++ [w], false, hlt, rfl, ?_, ?_, ?_⟩; all_goals first | omega | (simp; omega) | (rw [← hx]; simp; done) | (simp [intC]; done))
        | (refine ⟨_, by omega, i + 1, o ++ [w] ++ [l[i]], true, hlt, rfl, ?_, ?_, ?_⟩; all_goals first | omega | (simp; omega) | (rw [← hx]; simp; done) | (simp [intC]; done))
        | (refine ⟨_, by omega, i + 1, o ++ [w] ++ [l[i]], false, hlt, rfl, ?_, ?_, ?_⟩; all_goals first | omega | (simp; omega) | (rw [← hx]; simp; done) | (simp [intC]; done))
        | trace_state
    · have hi : i = l.length := by omega
      subst hi
      have hlt' : ¬ ((l.length : Int) < (l.length : Int)) := by omega
      rw [List.drop_length] at hx
      have ha : ∀ x, _ := fun x => app_ok (E := intC) (l := o) (xs := [x]) (b := 8) (n := 1000) (by simp; omega) (by omega) (by omega)
      simp -implicitDefEqProofs only [go_sem, hlt']
      cases put
      · simp -implicitDefEqProofs only [go_sem, ha, condJ_true]
        simp only [ackGo, Bool.false_eq_true, if_false] at hx
        rw [← hx]
        simp [intC]
      · simp -implicitDefEqProofs only [go_sem, condJ_false]
        simp only [ackGo, if_true, List.append_nil] at hx
        rw [← hx]
        try simp
def zTd : List AV := [vI 0, vI 0, vI 0, vI 0, vI 0, .sc (.int .u64 0), .sc (.int .u64 0), .sc (.int .u64 0), .sc (.int .u64 0), .nilS, vI 0, .sc (.int .u64 0), .sc (.int .u64 0), .sc (.int .u64 0), .sc (.int .u64 0), .nilS, .nilS, .nilS]
attribute [go_sem] zTd
def MTold.base (c : MCl) : MTold := ⟨c, [], [], []⟩
def mAck (c : MCl) (w : Int) : MTold :=
  if ((mAcks c.acks w).length : Int) < c.need then ⟨{ c with acks := mAcks c.acks w }, [], [], []⟩
  else ⟨{ c with phase := 0, goal := .zero, acks := [], pin := c.goal }, [], [], [c.goal]⟩
theorem c182_c (c : MCl) (w : Int) (hl : c.acks.length ≤ 100) : CallM Tryz.prog 182 [] [c.ro, vI w] (mAck c w).avQ (mAck c w).outQ := by
  refine use_of dcF4 false Tryz.f182 ?_
  conv => enter [1]; reduce
  refine jvM Tryz.f182 40 [.cell 4 149] (by kernel_rfl) (by decide +kernel) rfl ?_
  simp -implicitDefEqProofs only [go_sem]
  refine WantM.intro (c183_c c hl) ?_
  simp -implicitDefEqProofs only [go_sem]
  refine Want.intro (c262_c c.acks w hl) ?_
  unfold mAck
  simp -implicitDefEqProofs only [go_sem]
  refine condJ_intro (fun h => ?_) (fun h => ?_)
  · rw [if_pos (of_decide_eq_true h)]
    simp -implicitDefEqProofs only [go_sem, h]
  · rw [if_neg (of_decide_eq_false h)]
    simp -implicitDefEqProofs only [go_sem, h]
    rfl
def eqP (a b : MPt) : Bool := a.size == b.size && (((a.root.a : Int) == b.root.a) && (((a.root.b : Int) == b.root.b) && (((a.root.c : Int) == b.root.c) && ((a.root.d : Int) == b.root.d))))
def mVouch (c : MCl) (p : MPt) : MMsg := ⟨3, c.session, 0, p.size, p.root, 0, [], []⟩
def mHead (c : MCl) (me : Int) (p : MPt) : MTold :=
  if p.size = 0 ∨ p.size < c.pin.size ∨ eqP p c.pin = true then .base c
  else if p.size = c.pin.size then ⟨c, [], [⟨1, 0, c.pin, p, 0⟩], []⟩
  else ⟨{ c with phase := 2, goal := p }, (List.range c.many.toNat).map (fun i : Nat => MLet.mk me ((i : Int) + 1) (mWireBytes (mVouch c p))), [], []⟩
theorem c181_c (c : MCl) (me : Int) (m : MMsg) (hl : c.acks.length ≤ 100) (hm : c.many ≤ 100) (hr : m.root.ok) : CallM Tryz.prog 181 [] [c.ro, vI me, m.ro] (mHead c me ⟨m.size, m.root⟩).avQ (mHead c me ⟨m.size, m.root⟩).outQ := by
  refine use_of dcF4 false Tryz.f181 ?_
  conv => enter [1]; reduce
  refine jvM Tryz.f181 79 [.cell 6 149] (by kernel_rfl) (by decide +kernel) rfl ?_
  simp -implicitDefEqProofs only [go_sem]
  refine WantM.intro (c183_c c hl) ?_
  unfold mHead
  by_cases a : m.size = 0
  · have a' : (m.size == 0) = true := by simpa using a
    rw [if_pos (.inl a)]
    simp -implicitDefEqProofs only [go_sem, a', guardP_tf, condJ_true, MTold.base]
  · have a' : (m.size == 0) = false := by simpa using a
    by_cases b : m.size < c.pin.size
    · rw [if_pos (.inr (.inl b))]
      simp -implicitDefEqProofs only [go_sem, a', b, guardP_ff, guardP_tf, condJ_true, MTold.base]
    · cases e : eqP ⟨m.size, m.root⟩ c.pin with
      | true =>
        rw [if_pos (.inr (.inr rfl))]
        have e' : (m.size == c.pin.size && (((m.root.a : Int) == c.pin.root.a) && (((m.root.b : Int) == c.pin.root.b) && (((m.root.c : Int) == c.pin.root.c) && ((m.root.d : Int) == c.pin.root.d))))) = true := e
        simp -implicitDefEqProofs only [go_sem, a', b, e', guardP_ff, condJ_true, MTold.base]
      | false =>
        rw [if_neg (by simp only [not_or]; exact ⟨a, b, by simp⟩)]
        have e' : (m.size == c.pin.size && (((m.root.a : Int) == c.pin.root.a) && (((m.root.b : Int) == c.pin.root.b) && (((m.root.c : Int) == c.pin.root.c) && ((m.root.d : Int) == c.pin.root.d))))) = false := e
        by_cases d : m.size = c.pin.size
        · have d' : (m.size == c.pin.size) = true := by simpa using d
          rw [if_pos d]
          simp only [d', Bool.true_and] at e'
          simp -implicitDefEqProofs only [go_sem, a', b, e', d', guardP_ff, condJ_true, condJ_false]
          try rfl
        · have d' : (m.size == c.pin.size) = false := by simpa using d
          rw [if_neg d]
          simp -implicitDefEqProofs only [go_sem, a', b, e', d', guardP_ff, condJ_true, condJ_false]
          generalize hF : (fun i : Nat => MLet.mk me ((i : Int) + 1) (mWireBytes (mVouch c ⟨m.size, m.root⟩))) = F
          have hv := wbS (mVouch c ⟨m.size, m.root⟩) rfl rfl hr
          refine jv_lpN [(16007, 3)] (fun x s => ∃ i : Nat, i ≤ c.many.toNat ∧ x = c.many.toNat - i ∧ s = ⟨79, [(1, vI me), (3, .ptr 3 0 [] 15 0 0), (6, .ptr 6 0 [] 18 0 0), (7, .ptr 7 0 [] 18 0 0), (9, .ptr 9 0 [] 11 0 0), (10, vI ((i : Int) + 1))], [(3, 0, one ⟨15, [c.cs (.ro 1 (c.acks.map intC))], 0, false⟩), (6, 0, one ⟨18, [zTd], 0, false⟩), (7, 0, one ⟨18, [MTold.cs ⟨{ c with phase := 2, goal := ⟨m.size, m.root⟩ }, [], [], []⟩ (.blk 10007 0 [] 1 0 c.acks.length) (.blk 20007 0 [] 3 0 ((List.range i).map F).length) .nilS .nilS], 0, false⟩), (10007, 0, one c.ar), (20007, 0, one ⟨3, ((List.range i).map F).map MLet.cs, 2, false⟩), (9, 0, one ⟨11, [[vI 3, vI c.session, vI 0, vI m.size, vU m.root.a, vU m.root.b, vU m.root.c, vU m.root.d, vI 0, .nilS, .nilS]], 0, false⟩)], 1⟩) c.many.toNat ?_ ?_
          · simp -implicitDefEqProofs only [go_sem]
            exact ⟨0, Nat.zero_le _, rfl, rfl⟩
          · rintro x s ⟨i, hi, rfl, rfl⟩
            rcases Nat.lt_or_ge i c.many.toNat with hlt | hge
            · have hlt' : (i : Int) + 1 ≤ c.many := by omega
              have w1 : IntKind.i64.wrap ((i : Int) + 1 + 1) = ((i + 1 : Nat) : Int) + 1 := by rw [wrS (by omega)]; omega
              have ha : ∀ x, _ := fun x => app_ok (E := MLet.cs) (l := (List.range i).map F) (xs := [x]) (b := 32) (n := 1000) (by simp; omega) (by omega) (by omega)
              simp -implicitDefEqProofs only [go_sem, hlt']
              refine Want.intro hv ?_
              simp -implicitDefEqProofs only [go_sem, ha, w1]
              refine ⟨_, by omega, i + 1, hlt, rfl, ?_⟩
              rw [List.range_succ, List.map_append, List.map_cons, List.map_nil, ← hF]
              simp only [List.map_append, List.length_append, List.length_map, List.map_cons, List.map_nil, List.length_cons, List.length_nil, MLet.cs]
              try rfl
            · have hi : i = c.many.toNat := by omega
              subst hi
              have hlt' : ¬ ((c.many.toNat : Int) + 1 ≤ c.many) := by omega
              simp -implicitDefEqProofs only [go_sem, hlt']
              trace_state
end Go.Proofs.YtjlhdfciklnndaaGreat.E
