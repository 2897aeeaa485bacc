/-
  Contracts: what comes of a vouch; what comes of a growth, of a letter, in plain data.
-/
import Derived.Test.YtjlhdfciklnndaaGreatW5
import Derived.Test.YtjlhdfciklnndaaGreatKC
import Derived.Test.YtjlhdfciklnndaaGreatD21
namespace Go.Proofs.YtjlhdfciklnndaaGreat.E
open Go Go.RowKit
set_option maxHeartbeats 4000000
set_option maxRecDepth 10000
set_option linter.unusedSimpArgs false
set_option linter.unusedVariables false
set_option linter.unusedSectionVars false
def dcV6 : Dec := ⟨[(146, .cm [false]), (238, .cm [false, false])], [9, 10, 11], [27, 30, 44, 45, 46, 58, 68, 78, 79, 86, 101, 112, 113, 132, 174, 196, 247, 249, 351, 356], false⟩

theorem MLet.wide (l : List MLet) : wideB 3 (l.map MLet.cs) = true := by
  induction l with
  | nil => rfl
  | cons a l ih => simp only [List.map_cons, wideB, ih, MLet.cs]; rfl
theorem MLet.flat (l : List MLet) : flL (l.map MLet.cs) = 2 := by
  induction l with
  | nil => rfl
  | cons a l ih => simp only [List.map_cons, flL, ih, MLet.cs]; rfl
attribute [go_sem] MLet.wide MLet.flat
theorem c141_c (l : List MLet) (hl : l.length * 32 ≤ 140737488355328) : CallR Tryz.prog 141 [.ro 3 (l.map MLet.cs)] (.blk 0 0 [] 3 0 l.length) [([], ⟨3, l.map MLet.cs, 2, false⟩)] := by
  refine use_of dcV6 false Tryz.f141 ?_
  conv => enter [1]; reduce
  refine jvR Tryz.f141 14 [.tmp 2] (by kernel_rfl) (by decide +kernel) rfl ?_
  simp -implicitDefEqProofs only [go_sem]
  refine condJ_intro (fun h => ?_) (fun h => ?_)
  · have : l = [] := by simpa using h
    subst this
    simp -implicitDefEqProofs only [go_sem]
  · have hm := ok_len hl (by omega)
    have hmk : ((32 : Nat) : Int) * (l.length : Int) ≤ 281474976710656 ∧ (l.length : Int) ≤ 9223372036854775807 := by unfold maxLen at hm; omega
    simp -implicitDefEqProofs only [go_sem, h, hmk, List.length_replicate]
theorem copLN : CallR Tryz.prog 141 [.nilS] (.blk 0 0 [] 3 0 0) [([], ⟨3, [], 2, false⟩)] :=
  (c141_c [] (by simp)).arg fun rd vs h => by
    obtain ⟨v, us, rfl, hr, hp⟩ := h.uncons
    have : us = [] := List.eq_nil_of_length_eq_zero hp.1.symm
    subst this
    exact PW.cons (hr.wk (.inr ⟨rfl, 3, rfl⟩)) PW.nil
theorem mWire_ok {s : ByteArray} : (mWireRead s).1.root.ok := by
  generalize hW : mWireRead s = W
  obtain ⟨m, c, a⟩ := W
  by_cases hc : c = 0
  · have := wire_inv s
    rw [hW] at this
    exact (this hc).2.1
  · have := wire_bad hW hc
    subst this
    exact dig0_ok
structure MKeep where
  old : MPt
  new : MPt
  proof : List MDig
def MKeep.cs (k : MKeep) (a : AV) : List AV := k.old.cs ++ (k.new.cs ++ [a])
structure MHeard where
  disk : MDisk
  wishes : List MWish
  raws : List MRaw
  kept : Option MKeep
  letters : List MLet
  alarms : List MAl
def MHeard.av (h : MHeard) : AV := .agg (h.disk.cs ++ [.blk 0 0 [] 7 0 h.wishes.length, .blk 1 0 [] 3 0 h.raws.length, .blk 2 0 [] 11 0 h.kept.toList.length, .blk 3 0 [] 3 0 h.letters.length, .blk 4 0 [] 13 0 h.alarms.length])
def keptRow : Option MKeep → Row
  | none => ⟨11, [], 2, false⟩
  | some k => ⟨11, [k.cs (.blk 5 0 [] 4 0 k.proof.length)], 0, false⟩
def keptSig : Option MKeep → Sig
  | none => []
  | some k => [(5, 0, one ⟨4, k.proof.map MDig.cs, 2, false⟩)]
def MHeard.out (h : MHeard) : Sig := [(0, 0, one ⟨7, h.wishes.map MWish.cs, 2, false⟩), (1, 0, one ⟨3, h.raws.map MRaw.cs, 2, false⟩), (2, 0, one (keptRow h.kept)), (3, 0, one ⟨3, h.letters.map MLet.cs, 2, false⟩), (4, 0, one ⟨13, h.alarms.map MAl.cs, 2, false⟩)] ++ keptSig h.kept
def MHeard.base (w : MWit) : MHeard := ⟨w.disk, w.wishes, [], none, [], []⟩
attribute [go_sem] MKeep.cs MHeard.av keptRow keptSig MHeard.out Option.toList_none Option.toList_some MHeard.base
def mProveL (me a b : Int) : MLet := ⟨me, 0, mWireBytes ⟨4, 0, a, b, dig0, 0, [], []⟩⟩
def mHVouch (w : MWit) (held : MPt) (me who s : Int) (p : MPt) : MHeard :=
  if p.size = 0 ∨ p.size < held.size then .base w
  else if eqPt p held then { MHeard.base w with letters := [mAckL me who s p] }
  else if p.size = held.size then { MHeard.base w with alarms := [⟨1, who, held, p, 0⟩] }
  else if (mWishIn w.wishes ⟨who, s, p⟩).length ≤ 8 then { MHeard.base w with wishes := mWishIn w.wishes ⟨who, s, p⟩, letters := [mProveL me held.size p.size] }
  else .base w
theorem mWishIn_len {l : List MWish} (h : l.length ≤ 8) (x : MWish) : (mWishIn l x).length ≤ 17 := by
  have := wishF_le x l
  unfold mWishIn
  split
  · omega
  · rw [List.length_append]; simp; omega
/-- What is heard, with nothing but wishes. -/
def hearIn (w : MWit) : AV := .agg (w.disk.cs ++ [.blk 1000000 0 [] 7 0 w.wishes.length, .nilS, .nilS, .nilS, .nilS])
attribute [go_sem] hearIn
theorem c139_c (w : MWit) (held : MPt) (me who : Int) (m : MMsg) (hl : w.wishes.length ≤ 8) : CallM Tryz.prog 139 [(1000000, 0, one ⟨7, w.wishes.map MWish.cs, 2, false⟩)] [hearIn w, .agg held.cs, vI me, vI who, m.ro] (mHVouch w held me who m.session ⟨m.size, m.root⟩).av (mHVouch w held me who m.session ⟨m.size, m.root⟩).out := by
  refine use_of dcV6 false Tryz.f139 ?_
  conv => enter [1]; reduce
  refine jvM Tryz.f139 80 [.cell 10 115] (by kernel_rfl) (by decide +kernel) rfl ?_
  have hak := c232_c me who m.session ⟨m.size, m.root⟩
  have hwi := c233_c w.wishes ⟨who, m.session, ⟨m.size, m.root⟩⟩ hl
  have hwl := mWishIn_len hl ⟨who, m.session, ⟨m.size, m.root⟩⟩
  have hpl := c234_c me 0 ⟨4, 0, held.size, m.size, dig0, 0, [], []⟩ rfl rfl
  unfold mHVouch
  simp only
  generalize hA : mAckL me who m.session ⟨m.size, m.root⟩ = A at *
  generalize hW : mWishIn w.wishes ⟨who, m.session, ⟨m.size, m.root⟩⟩ = W at *
  simp -implicitDefEqProofs only [go_sem]
  by_cases c1 : m.size = 0
  · have c1' : (m.size == 0) = true := by rw [c1]; rfl
    rw [if_pos (.inl c1)]
    simp -implicitDefEqProofs only [go_sem, c1', guardP_tf, guardP_ff, guardP_ft, guardP_tt, condJ_true, condJ_false]
  · have c1' : (m.size == 0) = false := beq_eq_false_iff_ne.2 c1
    by_cases c2 : m.size < held.size
    · rw [if_pos (.inr c2)]
      simp -implicitDefEqProofs only [go_sem, c1', c2, guardP_tf, guardP_ff, guardP_ft, guardP_tt, condJ_true, condJ_false]
    · rw [if_neg (fun h => h.elim c1 c2)]
      cases c3 : eqPt ⟨m.size, m.root⟩ held with
      | true =>
        have c3' := c3
        unfold eqPt at c3'
        simp only at c3'
        simp -implicitDefEqProofs only [go_sem, c1', c2, c3', guardP_tf, guardP_ff, guardP_ft, guardP_tt, condJ_true, condJ_false]
        refine Want.intro hak ?_
        simp -implicitDefEqProofs only [go_sem]
      | false =>
        have c3' := c3
        unfold eqPt at c3'
        simp only at c3'
        by_cases c4 : m.size = held.size
        · have c4' : (m.size == held.size) = true := by rw [c4]; simp
          rw [if_neg (by simp), if_pos c4]
          rw [c4', Bool.true_and] at c3'
          simp -implicitDefEqProofs only [go_sem, c1', c2, c3', c4', guardP_tf, guardP_ff, guardP_ft, guardP_tt, condJ_true, condJ_false]
        · have c4' : (m.size == held.size) = false := beq_eq_false_iff_ne.2 c4
          rw [if_neg (by simp), if_neg c4]
          simp -implicitDefEqProofs only [go_sem, c1', c2, c3', c4', guardP_tf, guardP_ff, guardP_ft, guardP_tt, condJ_true, condJ_false]
          refine Want.intro hwi ?_
          by_cases c5 : W.length ≤ 8
          · have c5' : ¬ ((W.length : Int) > 8) := by omega
            rw [if_pos c5]
            simp -implicitDefEqProofs only [go_sem, c5', condJ_true, condJ_false]
            refine Want.intro (c138_c W (by omega)) ?_
            simp -implicitDefEqProofs only [go_sem]
            refine Want.intro hpl ?_
            simp -implicitDefEqProofs only [go_sem]
            rfl
          · have c5' : ((W.length : Int) > 8) := by omega
            rw [if_neg c5]
            simp -implicitDefEqProofs only [go_sem, c5', condJ_true, condJ_false]
theorem c144_c (w : MWit) (me who : Int) (m : MMsg) (hl : w.wishes.length ≤ 8) (hd : w.disk.ok) (hr : m.root.ok) : CallM Tryz.prog 144 [] [w.ro, vI me, vI who, m.ro] (mHVouch w (mHeld w.disk) me who m.session ⟨m.size, m.root⟩).av (mHVouch w (mHeld w.disk) me who m.session ⟨m.size, m.root⟩).out := by
  refine use_of dcV6 false Tryz.f144 ?_
  conv => enter [1]; reduce
  refine jvM Tryz.f144 91 [.cell 8 115] (by kernel_rfl) (by decide +kernel) rfl ?_
  have hcp := c146_c w (by omega)
  have hhe := c45_c w.disk hd
  have hak := c237_c me ⟨who, m.session, ⟨m.size, m.root⟩⟩ hr
  have hwi := c238_c w.wishes ⟨who, m.session, ⟨m.size, m.root⟩⟩ hl
  generalize mHeld w.disk = held at *
  have hwl := mWishIn_len hl ⟨who, m.session, ⟨m.size, m.root⟩⟩
  have hpl := wbS ⟨4, 0, held.size, m.size, dig0, 0, [], []⟩ rfl rfl dig0_ok
  unfold mHVouch
  simp only at hak ⊢
  generalize hA : mAckL me who m.session ⟨m.size, m.root⟩ = A at *
  generalize hW : mWishIn w.wishes ⟨who, m.session, ⟨m.size, m.root⟩⟩ = W at *
  simp -implicitDefEqProofs only [go_sem]
  refine WantM.intro hcp ?_
  simp -implicitDefEqProofs only [go_sem]
  refine Want.intro hhe ?_
  by_cases c1 : m.size = 0
  · have c1' : (m.size == 0) = true := by rw [c1]; rfl
    rw [if_pos (.inl c1)]
    simp -implicitDefEqProofs only [go_sem, c1', guardP_tf, guardP_ff, guardP_ft, guardP_tt, condJ_true, condJ_false]
  · have c1' : (m.size == 0) = false := beq_eq_false_iff_ne.2 c1
    by_cases c2 : m.size < held.size
    · rw [if_pos (.inr c2)]
      simp -implicitDefEqProofs only [go_sem, c1', c2, guardP_tf, guardP_ff, guardP_ft, guardP_tt, condJ_true, condJ_false]
    · rw [if_neg (fun h => h.elim c1 c2)]
      cases c3 : eqPt ⟨m.size, m.root⟩ held with
      | true =>
        have c3' := c3
        unfold eqPt at c3'
        simp only at c3'
        simp -implicitDefEqProofs only [go_sem, c1', c2, c3', guardP_tf, guardP_ff, guardP_ft, guardP_tt, condJ_true, condJ_false]
        refine Want.intro hak ?_
        simp -implicitDefEqProofs only [go_sem]
      | false =>
        have c3' := c3
        unfold eqPt at c3'
        simp only at c3'
        by_cases c4 : m.size = held.size
        · have c4' : (m.size == held.size) = true := by rw [c4]; simp
          rw [if_neg (by simp), if_pos c4]
          rw [c4', Bool.true_and] at c3'
          simp -implicitDefEqProofs only [go_sem, c1', c2, c3', c4', guardP_tf, guardP_ff, guardP_ft, guardP_tt, condJ_true, condJ_false]
        · have c4' : (m.size == held.size) = false := beq_eq_false_iff_ne.2 c4
          rw [if_neg (by simp), if_neg c4]
          simp -implicitDefEqProofs only [go_sem, c1', c2, c3', c4', guardP_tf, guardP_ff, guardP_ft, guardP_tt, condJ_true, condJ_false]
          refine WantM.intro hwi ?_
          by_cases c5 : W.length ≤ 8
          · have c5' : decide (W.length ≤ 8) = true := decide_eq_true c5
            rw [if_pos c5]
            simp -implicitDefEqProofs only [go_sem, c5', Bool.not_true, condJ_true, condJ_false]
            refine Want.intro hpl ?_
            simp -implicitDefEqProofs only [go_sem]
            rfl
          · have c5' : decide (W.length ≤ 8) = false := decide_eq_false c5
            rw [if_neg c5]
            simp -implicitDefEqProofs only [go_sem, c5', Bool.not_false, condJ_true, condJ_false]
theorem cs_bds {l : List MDig} (h : ∀ d ∈ l, d.ok) : (l.map MDig.bd).map BD.cs = l.map MDig.cs := by
  rw [List.map_map]
  refine List.map_congr_left fun d hd => ?_
  show d.bd.dig.cs = d.cs
  rw [MDig.bd_dig (h d hd)]
theorem c235_m (o p : MPt) (P : List MDig) (h : ∀ d ∈ P, d.ok) : CallR Tryz.prog 235 [.agg o.cs, .agg p.cs, .ro 4 (P.map MDig.cs)] (vI (mGC o p (P.map MDig.bd))) [] := by
  rw [← cs_bds h]
  exact c235_c o p _
theorem c53_m (o p : MPt) (P : List MDig) (h : ∀ d ∈ P, d.ok) : CallR Tryz.prog 53 [.agg o.cs, .agg p.cs, .ro 4 (P.map MDig.cs)] (vI (mGC o p (P.map MDig.bd))) [] := by
  rw [← cs_bds h]
  exact c53_c o p _
structure GSt where
  left : List MWish
  taken : Bool
  p : MPt
  al : List MAl
def gStep (held : MPt) (size : Int) (P : List MDig) (s : GSt) (x : MWish) : GSt :=
  if s.taken = true ∨ x.pt.size ≠ size then { s with left := s.left ++ [x] }
  else if mGC held x.pt (P.map MDig.bd) ≠ 0 then { s with al := s.al ++ [⟨2, x.who, held, x.pt, mGC held x.pt (P.map MDig.bd)⟩] }
  else { s with left := s.left ++ [x], taken := true, p := x.pt }
def gF (held : MPt) (size : Int) (P : List MDig) (l : List MWish) : GSt := l.foldl (gStep held size P) ⟨[], false, .zero, []⟩
theorem gF_step {held : MPt} {size : Int} {P : List MDig} {l : List MWish} {i : Nat} (h : i < l.length) : gF held size P (l.take (i + 1)) = gStep held size P (gF held size P (l.take i)) l[i] := by
  unfold gF
  rw [List.take_succ_eq_append_getElem h, List.foldl_append]
  rfl
theorem gF_len (held : MPt) (size : Int) (P : List MDig) (l : List MWish) : ∀ s : GSt, (l.foldl (gStep held size P) s).left.length + (l.foldl (gStep held size P) s).al.length = s.left.length + s.al.length + l.length := by
  induction l with
  | nil => intro s; simp
  | cons a l ih =>
    intro s
    rw [List.foldl_cons, ih, List.length_cons]
    have e : (gStep held size P s a).left.length + (gStep held size P s a).al.length = s.left.length + s.al.length + 1 := by
      unfold gStep
      repeat' split
      all_goals simp
      all_goals omega
    omega
theorem gF_le (held : MPt) (size : Int) (P : List MDig) (l : List MWish) : (gF held size P l).left.length ≤ l.length ∧ (gF held size P l).al.length ≤ l.length := by
  have := gF_len held size P l ⟨[], false, .zero, []⟩
  unfold gF
  simp only [List.length_nil] at this
  omega
structure HSt where
  le : List MLet
  al : List MAl
  rest : List MWish
def hStep (me : Int) (p : MPt) (s : HSt) (x : MWish) : HSt :=
  if eqPt x.pt p = true then { s with le := s.le ++ [mAckL me x.who x.session p] }
  else if x.pt.size = p.size then { s with al := s.al ++ [⟨1, x.who, p, x.pt, 0⟩] }
  else if x.pt.size > p.size then { s with rest := s.rest ++ [x] }
  else s
def hvF (me : Int) (p : MPt) (al : List MAl) (l : List MWish) : HSt := l.foldl (hStep me p) ⟨[], al, []⟩
theorem hvF_step {me : Int} {p : MPt} {al : List MAl} {l : List MWish} {i : Nat} (h : i < l.length) : hvF me p al (l.take (i + 1)) = hStep me p (hvF me p al (l.take i)) l[i] := by
  unfold hvF
  rw [List.take_succ_eq_append_getElem h, List.foldl_append]
  rfl
theorem hvF_len (me : Int) (p : MPt) (l : List MWish) : ∀ s : HSt, (l.foldl (hStep me p) s).le.length + (l.foldl (hStep me p) s).al.length + (l.foldl (hStep me p) s).rest.length ≤ s.le.length + s.al.length + s.rest.length + l.length := by
  induction l with
  | nil => intro s; simp
  | cons a l ih =>
    intro s
    rw [List.foldl_cons, List.length_cons]
    have := ih (hStep me p s a)
    have e : (hStep me p s a).le.length + (hStep me p s a).al.length + (hStep me p s a).rest.length ≤ s.le.length + s.al.length + s.rest.length + 1 := by
      unfold hStep
      repeat' split
      all_goals simp
      all_goals omega
    omega
theorem hvF_le (me : Int) (p : MPt) (al : List MAl) (l : List MWish) : (hvF me p al l).le.length ≤ al.length + l.length ∧ (hvF me p al l).al.length ≤ al.length + l.length ∧ (hvF me p al l).rest.length ≤ al.length + l.length := by
  have := hvF_len me p l ⟨[], al, []⟩
  unfold hvF
  simp only [List.length_nil] at this
  omega
def mHGrowth (w : MWit) (held : MPt) (me : Int) (m : MMsg) : MHeard :=
  if m.from_ ≠ held.size then .base w
  else if (gF held m.size m.proof w.wishes).taken = false then { MHeard.base w with wishes := (gF held m.size m.proof w.wishes).left, alarms := (gF held m.size m.proof w.wishes).al }
  else if mRaws w.disk (gF held m.size m.proof w.wishes).p.size (gF held m.size m.proof w.wishes).p.root = [] then .base w
  else ⟨mWrite w.disk (mRaws w.disk (gF held m.size m.proof w.wishes).p.size (gF held m.size m.proof w.wishes).p.root), (hvF me (gF held m.size m.proof w.wishes).p (gF held m.size m.proof w.wishes).al (gF held m.size m.proof w.wishes).left).rest, mRaws w.disk (gF held m.size m.proof w.wishes).p.size (gF held m.size m.proof w.wishes).p.root, some ⟨held, (gF held m.size m.proof w.wishes).p, m.proof⟩, (hvF me (gF held m.size m.proof w.wishes).p (gF held m.size m.proof w.wishes).al (gF held m.size m.proof w.wishes).left).le, (hvF me (gF held m.size m.proof w.wishes).p (gF held m.size m.proof w.wishes).al (gF held m.size m.proof w.wishes).left).al⟩
def hcells (d : MDisk) (w r k l a : AV) : List AV := d.cs ++ [w, r, k, l, a]
attribute [go_sem] hcells
/-- Letters and alarms of what is heard, nil as long as there are none. -/
inductive Shp (H : HSt) (P : List MDig) (k : Nat) : AV → AV → Sig → Nat → Prop
  | s00 (h1 : H.le = []) (h2 : H.al = []) : Shp H P k .nilS .nilS [(40000 + k, 0, one ⟨4, P.map MDig.cs, 2, false⟩)] (40000 + k)
  | s01 (h1 : H.le = []) (h2 : H.al ≠ []) : Shp H P k .nilS (.blk (40000 + k) 0 [] 13 0 H.al.length) [(40000 + k, 0, one ⟨13, H.al.map MAl.cs, 2, false⟩), (50000 + k, 0, one ⟨4, P.map MDig.cs, 2, false⟩)] (50000 + k)
  | s10 (h1 : H.le ≠ []) (h2 : H.al = []) : Shp H P k (.blk (40000 + k) 0 [] 3 0 H.le.length) .nilS [(40000 + k, 0, one ⟨3, H.le.map MLet.cs, 2, false⟩), (50000 + k, 0, one ⟨4, P.map MDig.cs, 2, false⟩)] (50000 + k)
  | s11 (h1 : H.le ≠ []) (h2 : H.al ≠ []) : Shp H P k (.blk (40000 + k) 0 [] 3 0 H.le.length) (.blk (50000 + k) 0 [] 13 0 H.al.length) [(40000 + k, 0, one ⟨3, H.le.map MLet.cs, 2, false⟩), (50000 + k, 0, one ⟨13, H.al.map MAl.cs, 2, false⟩), (60000 + k, 0, one ⟨4, P.map MDig.cs, 2, false⟩)] (60000 + k)
def MHeard.zero : MHeard := ⟨zdisk, [], [], none, [], []⟩
attribute [go_sem] MHeard.zero
def mWHear (w : MWit) (me : Int) (l : MLet) : MHeard :=
  if mWitOk w && (mLetOk l && mIn me 1 20) then
    (if ((mWireRead l.text).2.1 == 0) && (((mWireRead l.text).1.kind == 3) && decide (l.from_ > 0)) then mHVouch w (mHeld w.disk) me l.from_ (mWireRead l.text).1.session ⟨(mWireRead l.text).1.size, (mWireRead l.text).1.root⟩
     else if ((mWireRead l.text).2.1 == 0) && (((mWireRead l.text).1.kind == 5) && (l.from_ == 0)) then mHGrowth w (mHeld w.disk) me (mWireRead l.text).1
     else .base w)
  else .zero
theorem witOk_len {w : MWit} (h : mWitOk w = true) : w.wishes.length ≤ 8 := by
  unfold mWitOk at h
  rw [Bool.and_eq_true, decide_eq_true_eq] at h
  exact h.1
theorem vouch_small (w : MWit) (held : MPt) (me who s : Int) (p : MPt) : (mHVouch w held me who s p).letters.length ≤ 100 ∧ (mHVouch w held me who s p).alarms.length ≤ 100 := by
  unfold mHVouch
  repeat' split
  all_goals simp [MHeard.base]
theorem growth_small (w : MWit) (held : MPt) (me : Int) (m : MMsg) (h : w.wishes.length ≤ 8) : (mHGrowth w held me m).letters.length ≤ 100 ∧ (mHGrowth w held me m).alarms.length ≤ 100 := by
  have h1 := gF_le held m.size m.proof w.wishes
  have h2 := hvF_le me (gF held m.size m.proof w.wishes).p (gF held m.size m.proof w.wishes).al (gF held m.size m.proof w.wishes).left
  unfold mHGrowth
  repeat' split
  · simp [MHeard.base]
  · constructor
    · simp [MHeard.base]
    · show (gF held m.size m.proof w.wishes).al.length ≤ 100; omega
  · simp [MHeard.base]
  · constructor
    · show (hvF me (gF held m.size m.proof w.wishes).p (gF held m.size m.proof w.wishes).al (gF held m.size m.proof w.wishes).left).le.length ≤ 100; omega
    · show (hvF me (gF held m.size m.proof w.wishes).p (gF held m.size m.proof w.wishes).al (gF held m.size m.proof w.wishes).left).al.length ≤ 100; omega
end Go.Proofs.YtjlhdfciklnndaaGreat.E
