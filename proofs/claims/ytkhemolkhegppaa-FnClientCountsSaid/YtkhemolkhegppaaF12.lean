/-
  The law of ClientCounts.
-/
import Derived.Test.YtkhemolkhegppaaF9
import Derived.Test.YtkhemolkhegppaaDA
namespace Go.Proofs.Ytkhemolkhegppaa.E
open Go Go.RowKit
set_option maxHeartbeats 4000000
set_option maxRecDepth 10000
set_option linter.unusedSimpArgs false
set_option linter.unusedVariables false
set_option linter.unusedSectionVars false
theorem ackGo_t (w : Int) : ∀ l, ackGo w l true = l.filter (· != w)
  | [] => rfl
  | a :: l => by
    simp only [ackGo, Bool.not_true, Bool.false_and, Bool.false_eq_true, if_false, List.nil_append, Bool.true_or, ackGo_t w l, List.filter_cons]
    split <;> simp
theorem ackGo_ge {w a : Int} {l : List Int} (h : a ≥ w) : ackGo w (a :: l) false = w :: (a :: l).filter (· != w) := by
  simp only [ackGo, Bool.not_false, Bool.true_and, h, decide_true, if_true, Bool.false_or, ackGo_t, List.filter_cons]
  split <;> simp
theorem ackGo_lt {w a : Int} {l : List Int} (h : a < w) : ackGo w (a :: l) false = a :: ackGo w l false := by
  have h1 : ¬ a ≥ w := by omega
  have h2 : (a != w) = true := by rw [bne_iff_ne]; omega
  simp only [ackGo, Bool.not_false, Bool.true_and, h1, decide_false, Bool.false_eq_true, if_false, Bool.false_or, h2, if_true, List.nil_append, List.singleton_append]
theorem ackGo_mem (w x : Int) : ∀ l, x ∈ ackGo w l false ↔ x = w ∨ x ∈ l
  | [] => by simp [ackGo]
  | a :: l => by
    by_cases h : a ≥ w
    · rw [ackGo_ge h, List.mem_cons, List.mem_filter, bne_iff_ne]
      by_cases e : x = w <;> simp [e]
    · rw [ackGo_lt (by omega), List.mem_cons, ackGo_mem w x l, List.mem_cons]
      exact ⟨fun h => by rcases h with h | h | h <;> simp [h], fun h => by rcases h with h | h | h <;> simp [h]⟩
theorem ackGo_pw (w : Int) : ∀ l : List Int, l.Pairwise (· < ·) → (ackGo w l false).Pairwise (· < ·)
  | [], _ => by simp [ackGo]
  | a :: l, hp => by
    have hp2 := List.pairwise_cons.1 hp
    by_cases h : a ≥ w
    · rw [ackGo_ge h]
      refine List.pairwise_cons.2 ⟨fun x hx => ?_, List.Pairwise.filter _ hp⟩
      obtain ⟨h1, h2⟩ := List.mem_filter.1 hx
      rw [bne_iff_ne] at h2
      rcases List.mem_cons.1 h1 with h1 | h1
      · omega
      · have := hp2.1 x h1; omega
    · rw [ackGo_lt (by omega)]
      refine List.pairwise_cons.2 ⟨fun x hx => ?_, ackGo_pw w l hp2.2⟩
      rcases (ackGo_mem w x l).1 hx with h1 | h1
      · omega
      · exact hp2.1 x h1
theorem filter_ne {w : Int} {l : List Int} (h : ¬ w ∈ l) : l.filter (· != w) = l :=
  List.filter_eq_self.2 fun x hx => by rw [bne_iff_ne]; exact fun e => h (e ▸ hx)
theorem ackGo_in {w : Int} : ∀ l : List Int, l.Pairwise (· < ·) → w ∈ l → ackGo w l false = l
  | a :: l, hp, hw => by
    have hp2 := List.pairwise_cons.1 hp
    by_cases h : a ≥ w
    · have e : a = w := by
        rcases List.mem_cons.1 hw with h1 | h1
        · exact h1.symm
        · have := hp2.1 w h1; omega
      subst e
      have hn : ¬ a ∈ l := fun h1 => by have := hp2.1 a h1; omega
      rw [ackGo_ge h, List.filter_cons, if_neg (by simp), filter_ne hn]
    · have h1 : w ∈ l := by
        rcases List.mem_cons.1 hw with h1 | h1
        · omega
        · exact h1
      rw [ackGo_lt (by omega), ackGo_in l hp2.2 h1]
theorem ackGo_out {w : Int} : ∀ l : List Int, ¬ w ∈ l → (ackGo w l false).length = l.length + 1
  | [], _ => rfl
  | a :: l, hw => by
    by_cases h : a ≥ w
    · rw [ackGo_ge h, filter_ne hw, List.length_cons]
    · rw [ackGo_lt (by omega), List.length_cons, ackGo_out l (fun h1 => hw (List.mem_cons_of_mem _ h1)), List.length_cons]
theorem acks_pw {many : Int} {l : List Int} (hp : l.Pairwise (· < ·)) (hb : ∀ x ∈ l, 1 ≤ x ∧ x ≤ many) : acksOk many l = true := by
  rw [acks_all]
  intro i hi
  have hm := mIn_iff.2 (hb l[i] (List.getElem_mem hi))
  cases i with
  | zero => rw [ackAt_zero hi]; exact hm
  | succ i => rw [ackAt_succ hi, hm, Bool.true_and, decide_eq_true_eq]; exact List.pairwise_iff_getElem.1 hp i (i + 1) (by omega) hi (by omega)
/-- What is asked of the client that the law draws. -/
structure ClGood (c : MCl) : Prop where
  m : 1 ≤ c.many ∧ c.many ≤ 7
  n : 1 ≤ c.need ∧ c.need ≤ c.many
  t : c.many < 2 * c.need
  s : 0 ≤ c.session ∧ c.session < 1000000
  p : mPin c.pin = true
  z : 0 ≤ c.pin.size ∧ c.pin.size ≤ 200
theorem ClGood.of {c : MCl} (h : mClOk c = true) (hs : c.session < 1000000) (hp : c.pin.size ≤ 200) : ClGood c := by
  simp only [mClOk, Bool.and_eq_true, decide_eq_true_eq, mIn_iff] at h
  exact ⟨h.1, h.2.1, h.2.2.1, ⟨h.2.2.2.1.1, hs⟩, h.2.2.2.2.1, ⟨(mPin_wr h.2.2.2.2.1).2.1, hp⟩⟩
def c1 (c : MCl) : MCl := { c with session := c.session + 1, phase := 1, goal := .zero, acks := [] }
def cp (c : MCl) : MPt := ⟨c.pin.size + 1, ⟨0, 5, 0, 0⟩⟩
def cA (c : MCl) (A : List Int) : MCl := { c with session := c.session + 1, phase := 2, goal := cp c, acks := A }
def cD (c : MCl) : MCl := { c with session := c.session + 1, phase := 0, goal := .zero, acks := [], pin := cp c }
def hdM (c : MCl) : MMsg := ⟨2, c.session + 1, 0, c.pin.size + 1, ⟨0, 5, 0, 0⟩, 0, [], []⟩
def akM (c : MCl) : MMsg := ⟨6, c.session + 1, 0, c.pin.size + 1, ⟨0, 5, 0, 0⟩, 0, [], []⟩
theorem dig5 : MDig.ok ⟨0, 5, 0, 0⟩ := ⟨by decide, by decide, by decide, by decide⟩
theorem hd_ok {c : MCl} (h : ClGood c) : mWireOk (hdM c) = true ∧ mWireOk (akM c) = true := by
  have := h.s
  have := h.z
  exact ⟨ok_szr2 (by omega) (by omega), ok_szr6 (by omega) (by omega)⟩
theorem hd_read {c : MCl} (h : ClGood c) : mWireRead (mWireBytes (hdM c)) = (hdM c, 0, 0) ∧ mWireRead (mWireBytes (akM c)) = (akM c, 0, 0) := by
  obtain ⟨h1, h2⟩ := hd_ok h
  unfold mWireBytes
  rw [if_pos h1, if_pos h2]
  exact ⟨wire_read h1 dig5 (by simp [hdM]), wire_read h2 dig5 (by simp [akM])⟩
theorem wb_sz (m : MMsg) : (mWireBytes m).size ≤ 600 := by
  unfold mWireBytes
  split
  · rename_i h
    rw [bA_size]
    exact (wbL_len (WOk.of h)).2
  · exact Nat.zero_le _
theorem ok_c1 {c : MCl} (h : ClGood c) : mClOk (c1 c) = true := by
  have := h.s
  simp only [mClOk, Bool.and_eq_true, decide_eq_true_eq, mIn_iff]
  exact ⟨h.m, h.n, h.t, ⟨by simp only [c1]; omega, by simp only [c1]; omega⟩, h.p, by rw [if_pos (.inr rfl)]; show (eqPt MPt.zero MPt.zero && ((([] : List Int).length == 0) && decide ((1 : Int) ≤ c.session + 1))) = true; rw [decide_eq_true (by omega)]; rfl⟩
theorem ok_cD {c : MCl} (h : ClGood c) : mClOk (cD c) = true := by
  have := h.s
  have := h.z
  simp only [mClOk, Bool.and_eq_true, decide_eq_true_eq, mIn_iff]
  exact ⟨h.m, h.n, h.t, ⟨by simp only [cD]; omega, by simp only [cD]; omega⟩, by simp only [mPin, cD, cp, Bool.or_eq_true, mIn_iff]; left; omega, by rw [if_pos (.inl rfl)]; show (eqPt MPt.zero MPt.zero && ((([] : List Int).length == 0) && decide ((0 : Int) ≤ c.session + 1))) = true; rw [decide_eq_true (by omega)]; rfl⟩
theorem ok_cA {c : MCl} (h : ClGood c) {A : List Int} (hn : (A.length : Int) < c.need) (hp : A.Pairwise (· < ·)) (hb : ∀ x ∈ A, 1 ≤ x ∧ x ≤ c.many) : mClOk (cA c A) = true := by
  have := h.s
  have := h.z
  rw [ok_two (c := cA c A) (mIn_iff.2 h.m) (mIn_iff.2 h.n) h.t (mIn_iff.2 ⟨by simp only [cA]; omega, by simp only [cA]; omega⟩) h.p rfl]
  simp only [Bool.and_eq_true, decide_eq_true_eq, mIn_iff]
  exact ⟨by simp only [cA]; omega, ⟨by simp only [cA, cp]; omega, by simp only [cA, cp]; omega⟩, hn, acks_pw hp hb⟩
theorem let_ok (w : Int) (hw : 0 ≤ w ∧ w ≤ 20) (m : MMsg) : mLetOk ⟨w, 0, mWireBytes m⟩ = true := by
  have := wb_sz m
  simp only [mLetOk, Bool.and_eq_true, decide_eq_true_eq, mIn_iff]
  omega
theorem cnt_tick {c : MCl} (h : mClOk c = true) (hs : c.session < 1000000) : mTick c 9 = ⟨c1 c, [⟨9, 0, mWireBytes (mAsk (c.session + 1))⟩], [], []⟩ := by
  unfold mTick
  rw [if_pos (by rw [h]; rfl), if_neg (by omega)]
  rfl
theorem cnt_head {c : MCl} (h : ClGood c) : ∃ L, mHear (c1 c) 9 ⟨0, 0, mWireBytes (hdM c)⟩ = ⟨cA c [], L, [], []⟩ ∧ (L.length : Int) = c.many := by
  have hm := h.m
  have hz := h.z
  unfold mHear
  rw [if_pos (by simp only [hearOk, ok_c1 h, let_ok 0 (by omega) (hdM c)]; rfl), (hd_read h).1, if_pos (by simp [hearHd, hdM, c1])]
  unfold mHead
  rw [if_neg, if_neg]
  · exact ⟨_, rfl, by simp [c1]; omega⟩
  · simp only [hdM, c1]; omega
  · simp only [hdM, c1, eqP, Bool.and_eq_true, beq_iff_eq]; omega
/-- Where the law's loop stands: who has come, how many, and the client. -/
structure CInv (c : MCl) (B : List Bool) (n : Nat) (cl : MCl) : Prop where
  len : B.length = 9
  le : (n : Int) ≤ c.need
  run : (n : Int) < c.need → ∃ A : List Int, cl = cA c A ∧ A.length = n ∧ A.Pairwise (· < ·) ∧ (∀ x ∈ A, 1 ≤ x ∧ x ≤ c.many) ∧ ∀ (w : Nat) (b : Bool), B[w]? = some b → (b = true ↔ (w : Int) ∈ A)
  fin : (n : Int) = c.need → cl = cD c
theorem CInv.start {c : MCl} (h : ClGood c) : CInv c (List.replicate 9 false) 0 (cA c []) :=
  ⟨rfl, by have := h.n; omega, fun _ => ⟨[], rfl, rfl, .nil, by simp, fun w b hb => by
    obtain ⟨_, h2⟩ := List.getElem?_eq_some_iff.1 hb
    rw [List.getElem_replicate] at h2
    subst h2
    simp⟩, fun e => by have := h.n; omega⟩
def cnt (c : MCl) (w : Nat) (b : Bool) (n : Nat) : Bool := decide ((w : Int) ≤ c.many) && (!b && decide ((n : Int) < c.need))
theorem cnt_step {c : MCl} {B : List Bool} {n w : Nat} {cl : MCl} {b : Bool} (hc : ClGood c) (h : CInv c B n cl) (hw : 1 ≤ w ∧ (w : Int) ≤ c.many + 1) (hb : B[w]? = some b) :
    let t := mHear cl 9 ⟨w, 0, mWireBytes (akM c)⟩
    let B' := if cnt c w b n = true then B.set w true else B
    let n' := if cnt c w b n = true then n + 1 else n
    CInv c B' n' t.cl ∧ (t.cl.phase == 0) = ((n' : Int) == c.need) ∧ eqP t.cl.pin (cp c) = ((n' : Int) == c.need) ∧ ((t.acc.length : Int) == 1) = (((n' : Int) == c.need) && !(cl.phase == 0)) := by
  have hm := hc.m
  have hz := hc.z
  have hlo := let_ok w (by omega) (akM c)
  intro t B' n'
  by_cases hn : (n : Int) < c.need
  · obtain ⟨A, rfl, hA, hp, hbd, hm2⟩ := h.run hn
    have ne : ((n : Int) == c.need) = false := by rw [beq_eq_false_iff_ne]; omega
    have hok := ok_cA hc (by omega) hp hbd
    have hHd : hearHd (cA c A) ⟨w, 0, mWireBytes (akM c)⟩ (akM c, 0, 0) = false := by simp [hearHd, akM]
    have hpin : eqP c.pin (cp c) = false := by
      simp only [eqP, cp, Bool.and_eq_false_imp, beq_iff_eq]; intro h; omega
    have hHear : t = if (w : Int) ≤ c.many then mAck (cA c A) w else .base (cA c A) := by
      show mHear _ _ _ = _
      unfold mHear
      rw [if_pos (by simp only [hearOk, hok, hlo]; rfl), (hd_read hc).2, hHd, if_neg (by simp)]
      by_cases hwm : (w : Int) ≤ c.many
      · rw [if_pos hwm, if_pos]
        have : mIn (w : Int) 1 c.many = true := mIn_iff.2 (by omega)
        simp [hearAk, akM, cA, cp, eqP, this]
      · rw [if_neg hwm, if_neg]
        have : mIn (w : Int) 1 c.many = false := by simp [mIn]; omega
        simp [hearAk, akM, cA, this]
    by_cases hwm : (w : Int) ≤ c.many
    · rw [if_pos hwm] at hHear
      cases b with
      | true =>
        have hin := (hm2 w true hb).1 rfl
        have hcn : cnt c w true n = false := by simp [cnt]
        have hB : B' = B := if_neg (by rw [hcn]; simp)
        have hn' : n' = n := if_neg (by rw [hcn]; simp)
        have ht : t = ⟨cA c A, [], [], []⟩ := by
          rw [hHear]; unfold mAck
          rw [show mAcks (cA c A).acks w = A from ackGo_in A hp hin, if_pos (by show (A.length : Int) < c.need; omega)]
          rfl
        rw [hB, hn', ht, ne]
        exact ⟨h, rfl, hpin, rfl⟩
      | false =>
        have hnin : ¬ (w : Int) ∈ A := fun hx => by have := (hm2 w false hb).2 hx; cases this
        have hcn : cnt c w false n = true := by simp [cnt, hwm, hn]
        have hB : B' = B.set w true := if_pos hcn
        have hn' : n' = n + 1 := if_pos hcn
        have hlen : (mAcks A w).length = n + 1 := by rw [← hA]; exact ackGo_out A hnin
        have hw9 : w < B.length := by rw [h.len]; omega
        rw [hB, hn']
        by_cases hd : ((n + 1 : Nat) : Int) < c.need
        · have ne' : (((n + 1 : Nat) : Int) == c.need) = false := by rw [beq_eq_false_iff_ne]; omega
          have ht : t = ⟨cA c (mAcks A w), [], [], []⟩ := by
            rw [hHear]; unfold mAck
            rw [if_pos (by show ((mAcks A w).length : Int) < c.need; rw [hlen]; exact hd)]
            rfl
          rw [ht, ne']
          refine ⟨⟨by rw [List.length_set]; exact h.len, by omega, fun _ => ⟨mAcks A w, rfl, hlen, ackGo_pw w A hp, fun x hx => ?_, fun v b hv => ?_⟩, fun e => by omega⟩, rfl, hpin, rfl⟩
          · rcases (ackGo_mem w x A).1 hx with h1 | h1
            · omega
            · exact hbd x h1
          · rw [show ((v : Int) ∈ mAcks A w ↔ (v : Int) = w ∨ (v : Int) ∈ A) from ackGo_mem w v A]
            rw [List.getElem?_set] at hv
            by_cases e : w = v
            · subst e
              rw [if_pos rfl, if_pos hw9] at hv
              have : b = true := by simpa using hv.symm
              simp [this]
            · rw [if_neg e] at hv
              rw [hm2 v b hv]
              exact ⟨.inr, fun h => h.elim (fun h => absurd (by omega) e) id⟩
        · have e1 : ((n + 1 : Nat) : Int) = c.need := by omega
          have ee : (((n + 1 : Nat) : Int) == c.need) = true := by rw [beq_iff_eq]; exact e1
          have ht : t = ⟨cD c, [], [], [cp c]⟩ := by
            rw [hHear]; unfold mAck
            rw [if_neg (by show ¬ ((mAcks A w).length : Int) < c.need; rw [hlen]; exact hd)]
            rfl
          rw [ht, ee]
          exact ⟨⟨by rw [List.length_set]; exact h.len, by omega, fun h => absurd h hd, fun _ => rfl⟩, rfl, by simp [eqP, cD], rfl⟩
    · rw [if_neg hwm] at hHear
      have hcn : cnt c w b n = false := by simp [cnt, hwm]
      have hB : B' = B := if_neg (by rw [hcn]; simp)
      have hn' : n' = n := if_neg (by rw [hcn]; simp)
      rw [hB, hn', hHear, ne]
      exact ⟨h, rfl, hpin, rfl⟩
  · have e1 : (n : Int) = c.need := by have := h.le; omega
    have ee : ((n : Int) == c.need) = true := by rw [beq_iff_eq]; exact e1
    have hcl := h.fin e1
    subst hcl
    have hcn : cnt c w b n = false := by simp [cnt]; omega
    have hB : B' = B := if_neg (by rw [hcn]; simp)
    have hn' : n' = n := if_neg (by rw [hcn]; simp)
    have ht : t = .base (cD c) := by
      show mHear _ _ _ = _
      unfold mHear
      rw [if_pos (by simp only [hearOk, ok_cD hc, hlo]; rfl), (hd_read hc).2, if_neg (by simp [hearHd, akM]), if_neg (by simp [hearAk, cD])]
    rw [hB, hn', ht, ee]
    exact ⟨h, rfl, by simp [MTold.base, eqP, cD], rfl⟩
attribute [-go_sem] fieldT
@[go_sem] theorem fC0 : fieldT Try.prog 38 0 = some 30 := by kernel_rfl
@[go_sem] def c3 : SC J := .sq [0] (.reg [.p (.as 2 (.const (.bool false)))])
 (.sq [0] (.sq [0, 17] (.reg [.p (.mv 15 (.tmp 0)), .p (.ln 16 22 (.tmp 15)), .p (.bn 17 .gtr 3 (.tmp 16) (.const (.int .i64 1048576)) 3)])
   (.cond (.tmp 17)
    (.sq [2] (.reg [.p (.as 2 (.const (.bool true)))])
     (.ret))
    (.skip)))
  (.sq [0, 3] (.reg [.p (.mv 19 (.tmp 0)), .p (.cm (some 20) 8 [false] [.tmp 19] [22]), .p (.mv 18 (.tmp 20)), .p (.ex 21 (.tmp 18) 0), .p (.ex 22 (.tmp 18) 1), .p (.al 3 30), .p (.st 30 (.tmp 3) (.tmp 21)), .p (.as 4 (.tmp 22))])
   (.sq [0, 3] (.sq [0, 3, 36] (.reg [.p (.ld 23 30 (.tmp 3)), .p (.cl (some 24) 9 [.tmp 23] [30]), .p (.un 25 .not 4 (.tmp 24)), .p (.mv 26 (.tmp 25)), .g 26 false (.fa 27 30 (.tmp 3) 2), .g 26 false (.ld 28 3 (.tmp 27)), .g 26 false (.bn 29 .geq 3 (.tmp 28) (.const (.int .i64 1000000)) 3), .p (.pk 30 (.tmp 26) (.const (.bool true)) (.tmp 29)), .p (.mv 31 (.tmp 30)), .g 31 false (.fa 32 30 (.tmp 3) 6), .g 31 false (.fa 33 27 (.tmp 32) 0), .g 31 false (.ld 34 3 (.tmp 33)), .g 31 false (.bn 35 .gtr 3 (.tmp 34) (.const (.int .i64 200)) 3), .p (.pk 36 (.tmp 31) (.const (.bool true)) (.tmp 35))])
     (.cond (.tmp 36)
      (.sq [2] (.reg [.p (.as 2 (.const (.bool true)))])
       (.ret))
      (.skip)))
    (.sq [0, 3, 5] (.reg [.p (.ld 37 30 (.tmp 3)), .p (.cm (some 38) 10 [false, false] [.tmp 37, .const (.int .i64 9)] [30, 3]), .p (.al 5 38), .p (.st 38 (.tmp 5) (.tmp 38))])
     (.sq [0, 3, 5, 6] (.reg [.p (.fa 39 30 (.tmp 3) 2), .p (.ld 40 3 (.tmp 39)), .p (.bn 41 .add 3 (.tmp 40) (.const (.int .i64 1)) 3), .p (.as 6 (.tmp 41))])
      (.sq [0, 3, 5, 6, 7] (.reg [.p (.fa 42 30 (.tmp 3) 6), .p (.fa 43 27 (.tmp 42) 0), .p (.ld 44 3 (.tmp 43)), .p (.bn 45 .add 3 (.tmp 44) (.const (.int .i64 1)) 3), .p (.bd 46 25 [(1, .const (.int .u64 5))]), .p (.bd 47 27 [(0, .tmp 45), (1, .tmp 46)]), .p (.al 7 27), .p (.st 27 (.tmp 7) (.tmp 47))])
       (.sq [0, 3, 5, 6, 7] (.dr (.pu 0 (.pu 1 (.pu 2 (.pu 3 (.pu 4 (.pu 5 (.pu 6 (.pu 7 (.ef 8 [1] (.pu 9 (.ef 10 [] (.ef 11 [] (.nil))))))))))))) [[], [0], [], [], [3], [], [5], [2, 3, 4, 5, 6], [2, 3, 4, 5, 6, 7], [2, 3, 4, 5, 6, 7, 8], [0, 1, 2, 3, 4, 5, 6, 7, 8, 9], [0, 1, 2, 3, 4, 5, 6, 7, 8, 9, 10]] [.p (.fa 48 38 (.tmp 5) 0), .p (.ld 49 30 (.tmp 48)), .p (.mv 50 (.tmp 6)), .p (.fa 51 27 (.tmp 7) 0), .p (.ld 52 3 (.tmp 51)), .p (.fa 53 27 (.tmp 7) 1), .p (.ld 54 25 (.tmp 53)), .p (.bd 55 45 [(0, .const (.int .i64 2)), (1, .tmp 50), (3, .tmp 52), (4, .tmp 54)]), .p (.cl (some 56) 12 [.tmp 55] [45]), .p (.bd 57 47 [(2, .tmp 56)]), .p (.cm (some 58) 11 [false, false, false] [.tmp 49, .const (.int .i64 9), .tmp 57] [30, 3, 47]), .p (.st 38 (.tmp 5) (.tmp 58))] [[], [0], [], [], [3], [], [5], [2, 4, 6], [7], [8], [1, 9, 8], [10, 10, 0, 1, 2, 3, 4, 5, 6, 7, 8, 9, 10]])
        (.sq [0, 3, 5, 6, 7] (.sq [0, 3, 5, 6, 7, 64] (.reg [.p (.fa 59 38 (.tmp 5) 1), .p (.ld 60 34 (.tmp 59)), .p (.ln 61 34 (.tmp 60)), .p (.fa 62 30 (.tmp 3) 1), .p (.ld 63 3 (.tmp 62)), .p (.bn 64 .neq 3 (.tmp 61) (.tmp 63) 3)])
          (.cond (.tmp 64)
           (.sq [2] (.reg [.p (.as 2 (.const (.bool false)))])
            (.ret))
           (.skip)))
         (.sq [0, 3, 5, 7, 8] (.reg [.p (.mv 65 (.tmp 6)), .p (.fa 66 27 (.tmp 7) 0), .p (.ld 67 3 (.tmp 66)), .p (.fa 68 27 (.tmp 7) 1), .p (.ld 69 25 (.tmp 68)), .p (.bd 70 45 [(0, .const (.int .i64 6)), (1, .tmp 65), (3, .tmp 67), (4, .tmp 69)]), .p (.cl (some 71) 12 [.tmp 70] [45]), .p (.as 8 (.tmp 71))])
          (.sq [0, 3, 5, 7, 8, 9] (.reg [.p (.ms 72 48 (.const (.int .i64 9)) (.const (.int .i64 9))), .p (.as 9 (.tmp 72))])
           (.sq [0, 3, 5, 7, 8, 9, 10] (.reg [.p (.as 10 (.const (.int .i64 0)))])
            (.sq [] (.sq [0, 3, 5, 7, 8, 9, 10, 11] (.reg [.p (.as 11 (.const (.int .i64 0)))])
              (.block 0 (.lp [0, 3, 5, 7, 8, 9, 10, 11] (.sq [0, 3, 5, 7, 8, 9, 10, 11] (.sq [0, 3, 5, 7, 8, 9, 10, 11, 74] (.reg [.p (.mv 73 (.tmp 11)), .p (.bn 74 .lss 3 (.tmp 73) (.const (.int .i64 20)) 3)])
                  (.cond (.tmp 74)
                   (.skip)
                   (.exit 0)))
                 (.sq [0, 3, 5, 7, 8, 9, 10, 11] (.block 1 (.sq [0, 3, 5, 7, 8, 9, 10, 11, 12] (.dr (.pu 0 (.pu 1 (.pu 4 (.pu 5 (.pu 6 (.ef 2 [5] (.pu 3 (.pu 7 (.pu 8 (.pu 9 (.nil))))))))))) [[], [], [0, 1], [0, 1, 2], [], [4], [4, 5], [0, 1, 2, 3, 4, 5, 6], [0, 1, 2, 3, 4, 5, 6, 7], [0, 1, 2, 3, 4, 5, 6, 7, 8]] [.p (.mv 77 (.tmp 0)), .p (.mv 78 (.tmp 11)), .p (.cl (some 79) 13 [.tmp 77, .tmp 78] [22, 3]), .p (.cv 80 5 3 (.tmp 79)), .p (.fa 81 30 (.tmp 3) 1), .p (.ld 82 3 (.tmp 81)), .p (.bn 83 .add 3 (.tmp 82) (.const (.int .i64 1)) 3), .p (.bn 84 .rem 3 (.tmp 80) (.tmp 83) 3), .p (.bn 85 .add 3 (.tmp 84) (.const (.int .i64 1)) 3), .p (.as 12 (.tmp 85))] [[], [], [0, 1], [2], [], [4], [5], [3, 6], [7], [8, 2, 0, 1, 2, 3, 4, 5, 6, 7, 8]])
                    (.sq [0, 3, 5, 7, 8, 9, 10, 11, 12] (.sq [0, 3, 5, 7, 8, 9, 10, 11, 12, 102] (.reg [.p (.mv 86 (.tmp 12)), .p (.fa 87 30 (.tmp 3) 1), .p (.ld 88 3 (.tmp 87)), .p (.bn 89 .leq 3 (.tmp 86) (.tmp 88) 3), .p (.mv 90 (.tmp 89)), .g 90 true (.mv 91 (.tmp 9)), .g 90 true (.mv 92 (.tmp 12)), .g 90 true (.ia 93 48 (.tmp 91) (.tmp 92)), .g 90 true (.ld 94 4 (.tmp 93)), .g 90 true (.un 95 .not 4 (.tmp 94)), .p (.pk 96 (.tmp 90) (.tmp 95) (.const (.bool false))), .p (.mv 97 (.tmp 96)), .g 97 true (.mv 98 (.tmp 10)), .g 97 true (.fa 99 30 (.tmp 3) 0), .g 97 true (.ld 100 3 (.tmp 99)), .g 97 true (.bn 101 .lss 3 (.tmp 98) (.tmp 100) 3), .p (.pk 102 (.tmp 97) (.tmp 101) (.const (.bool false)))])
                      (.cond (.tmp 102)
                       (.sq [0, 3, 5, 7, 8, 9, 10, 11, 12] (.reg [.p (.mv 103 (.tmp 9)), .p (.mv 104 (.tmp 12)), .p (.ia 105 48 (.tmp 103) (.tmp 104)), .p (.st 4 (.tmp 105) (.const (.bool true)))])
                        (.reg [.p (.mv 106 (.tmp 10)), .p (.bn 107 .add 3 (.tmp 106) (.const (.int .i64 1)) 3), .p (.as 10 (.tmp 107))]))
                       (.skip)))
                     (.sq [0, 3, 5, 7, 8, 9, 10, 11, 12, 13] (.reg [.p (.mv 108 (.tmp 10)), .p (.fa 109 30 (.tmp 3) 0), .p (.ld 110 3 (.tmp 109)), .p (.bn 111 .eql 3 (.tmp 108) (.tmp 110) 3), .p (.as 13 (.tmp 111))])
                      (.sq [0, 3, 5, 7, 8, 9, 10, 11, 12, 13, 14] (.reg [.p (.fa 112 38 (.tmp 5) 0), .p (.fa 113 30 (.tmp 112) 3), .p (.ld 114 3 (.tmp 113)), .p (.bn 115 .eql 3 (.tmp 114) (.const (.int .i64 0)) 3), .p (.as 14 (.tmp 115))])
                       (.sq [0, 3, 5, 7, 8, 9, 10, 11, 13, 14] (.reg [.p (.fa 116 38 (.tmp 5) 0), .p (.ld 117 30 (.tmp 116)), .p (.mv 118 (.tmp 12)), .p (.mv 119 (.tmp 8)), .p (.bd 120 47 [(0, .tmp 118), (2, .tmp 119)]), .p (.cm (some 121) 11 [false, false, false] [.tmp 117, .const (.int .i64 9), .tmp 120] [30, 3, 47]), .p (.st 38 (.tmp 5) (.tmp 121))])
                        (.sq [0, 3, 5, 7, 8, 9, 10, 11, 148] (.reg [.p (.fa 122 38 (.tmp 5) 0), .p (.fa 123 30 (.tmp 122) 3), .p (.ld 124 3 (.tmp 123)), .p (.bn 125 .eql 3 (.tmp 124) (.const (.int .i64 0)) 3), .p (.mv 126 (.tmp 13)), .p (.bn 127 .neq 4 (.tmp 125) (.tmp 126) 4), .p (.mv 128 (.tmp 127)), .g 128 false (.fa 129 38 (.tmp 5) 0), .g 128 false (.fa 130 30 (.tmp 129) 6), .g 128 false (.ld 131 27 (.tmp 130)), .g 128 false (.ld 132 27 (.tmp 7)), .g 128 false (.bn 133 .eql 27 (.tmp 131) (.tmp 132) 27), .g 128 false (.mv 134 (.tmp 13)), .g 128 false (.bn 135 .neq 4 (.tmp 133) (.tmp 134) 4), .p (.pk 136 (.tmp 128) (.const (.bool true)) (.tmp 135)), .p (.mv 137 (.tmp 136)), .g 137 false (.fa 138 38 (.tmp 5) 3), .g 137 false (.ld 139 36 (.tmp 138)), .g 137 false (.ln 140 36 (.tmp 139)), .g 137 false (.bn 141 .eql 3 (.tmp 140) (.const (.int .i64 1)) 3), .g 137 false (.mv 142 (.tmp 13)), .g 137 false (.mv 143 (.tmp 142)), .g 143 true (.mv 144 (.tmp 14)), .g 143 true (.un 145 .not 4 (.tmp 144)), .g 137 false (.pk 146 (.tmp 143) (.tmp 145) (.const (.bool false))), .g 137 false (.bn 147 .neq 4 (.tmp 141) (.tmp 146) 4), .p (.pk 148 (.tmp 137) (.const (.bool true)) (.tmp 147))])
                         (.cond (.tmp 148)
                          (.sq [2] (.reg [.p (.as 2 (.const (.bool false)))])
                           (.ret))
                          (.skip)))))))))
                  (.reg [.p (.mv 75 (.tmp 11)), .p (.bn 76 .add 3 (.tmp 75) (.const (.int .i64 1)) 3), .p (.as 11 (.tmp 76))]))))))
             (.sq [2] (.reg [.p (.as 2 (.const (.bool true)))])
              (.ret))))))))))))))
theorem b3 : BodyOK Try.prog 3 c3 149 [.tmp 2] := ⟨Try.f3, by kernel_rfl, by kernel_rfl, by kernel_rfl, by kernel_rfl, by kernel_rfl⟩
set_option maxRecDepth 100000 in
@[go_sem] theorem k3_0 : chkT (.pu 0 (.pu 1 (.pu 4 (.pu 5 (.pu 6 (.ef 2 [5] (.pu 3 (.pu 7 (.pu 8 (.pu 9 (.nil))))))))))) [[], [], [0, 1], [0, 1, 2], [], [4], [4, 5], [0, 1, 2, 3, 4, 5, 6], [0, 1, 2, 3, 4, 5, 6, 7], [0, 1, 2, 3, 4, 5, 6, 7, 8]] (soI [.p (.mv 77 (.tmp 0)), .p (.mv 78 (.tmp 11)), .p (.cl (some 79) 13 [.tmp 77, .tmp 78] [22, 3]), .p (.cv 80 5 3 (.tmp 79)), .p (.fa 81 30 (.tmp 3) 1), .p (.ld 82 3 (.tmp 81)), .p (.bn 83 .add 3 (.tmp 82) (.const (.int .i64 1)) 3), .p (.bn 84 .rem 3 (.tmp 80) (.tmp 83) 3), .p (.bn 85 .add 3 (.tmp 84) (.const (.int .i64 1)) 3), .p (.as 12 (.tmp 85))]) [[], [], [0, 1], [2], [], [4], [5], [3, 6], [7], [8, 2, 0, 1, 2, 3, 4, 5, 6, 7, 8]] = true := by kernel_rfl
set_option maxRecDepth 100000 in
@[go_sem] theorem k3_1 : chkT (.pu 0 (.pu 1 (.pu 2 (.pu 3 (.pu 4 (.pu 5 (.pu 6 (.pu 7 (.ef 8 [1] (.pu 9 (.ef 10 [] (.ef 11 [] (.nil))))))))))))) [[], [0], [], [], [3], [], [5], [2, 3, 4, 5, 6], [2, 3, 4, 5, 6, 7], [2, 3, 4, 5, 6, 7, 8], [0, 1, 2, 3, 4, 5, 6, 7, 8, 9], [0, 1, 2, 3, 4, 5, 6, 7, 8, 9, 10]] (soI [.p (.fa 48 38 (.tmp 5) 0), .p (.ld 49 30 (.tmp 48)), .p (.mv 50 (.tmp 6)), .p (.fa 51 27 (.tmp 7) 0), .p (.ld 52 3 (.tmp 51)), .p (.fa 53 27 (.tmp 7) 1), .p (.ld 54 25 (.tmp 53)), .p (.bd 55 45 [(0, .const (.int .i64 2)), (1, .tmp 50), (3, .tmp 52), (4, .tmp 54)]), .p (.cl (some 56) 12 [.tmp 55] [45]), .p (.bd 57 47 [(2, .tmp 56)]), .p (.cm (some 58) 11 [false, false, false] [.tmp 49, .const (.int .i64 9), .tmp 57] [30, 3, 47]), .p (.st 38 (.tmp 5) (.tmp 58))]) [[], [0], [], [], [3], [], [5], [2, 4, 6], [7], [8], [1, 9, 8], [10, 10, 0, 1, 2, 3, 4, 5, 6, 7, 8, 9, 10]] = true := by kernel_rfl

def boolC (b : Bool) : List AV := [vB b]
attribute [go_sem] boolC
theorem c3_c (l : List UInt8) (hl : l.length ≤ maxLen) : CallR Try.prog 3 [.ro 1 (l.map byteC)] (vB true) [] := by
  refine callR_of_jv b3 rfl ?_
  simp -implicitDefEqProofs only [go_sem]
  refine condJ_intro (fun h => ?_) (fun h => ?_)
  · simp -implicitDefEqProofs only [go_sem, h]
  · simp -implicitDefEqProofs only [go_sem, h]
    obtain ⟨res, σ, ⟨c, me, ⟨rfl, rfl⟩, hc⟩, hcall⟩ := c8_c l hl
    refine WantM.intro hcall ?_
    have hcl : c.acks.length ≤ maxLen := by have := hc.l; unfold maxLen; omega
    simp -implicitDefEqProofs only [go_sem]
    refine Want.intro (c9_c c hcl) ?_
    simp -implicitDefEqProofs only [go_sem]
    cases hok : mClOk c
    · simp -implicitDefEqProofs only [go_sem, hok]
    · by_cases hs : c.session < 1000000
      · by_cases hp : c.pin.size ≤ 200
        · have hs' : ¬ c.session ≥ 1000000 := by omega
          have hp' : ¬ c.pin.size > 200 := by omega
          simp -implicitDefEqProofs only [go_sem, hs', hp', guardP_ff, guardP_tf, guardP_ft, guardP_tt, condJ_false]
          have hT := c10_c c 9 hcl
          rw [cnt_tick hok hs] at hT
          refine WantM.intro hT ?_
          have hg := ClGood.of hok hs hp
          have h1 := hg.s
          have h2 := hg.z
          have h3 := hg.m
          have w1 : IntKind.i64.wrap (c.session + 1) = c.session + 1 := wrS (by omega)
          have w2 : IntKind.i64.wrap (c.pin.size + 1) = c.pin.size + 1 := wrS (by omega)
          obtain ⟨L, hL, hLl⟩ := cnt_head hg
          have hH := c11_c (c1 c) 9 ⟨0, 0, mWireBytes (hdM c)⟩ (Nat.zero_le _)
          rw [hL] at hH
          simp -implicitDefEqProofs only [go_sem, w1, w2]
          refine Want.intro (wbS (hdM c) rfl rfl dig5) ?_
          simp -implicitDefEqProofs only [go_sem]
          refine WantM.intro hH ?_
          simp -implicitDefEqProofs only [go_sem, hLl, bne_self_eq_false, condJ_false]
          refine Want.intro (wbS (akM c) rfl rfl dig5) ?_
          have hk9 : ((1 : Nat) : Int) * 9 ≤ 281474976710656 := by decide
          simp -implicitDefEqProofs only [go_sem, hk9]
          refine jv_lp (fun m s => ∃ (k n : Nat) (B : List Bool) (t : MTold), k ≤ 20 ∧ m = 20 - k ∧ CInv c B n t.cl ∧ s = ⟨149, [(0, .ro 1 (l.map byteC)), (3, .ptr 3 0 [] 15 0 0), (5, .ptr 5 0 [] 18 0 0), (7, .ptr 7 0 [] 5 0 0), (8, vS (mWireBytes (akM c))), (9, .blk 9 0 [] 1 0 9), (10, vI n), (11, vI k)], [(3, 0, one ⟨15, [c.cs (.blk 10003 0 [] 1 0 c.acks.length)], 0, false⟩), (10003, 0, one ⟨1, c.acks.map intC, 2, true⟩), (5, 0, one ⟨18, [t.cs (.blk 10005 0 [] 1 0 t.cl.acks.length) (.blk 20005 0 [] 3 0 t.letters.length) (.blk 30005 0 [] 13 0 t.alarms.length) (.blk 40005 0 [] 5 0 t.acc.length)], 0, false⟩), (10005, 0, one t.cl.ar), (20005, 0, one t.lr), (30005, 0, one t.xr), (40005, 0, one t.pr), (7, 0, one ⟨5, [(cp c).cs], 0, false⟩), (9, 0, one ⟨1, B.map boolC, 2, false⟩)], 1⟩) 20 ?_ ?_
          · simp -implicitDefEqProofs only [go_sem]
            refine ⟨0, 0, List.replicate 9 false, ⟨cA c [], L, [], []⟩, by omega, rfl, CInv.start hg, ?_⟩
            rfl
          · rintro m s ⟨k, n, B, t, hk, rfl, hI, rfl⟩
            rcases Nat.lt_or_ge k 20 with hlt | hge
            · have h20 : (k : Int) < 20 := by omega
              obtain ⟨v, hv, hat⟩ := at_c l k hl (by omega)
              have w3 : IntKind.i64.wrap (c.many + 1) = c.many + 1 := wrS (by omega)
              have hnz : ¬ c.many + 1 = 0 := by omega
              simp -implicitDefEqProofs only [go_sem, h20]
              refine Want.intro hat ?_
              obtain ⟨w, hw, hw1⟩ : ∃ w : Nat, IntKind.i64.wrap ((IntKind.i64.wrap (v : Int)).tmod (c.many + 1) + 1) = (w : Int) ∧ 1 ≤ w ∧ (w : Int) ≤ c.many + 1 := by
                rw [show IntKind.i64.wrap (v : Int) = (v : Int) from wrS (by omega), Int.tmod_eq_emod_of_nonneg (by omega)]
                have := Int.emod_nonneg (v : Int) hnz
                have := Int.emod_lt_of_pos (v : Int) (show 0 < c.many + 1 by omega)
                exact ⟨((v : Int) % (c.many + 1) + 1).toNat, by rw [wrS (by omega)]; omega, by omega, by omega⟩
              have hw9 : w < B.length := by rw [hI.len]; omega
              have hgB : B[w]? = some B[w] := List.getElem?_eq_getElem hw9
              generalize B[w] = b at hgB
              have hst := cnt_step hg hI hw1 hgB
              have hcl2 : t.cl.acks.length ≤ maxLen := by
                unfold maxLen
                have h3n := hg.n
                rcases Int.lt_or_le (n : Int) c.need with h | h
                · obtain ⟨A, e, hA, -⟩ := hI.run h
                  rw [e]; show A.length ≤ _; omega
                · rw [hI.fin (by have := hI.le; omega)]; exact Nat.zero_le _
              have hT2 := c11_c t.cl 9 ⟨w, 0, mWireBytes (akM c)⟩ hcl2
              generalize mHear t.cl 9 ⟨w, 0, mWireBytes (akM c)⟩ = t2 at hst hT2
              have hw9' : (w : Int) < ((9 : Nat) : Int) := by omega
              have hw10 : (w : Int) < (B.length : Int) := by omega
              have hn := hI.le
              have h3n := hg.n
              have wn : IntKind.i64.wrap ((n : Int) + 1) = ((n + 1 : Nat) : Int) := by rw [wrS (by omega)]; omega
              have wk : IntKind.i64.wrap ((k : Int) + 1) = ((k + 1 : Nat) : Int) := by rw [wrS (by omega)]; omega
              have hset : (B.map boolC).set w [.sc (.bool true)] = (B.set w true).map boolC := by rw [List.map_set]; rfl
              unfold cnt at hst
              generalize hW : (t.cl.phase == 0) = was at hst
              simp -implicitDefEqProofs only [go_sem, w3, hnz, hw]
              cases ha : decide ((w : Int) ≤ c.many) <;> cases b <;> cases hd : decide ((n : Int) < c.need)
              all_goals simp only [ha, hd, Bool.not_true, Bool.not_false, Bool.and_true, Bool.and_false, Bool.true_and, Bool.false_and, if_true, if_false, Bool.false_eq_true, eqP, cp] at hst
              all_goals obtain ⟨hI2, q0, q2, q3⟩ := hst
              all_goals cases hz : (t2.cl.phase == 0) <;> cases was
              all_goals rw [hz] at q0
              all_goals rw [← q0] at q2 q3
              all_goals simp only [Bool.not_true, Bool.not_false, Bool.and_true, Bool.and_false, Bool.true_and, Bool.false_and] at q3
              all_goals have q1 := q0.symm
              all_goals clear q0
              all_goals have q0 := hz
              all_goals simp -implicitDefEqProofs only [go_sem, hw, ha, hd, hgB, hw9', hw10, hW, wn, q0, q1, q2, q3, cp, bne_self_eq_false, guardP_ff, guardP_tf, guardP_ft, guardP_tt, condJ_true, condJ_false]
              all_goals refine WantM.intro hT2 ?_
              all_goals simp -implicitDefEqProofs only [go_sem, hw, ha, hd, hgB, hw9', hw10, hW, wn, q0, q1, q2, q3, cp, bne_self_eq_false, guardP_ff, guardP_tf, guardP_ft, guardP_tt, condJ_true, condJ_false, Bool.not_true, Bool.not_false, Bool.and_true, Bool.and_false, Bool.true_and, Bool.false_and, wk]
              all_goals first
                | exact ⟨_, by omega, k + 1, _, _, t2, by omega, rfl, hI2, rfl⟩
                | (rw [hset]; exact ⟨_, by omega, k + 1, _, _, t2, by omega, rfl, hI2, rfl⟩)
            · have hk20 : k = 20 := by omega
              subst hk20
              have h20 : ¬ (((20 : Nat) : Int) < 20) := by decide
              simp -implicitDefEqProofs only [go_sem, h20]
        · have hs' : ¬ c.session ≥ 1000000 := by omega
          have hp' : c.pin.size > 200 := by omega
          simp -implicitDefEqProofs only [go_sem, hs', hp', guardP_ff, guardP_tf, guardP_ft, guardP_tt, condJ_true]
      · have hs' : c.session ≥ 1000000 := by omega
        simp -implicitDefEqProofs only [go_sem, hs', guardP_ff, guardP_tf, guardP_ft, guardP_tt, condJ_true]
end Go.Proofs.Ytkhemolkhegppaa.E
