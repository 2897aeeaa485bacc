/-
  E, part P: a loop over a string's letters.
-/
import Derived.Test.YtkhemolkhegppaaEO
import Derived.Laws.RangeString
import Derived.ChangeMaps4
namespace Go.Proofs.Ytkhemolkhegppaa.E
open Go Go.RowKit
open Go.ChangeMaps (setBlock)
set_option linter.unusedVariables false

section
variable {P : Program} {rd : RD} {φ : Phi} {O : Nat → Prop} {w0 w : World} {σ : Sig}
theorem cell_same {w w' : World} {b k : Nat} (h : w'.heap[b]? = w.heap[b]?) : w'.cell? (mkA b k) = w.cell? (mkA b k) := by
  unfold World.cell?
  rw [show (mkA b k).block = b from rfl, h]
theorem frozen_same {w w' : World} {b k : Nat} (h : w'.heap[b]? = w.heap[b]?) : w'.frozen? (mkA b k) = w.frozen? (mkA b k) := by
  unfold World.frozen?
  rw [show (mkA b k).block = b from rfl, h]
/-- A new object that is no row. -/
theorem HRel.newObj (h : HRel rd φ O w0 σ w) (o : Obj) : HRel rd φ O w0 σ (w.alloc o) := by
  have hlt : ∀ {r g p row pl b q}, rowAt σ r g p = some row → φ r g p = some pl → pl.ad = some (b, q) → b < w.heap.size := fun h1 h2 h3 => (h.own _ _ _ _ _ _ _ h1 h2 h3).2
  have hs : (w.alloc o).heap.size = w.heap.size + 1 := World.size_alloc ..
  refine ⟨?_, h.sep, ?_, h.rdsep, ?_, ?_, ?_, h.os, h.tape, h.output⟩
  · intro r g p row hr
    obtain ⟨pl, h1, h2⟩ := h.rows _ _ _ _ hr
    exact ⟨pl, h1, h2.of_same fun b q had k => ⟨cell_alloc_old (hlt hr h1 had), frozen_alloc_old (hlt hr h1 had)⟩⟩
  · intro b o' v e
    have := h.rdok b o' v e
    rw [cell_alloc_old (cell_lt (by rw [this]; rfl))]
    exact this
  · intro r g p row pl b q h1 h2 h3
    obtain ⟨ha, hb⟩ := h.own _ _ _ _ _ _ _ h1 h2 h3
    exact ⟨ha, by rw [hs]; omega⟩
  · intro b hb hO
    have := h.size
    rw [← h.frame b hb hO]
    show (w.heap.push o)[b]? = _
    rw [Array.getElem?_push, if_neg (by omega)]
  · have := h.size
    rw [hs]; omega
theorem HRel.setObj (h : HRel rd φ O w0 σ w) {r : Nat} (o : Obj) (hno : ¬ OwnedBy φ σ r) (hrd : ∀ k, rd r k = none) (hr : w0.heap.size ≤ r) : HRel rd φ O w0 σ (setBlock w r o) := by
  have hs : (setBlock w r o).heap.size = w.heap.size := by simp [setBlock]
  have hne : ∀ {b : Nat}, b ≠ r → (setBlock w r o).heap[b]? = w.heap[b]? := fun hb => by
    show (w.heap.setIfInBounds r o)[_]? = _
    rw [Array.getElem?_setIfInBounds_ne (Ne.symm hb)]
  have hb : ∀ {r' g p row pl b q}, rowAt σ r' g p = some row → φ r' g p = some pl → pl.ad = some (b, q) → b ≠ r := fun h1 h2 h3 e => hno ⟨_, _, _, _, _, _, h1, h2, e ▸ h3⟩
  refine ⟨?_, h.sep, ?_, h.rdsep, ?_, ?_, ?_, h.os, h.tape, h.output⟩
  · intro r' g p row hr'
    obtain ⟨pl, h1, h2⟩ := h.rows _ _ _ _ hr'
    exact ⟨pl, h1, h2.of_same fun b q had k => ⟨cell_same (hne (hb hr' h1 had)), frozen_same (hne (hb hr' h1 had))⟩⟩
  · intro b o' v e
    rw [cell_same (hne (fun e' => by rw [e', hrd] at e; cases e))]
    exact h.rdok b o' v e
  · intro r' g p row pl b q h1 h2 h3
    obtain ⟨ha, hb⟩ := h.own _ _ _ _ _ _ _ h1 h2 h3
    exact ⟨ha, by rw [hs]; omega⟩
  · intro b hb' hO
    rw [hne (by omega)]
    exact h.frame b hb' hO
  · rw [hs]; exact h.size
/-- Out of a base that lies later. -/
theorem unbase {E : REnv} {w1 w2 : World} {s' : St} {a' : Act} (hx : ExtE O w0 E rd φ) (h : HRel rd φ O w0 σ w1) (k : RelE (rd, φ) (OwnedBy φ σ) w1 s' a' w2) :
    ∃ rd2 φ2, ExtE O w0 E rd2 φ2 ∧ Rel rd2 φ2 O w0 s' a' w2 ∧ (∀ b o, b < w1.heap.size → ¬ OwnedBy φ σ b → rd2 b o = rd b o) ∧ (∀ b, OwnedBy φ2 s'.σ b → OwnedBy φ σ b ∨ w1.heap.size ≤ b) ∧ (∀ b, b < w1.heap.size → ¬ OwnedBy φ σ b → w2.heap[b]? = w1.heap[b]?) := by
  obtain ⟨rd2, φ2, hx2, k⟩ := k
  have hown : ∀ b, OwnedBy φ σ b → O b ∨ w0.heap.size ≤ b := fun b ⟨r, g, p, row, pl, q, h1, h2, h3⟩ => (h.own _ _ _ _ _ _ _ h1 h2 h3).1
  have hs := h.size
  refine ⟨rd2, φ2, ⟨hx.1.trans ⟨hx2.1.1, fun b o hb hO => hx2.1.2 b o (by omega) (fun hh => (hown b hh).elim hO (by omega))⟩, fun r p pl e hr => hx2.2 r p pl (hx.2 r p pl e hr) hr⟩, ⟨⟨k.heap.rows, k.heap.sep, k.heap.rdok, k.heap.rdsep, ?_, ?_, ?_, ?_, ?_, ?_⟩, k.tm, k.size, k.defers, k.gen⟩, hx2.1.2, ?_, k.heap.frame⟩
  · intro r g p row pl b q h1 h2 h3
    obtain ⟨ha, hb⟩ := k.heap.own _ _ _ _ _ _ _ h1 h2 h3
    refine ⟨ha.elim (hown b) (fun hh => .inr (by omega)), hb⟩
  · intro b hb hO
    rw [k.heap.frame b (by omega) (fun hh => (hown b hh).elim hO (by omega))]
    exact h.frame b hb hO
  · have := k.heap.size; omega
  · rw [k.heap.os, h.os]
  · rw [k.heap.tape, h.tape]
  · rw [k.heap.output, h.output]
  · rintro b ⟨r, g, p, row, pl, q, h1, h2, h3⟩
    exact (k.heap.own _ _ _ _ _ _ _ h1 h2 h3).1
theorem vcOps2_then {E : REnv} {ops : Array Oper} {K : St → Prop} {Q : Exit → Act → World → Prop} {l2 : List Nat} (hn : ∀ s' a' w', K s' → RelE E O w0 s' a' w' → wpOps P ops Q l2 a' w') :
    ∀ (l : List Nat) (os : List Oper), l.map (ops[·]?) = os.map some → ∀ s a w, RelE E O w0 s a w → vcOps2 P ops os s K → wpOps P ops Q (l ++ l2) a w
  | [], [], _, s, a, w, h, hv => hn _ _ _ hv h
  | [], _ :: _, hl, _, _, _, _, _ => by cases hl
  | _ :: _, [], hl, _, _, _, _, _ => by cases hl
  | i :: l, o :: os, hl, s, a, w, ⟨rd', φ, hx, h⟩, hv => by
    simp only [List.map_cons, List.cons.injEq] at hl
    simp only [List.cons_append, wpOps, hl.1]
    exact vcStep2_gen hx hl.1 h hv fun s' a' w' hk hr => vcOps2_then hn l os hl.2 s' a' w' hr hk
end

/-- A round's condition. -/
def RngB (P : Program) (it tn tk id : Nat) (body : Code) (Q : Exit → St → Prop) (str : ByteArray) (r : Nat) (I : Nat → St → Prop) (pos : Nat) (s : St) : Prop :=
  (lookA s.tm it = some (.it r) ∧ tn < s.n ∧ tk < s.n) ∧
  (pos < str.size → ∃ c, Utf8.decode str pos = (c, 1) ∧ vc P body ⟨s.n, (tk, .sc (.bool true)) :: (tn, .tup [.sc (.bool true), .sc (.int .i64 pos), .sc (.int .i32 c)]) :: s.tm, s.σ, s.G⟩ (thenK (blockK id Q) fun s4 => ∃ s5, Weak s4 s5 ∧ I (pos + 1) s5)) ∧
  (¬ pos < str.size → Q .normal ⟨s.n, (tk, .sc (.bool false)) :: (tn, .tup [.sc (.bool false)]) :: s.tm, s.σ, s.G⟩)
def RngV (P : Program) (it tn tk id : Nat) (x : Operand) (body : Code) (Q : Exit → St → Prop) (s : St) : Prop :=
  ∃ str, ev s x = .sc (.string str) ∧ it < s.n ∧ ∀ r, ∃ (I : Nat → St → Prop) (s2 : St), Weak ⟨s.n, (it, .it r) :: s.tm, s.σ, s.G⟩ s2 ∧ I 0 s2 ∧ ∀ pos s3, I pos s3 → RngB P it tn tk id body Q str r I pos s3

theorem Rel.putI {rd : RD} {φ : Phi} {O : Nat → Prop} {w0 w w' : World} {s : St} {a : Act} {d : Nat} {v : AV} {cv : Value} (h : Rel rd φ O w0 s a w) (hd : d < s.n) (hh : HRel rd φ O w0 s.σ w') (hv : VRel rd φ v cv) :
    Rel rd φ O w0 ⟨s.n, (d, v) :: s.tm, s.σ, s.G⟩ (a.put (some d) cv) w' := by
  obtain ⟨s', e, hr⟩ := h.put (dst := some d) (v := v) (σ := s.σ) (b := false) (K := fun s' => s' = ⟨s.n, (d, v) :: s.tm, s.σ, s.G⟩) (by
    unfold E.put
    simp only
    rw [show Nat.blt d s.n = true from Nat.ble_eq_true_of_le hd]
    rfl) (fun _ _ _ h => h) hh hv (fun _ _ _ _ h => h) (fun _ _ _ h => .inl h)
  exact e ▸ hr
theorem it_inv {rd : RD} {φ : Phi} {r : Nat} {v : Value} (h : VRel rd φ (.it r) v) : v = .pointer (some ⟨r, 0, none⟩) := by
  cases h
  rfl
theorem Rel.based {rd : RD} {φ : Phi} {O : Nat → Prop} {w0 w : World} {s : St} {a : Act} (h : Rel rd φ O w0 s a w) : RelE (rd, φ) (OwnedBy φ s.σ) w s a w :=
  ⟨rd, φ, .refl, h.heap.rebase, h.tm, h.size, h.defers, h.gen⟩
/-- What is not told stays, from a base on. -/
theorem Rel.kept {E : REnv} {rd : RD} {φ : Phi} {O : Nat → Prop} {w0 w w' : World} {s s' : St} {a a' : Act} {r : Nat} (h : Rel rd φ O w0 s a w) (hx : ExtE O w0 E rd φ) (hr : r < w.heap.size) (hno : ¬ OwnedBy φ s.σ r) (hrd : ∀ k, rd r k = none)
    (k : RelE (rd, φ) (OwnedBy φ s.σ) w s' a' w') : ∃ rd2 φ2, ExtE O w0 E rd2 φ2 ∧ Rel rd2 φ2 O w0 s' a' w' ∧ w'.heap[r]? = w.heap[r]? ∧ (∀ k, rd2 r k = none) ∧ ¬ OwnedBy φ2 s'.σ r := by
  obtain ⟨rd2, φ2, h1, h2, h3, h4, h5⟩ := unbase hx h.heap k
  exact ⟨rd2, φ2, h1, h2, h5 r hr hno, fun k => by rw [h3 r k hr hno, hrd], fun hh => (h4 r hh).elim hno (by omega)⟩
theorem rng_good {P : Program} {i1 i2 id it tn tk : Nat} {ty : TypeId} {x : Operand} {ops1 ops2 : Array Oper} {body : Code} {pre : List Oper} {oR oN oE : Oper} {Q : Exit → St → Prop} {s : St}
    (h1 : ops1.toList = pre ++ [oR]) (hR : oR.op = .range ty x ∧ oR.dst = some it ∧ oR.guard = none) (h2 : ops2.toList = [oN, oE])
    (hN : oN.op = .next (.tmp it) true ∧ oN.dst = some tn ∧ oN.guard = none) (hE : oE.op = .extract (.tmp tn) 0 ∧ oE.dst = some tk ∧ oE.guard = none) (hty : P.underlying ty = some .string)
    (hv : vcOps2 P ops1 pre s (RngV P it tn tk id x body Q)) :
    GoodC P (.seq (.region i1 ops1 false) (.block id (.loop (.seq (.region i2 ops2 false) (.seq (.cond (.tmp tk) .skip (.exit id)) body))))) s Q := by
  intro E O w0 a w h
  refine wp_seq (wp_region ?_)
  have hmap := range_map ops1
  have hsz : ops1.size = pre.length + 1 := by rw [← Array.length_toList, h1]; simp
  rw [h1, hsz, List.range_succ, List.map_append, List.map_append] at hmap
  obtain ⟨hm1, hm2⟩ := List.append_inj hmap (by simp)
  rw [hsz, List.range_succ]
  refine vcOps2_then ?_ _ _ hm1 s a w h hv
  rintro s1 a1 w1 ⟨str, hx, hit, hI⟩ ⟨rd1, φ1, hx1, hr1⟩
  have hk : ops1[pre.length]? = some oR := by simpa using hm2
  simp only [wpOps, hk]
  have hev := hr1.ev x
  rw [hx] at hev
  have hev := sc_inv hev
  rw [if_pos (by simp [Region.wanted, hR.2.2])]
  refine .inl ?_
  unfold Oper.wp
  have hrun : (execOp a1.eval oR).run P w1 = .ok (.value (.pointer (some ⟨w1.heap.size, 0, none⟩))) (w1.iter str 0) := by
    unfold execOp
    rw [hR.1]
    simp [hev, run_range_string w1 ty str hty]
  rw [hrun, Oper.upon_value, hR.2.1]
  have hh1 : HRel rd1 φ1 O w0 s1.σ (w1.iter str 0) := hr1.heap.newObj _
  have hr2 := hr1.putI hit hh1 (.it w1.heap.size)
  obtain ⟨I, s2, hweak, hI0, hround⟩ := hI w1.heap.size
  have hno1 : ¬ OwnedBy φ1 s1.σ w1.heap.size := fun ⟨r', g, p, row, pl, q, k1, k2, k3⟩ => Nat.lt_irrefl _ (hr1.heap.own _ _ _ _ _ _ _ k1 k2 k3).2
  have hrd1 : ∀ k, rd1 w1.heap.size k = none := fun k => by
    cases e : rd1 w1.heap.size k with
    | none => rfl
    | some v => exact absurd (cell_lt (w := w1) (b := w1.heap.size) (k := k) (by rw [hr1.heap.rdok _ _ _ e]; rfl)) (Nat.lt_irrefl _)
  obtain ⟨rd2, φ2, hx2, hr3, hheap, hrd2, hno2⟩ := hr2.kept (r := w1.heap.size) hx1 (by show w1.heap.size < (w1.alloc _).heap.size; rw [World.size_alloc]; omega) hno1 hrd1 (hweak _ _ _ _ _ hr2.based)
  have hheap : (w1.iter str 0).heap[w1.heap.size]? = some (.stringIter str 0) := World.iter_heap _ _ _
  have hle : w0.heap.size ≤ w1.heap.size := hr1.heap.size
  have hlt : w1.heap.size < (w1.iter str 0).heap.size := by show w1.heap.size < (w1.alloc _).heap.size; rw [World.size_alloc]; omega
  generalize w1.iter str 0 = w2 at *
  generalize w1.heap.size = r at *
  show (Code.block id _).wp P _ _ _
  refine wp_block (wp_loop_fam (fun m a w => ∃ pos s3 rd' φ, m = str.size - pos ∧ I pos s3 ∧ ExtE O w0 E rd' φ ∧ Rel rd' φ O w0 s3 a w ∧ w.heap[r]? = some (.stringIter str pos) ∧ (∀ k, rd' r k = none) ∧ ¬ OwnedBy φ s3.σ r) ?_ (str.size - 0) _ _ ⟨0, s2, rd2, φ2, rfl, hI0, hx2, hr3, hheap, hrd2, hno2⟩)
  rintro m a3 w3 ⟨pos, s3, rd3, φ3, rfl, hIp, hx3, hr4, hit3, hrd3, hno3⟩
  obtain ⟨⟨hlk, htn, htk⟩, hgo, hend⟩ := hround pos s3 hIp
  have hptr : a3.tmps.getD it undef = .pointer (some ⟨r, 0, none⟩) := by
    exact it_inv (hr4.tm _ _ hlk)
  have hrlt : r < w3.heap.size := by
    rcases Nat.lt_or_ge r w3.heap.size with h | h
    · exact h
    · rw [Array.getElem?_eq_none h] at hit3; cases hit3
  refine wp_seq (wp_region ?_)
  have hsz2 : ops2.size = 2 := by rw [← Array.length_toList, h2]; rfl
  have hk0 : ops2[0]? = some oN := by rw [← Array.getElem?_toList, h2]; rfl
  have hk1 : ops2[1]? = some oE := by rw [← Array.getElem?_toList, h2]; rfl
  rw [hsz2, show List.range 2 = [0, 1] from rfl]
  simp only [wpOps, hk0, hk1]
  rw [if_pos (by simp [Region.wanted, hN.2.2])]
  refine .inl ?_
  by_cases hp : pos < str.size
  · obtain ⟨c, hdec, hbody⟩ := hgo hp
    unfold Oper.wp
    have hrun : (execOp a3.eval oN).run P w3 = .ok (.value (.tuple #[.bool true, .int .i64 pos, .int .i32 c])) (setBlock w3 r (.stringIter str (pos + 1))) := by
      unfold execOp
      rw [hN.1]
      simp [Act.eval, hptr, Instr.next, getObj, Go.setObj, Sem.run, hit3, hp, hdec, Result.andThen, setBlock, goInt]
    rw [hrun, Oper.upon_value, hN.2.1]
    have hh4 := hr4.heap.setObj (Obj.stringIter str (pos + 1)) hno3 hrd3 hle
    have hr5 := hr4.putI (cv := .tuple #[.bool true, .int .i64 pos, .int .i32 c]) htn hh4 (v := .tup [.sc (.bool true), .sc (.int .i64 pos), .sc (.int .i32 c)]) (PW.tup (PW.cons (.sc _ rfl) (PW.cons (.sc _ rfl) (PW.cons (.sc _ rfl) PW.nil))))
    have hget : (a3.put (some tn) (.tuple #[.bool true, .int .i64 pos, .int .i32 c])).tmps.getD tn undef = .tuple #[.bool true, .int .i64 pos, .int .i32 c] := by
      rw [getD_set _ _ _ _ (by rw [hr4.size]; exact htn), if_pos rfl]
    rw [if_pos (by simp [Region.wanted, hE.2.2])]
    refine .inl ?_
    have hrun2 : ∀ w, (execOp (a3.put (some tn) (.tuple #[.bool true, .int .i64 pos, .int .i32 c])).eval oE).run P w = .ok (.value (.bool true)) w := by
      intro w
      unfold execOp
      rw [hE.1]
      simp only [Act.eval]
      rw [hget]
      rfl
    rw [hrun2, Oper.upon_value, hE.2.1]
    have hr6 := hr5.putI (d := tk) (cv := .bool true) (v := .sc (.bool true)) htk hr5.heap (.sc _ rfl)
    have hit4 : (setBlock w3 r (.stringIter str (pos + 1))).heap[r]? = some (.stringIter str (pos + 1)) := by
      show (w3.heap.setIfInBounds r _)[r]? = _
      rw [Array.getElem?_setIfInBounds_self_of_lt hrlt]
    have hrlt4 : r < (setBlock w3 r (.stringIter str (pos + 1))).heap.size := by simp [setBlock]; exact hrlt
    generalize setBlock w3 r (.stringIter str (pos + 1)) = w4 at *
    have hev4 := sc_inv (hr6.tm tk (.sc (.bool true)) (by simp [lookA]))
    refine wp_seq (wp_cond_true hev4 (wp_skip ?_))
    refine wp_mono (vc_sound (rd := (rd3, φ3)) (O := OwnedBy φ3 s3.σ) (w0 := w4) body _ _ hbody _ _ hr6.based) ?_
    rintro e a' w' ⟨s', hk, hre⟩
    cases e with
    | normal =>
      obtain ⟨s5, hw5, hI5⟩ := hk
      obtain ⟨rd5, φ5, k1, k2, k3, k4, k5⟩ := hr6.kept hx3 hrlt4 hno3 hrd3 (hw5.rel hre)
      exact ⟨str.size - (pos + 1), by omega, pos + 1, s5, rd5, φ5, rfl, hI5, k1, k2, k3.trans hit4, k4, k5⟩
    | exit id' =>
      obtain ⟨rd5, φ5, k1, k2, k3, k4, k5⟩ := hr6.kept hx3 hrlt4 hno3 hrd3 hre
      simp only [thenK, blockK] at hk
      simp only [Exit.then, Exit.inBlock]
      by_cases hid : id' = id
      · rw [if_pos hid]
        have : (id' == id) = true := by simp [hid]
        rw [this] at hk
        exact ⟨s', hk, rd5, φ5, k1, k2⟩
      · rw [if_neg hid]
        have : (id' == id) = false := by simp [hid]
        rw [this] at hk
        exact ⟨s', hk, rd5, φ5, k1, k2⟩
    | _ =>
      obtain ⟨rd5, φ5, k1, k2, k3, k4, k5⟩ := hr6.kept hx3 hrlt4 hno3 hrd3 hre
      exact ⟨s', hk, rd5, φ5, k1, k2⟩
  · have hq := hend hp
    unfold Oper.wp
    have hrun : (execOp a3.eval oN).run P w3 = .ok (.value (.tuple #[.bool false])) w3 := by
      unfold execOp
      rw [hN.1]
      simp [Act.eval, hptr, Instr.next, getObj, Sem.run, hit3, hp, Result.andThen]
    rw [hrun, Oper.upon_value, hN.2.1]
    have hr5 := hr4.putI (cv := .tuple #[.bool false]) htn hr4.heap (v := .tup [.sc (.bool false)]) (PW.tup (PW.cons (.sc _ rfl) PW.nil))
    have hget : (a3.put (some tn) (.tuple #[.bool false])).tmps.getD tn undef = .tuple #[.bool false] := by
      rw [getD_set _ _ _ _ (by rw [hr4.size]; exact htn), if_pos rfl]
    rw [if_pos (by simp [Region.wanted, hE.2.2])]
    refine .inl ?_
    have hrun2 : ∀ w, (execOp (a3.put (some tn) (.tuple #[.bool false])).eval oE).run P w = .ok (.value (.bool false)) w := by
      intro w
      unfold execOp
      rw [hE.1]
      simp only [Act.eval]
      rw [hget]
      rfl
    rw [hrun2, Oper.upon_value, hE.2.1]
    have hr6 := hr5.putI (d := tk) (cv := .bool false) (v := .sc (.bool false)) htk hr5.heap (.sc _ rfl)
    have hev4 := sc_inv (hr6.tm tk (.sc (.bool false)) (by simp [lookA]))
    refine wp_seq (wp_cond_false hev4 (wp_exit ?_))
    simp only [Exit.then, Exit.inBlock, if_true]
    exact ⟨_, hq, rd3, φ3, hx3, hr6⟩
end Go.Proofs.Ytkhemolkhegppaa.E
