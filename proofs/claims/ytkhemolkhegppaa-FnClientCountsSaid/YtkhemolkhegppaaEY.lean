/-
  E, part Y: sources; parts, slices and structs that are built, as values.
-/
import Derived.Test.YtkhemolkhegppaaEM
import Derived.Deep.AppendSrc
import Derived.Laws.BytesArg
import Derived.Laws.Tables
namespace Go.Proofs.Ytkhemolkhegppaa.E
open Go Go.RowKit
set_option linter.unusedVariables false

/-! What is known of all cells of a list of elements -/
def flL : List (List AV) → Nat
  | [] => 2
  | e :: es => min (flC e) (flL es)
def wideB (sz : Nat) : List (List AV) → Bool
  | [] => true
  | e :: es => match Nat.beq e.length sz with
    | true => wideB sz es
    | false => false
def allCB : List (List AV) → Bool
  | [] => true
  | e :: es => match e.all cellB with
    | true => allCB es
    | false => false
theorem flC_le (cs : List AV) : flC cs ≤ 2 := by unfold flC; split <;> (try split) <;> omega
theorem flL_kok : ∀ {es : List (List AV)}, ∀ e ∈ es, KOK (flL es) e
  | [], e, h => by simp at h
  | x :: es, e, h => by
    simp only [flL]
    rcases List.mem_cons.1 h with rfl | h
    · exact (KOK.ofC _).le (Nat.min_le_left _ _)
    · exact (flL_kok e h).le (Nat.min_le_right _ _)
theorem flL_map {α : Type} {E : α → List AV} {l : List α} (h : ∀ a, flC (E a) = 2) : flL (l.map E) = 2 := by
  induction l with
  | nil => rfl
  | cons a l ih => simp only [List.map_cons, flL, h, ih]; rfl
theorem flL_append {a b : List (List AV)} : flL (a ++ b) = min (flL a) (flL b) := by
  induction a with
  | nil =>
    have : flL b ≤ 2 := by
      cases b with
      | nil => exact Nat.le_refl _
      | cons x b => exact Nat.le_trans (Nat.min_le_left _ _) (flC_le x)
    simp only [List.nil_append, flL]
    omega
  | cons x a ih => simp only [List.cons_append, flL, ih, Nat.min_assoc]
theorem wideB_spec {sz : Nat} : ∀ {es : List (List AV)}, wideB sz es = true → ∀ e ∈ es, e.length = sz
  | [], _, e, h => by simp at h
  | x :: es, hw, e, h => by
    simp only [wideB] at hw
    split at hw
    · rename_i hx
      rcases List.mem_cons.1 h with rfl | h
      · exact Nat.eq_of_beq_eq_true hx
      · exact wideB_spec hw e h
    · cases hw
theorem wideB_map {α : Type} {sz : Nat} {E : α → List AV} {l : List α} (h : ∀ a, (E a).length = sz) : wideB sz (l.map E) = true := by
  induction l with
  | nil => rfl
  | cons a l ih => simp [wideB, h, ih]
theorem allCB_spec : ∀ {es : List (List AV)}, allCB es = true → ∀ e ∈ es, ∀ c ∈ e, cellB c = true
  | [], _, e, h, _, _ => by simp at h
  | x :: es, hw, e, h, c, hc => by
    simp only [allCB] at hw
    split at hw
    · rename_i hx
      rcases List.mem_cons.1 h with rfl | h
      · exact List.all_eq_true.1 hx c hc
      · exact allCB_spec hw e h c hc
    · cases hw
theorem sub_map {α : Type} {E : α → List AV} {l : List α} {off len : Nat} : sub off len (l.map E) = ((l.drop off).take len).map E := by
  unfold sub; rw [← List.map_drop, ← List.map_take]
def byteC (b : UInt8) : List AV := [.sc (.int .u8 b.toNat)]
/-- What the second operand of an append, or the source of a copy, yields. -/
def srcOf (P : Program) (σ : Sig) (tx sz : Nat) (x : AV) : Option (List (List AV) × Nat) := match tk P tx, x with
  | some .slice, .nilS => some ([], 2)
  | some .slice, .ro s es => match Nat.beq s sz, wideB sz es with
    | true, true => some (es, flL es)
    | _, _ => none
  | some .slice, .blk r g p s off len => (rowAt σ r g p).bind fun row => match Nat.beq s sz, Nat.beq row.sz sz, (match Nat.ble 1 row.fl with | true => true | false => allCB (sub off len row.es)) with
    | true, true, true => ifLe (off + len) row.es.length (some (sub off len row.es, row.fl))
    | _, _, _ => none
  | some .string, .sc (.string s) => match Nat.beq sz 1 with
    | true => some (s.data.toList.map byteC, 2)
    | false => none
  | _, _ => none

section
variable {P : Program} {rd : RD} {φ : Phi} {O : Nat → Prop} {w0 w : World} {σ : Sig} {d G : Nat}
/-! Sources -/
def cellsAt (w : World) (b q n : Nat) : List Value := (List.range n).map fun k => (w.cell? (mkA b (q + k))).getD undef
theorem cellsAt_len {b q n : Nat} : (cellsAt w b q n).length = n := by simp [cellsAt]
theorem cellsAt_get {b q n k : Nat} (hk : k < n) {v : Value} (hv : w.cell? (mkA b (q + k)) = some v) : (cellsAt w b q n)[k]? = some v := by
  simp only [cellsAt, List.getElem?_map, List.getElem?_range hk, Option.map_some, hv, Option.getD_some]
theorem cellsAt_inv {b q n k : Nat} {v : Value} (h : (cellsAt w b q n)[k]? = some v) : k < n ∧ v = (w.cell? (mkA b (q + k))).getD undef := by
  simp only [cellsAt, List.getElem?_map] at h
  obtain ⟨k', hk', rfl⟩ := Option.map_eq_some_iff.1 h
  rcases Nat.lt_or_ge k n with hx | hx
  · rw [List.getElem?_range hx] at hk'
    cases hk'
    exact ⟨hx, rfl⟩
  · rw [List.getElem?_eq_none (by simpa using hx)] at hk'
    cases hk'
theorem get2 {es : List (List AV)} {sz : Nat} (hw : ∀ e ∈ es, e.length = sz) {k : Nat} (hk : k < es.length * sz) : ∃ c, (es[k / sz]?).bind (·[k % sz]?) = some c := by
  have hsz : 0 < sz := by
    rcases Nat.eq_zero_or_pos sz with h | h
    · subst h; simp at hk
    · exact h
  have hi : k / sz < es.length := (Nat.div_lt_iff_lt_mul hsz).2 hk
  have hj : k % sz < (es[k / sz]).length := by rw [hw _ (List.getElem_mem hi)]; exact Nat.mod_lt _ hsz
  exact ⟨_, by rw [List.getElem?_eq_getElem hi, Option.bind_some, List.getElem?_eq_getElem hj]⟩
/-- Cells that lie in a row, as a source. -/
theorem src_at {tx e' sz : Nat} (hk : P.underlying tx = some (.slice e')) {es : List (List AV)} (hw : ∀ e ∈ es, e.length = sz) {b q cap : Nat}
    (hc : ∀ i j c, (es[i]?).bind (·[j]?) = some c → cellB c = true ∧ ∃ v, w.cell? (mkA b (q + i * sz + j)) = some v ∧ VRel rd φ c v) :
    ∃ news, Src P sz tx (.slice (some (mkA b q)) es.length cap) es.length news w ∧ (∀ i j c, (es[i]?).bind (·[j]?) = some c → ∃ v, news[i * sz + j]? = some v ∧ VRel rd φ c v) ∧
      ∀ n, n ≤ es.length → (Builtin.firstCells sz n (.slice (some (mkA b q)) es.length cap)).run P w = .ok (news.take (n * sz)).toArray w := by
  have hall : ∀ k, k < es.length * sz → ∃ v, w.cell? (mkA b (q + k)) = some v ∧ v.oneCell' = true := by
    intro k hk
    obtain ⟨c, h1⟩ := get2 hw hk
    obtain ⟨h2, v, h3, h4⟩ := hc _ _ _ h1
    refine ⟨v, ?_, h4.one h2⟩
    have e : k / sz * sz + k % sz = k := by rw [Nat.mul_comm]; exact Nat.div_add_mod k sz
    rwa [Nat.add_assoc, e] at h3
  have hld : ∀ j u, (cellsAt w b q (es.length * sz))[j]? = some u → w.cell? ((mkA b q).add j) = some u := by
    intro j u hu
    obtain ⟨h1, rfl⟩ := cellsAt_inv hu
    obtain ⟨v, h2, _⟩ := hall j h1
    rw [mkA_add, h2]; rfl
  refine ⟨cellsAt w b q (es.length * sz), Src.ofSlice w hk _ _ _ _ cellsAt_len hld (fun u hu => ?_), fun i j c h => ?_, fun n hn => run_firstCells_some w sz n _ _ _ _ ?_ fun j u hu => ?_⟩
  · obtain ⟨j, hj⟩ := List.getElem?_of_mem hu
    obtain ⟨h1, rfl⟩ := cellsAt_inv hj
    obtain ⟨v, h2, h3⟩ := hall j h1
    rw [h2]; exact h3
  · obtain ⟨_, v, h2, h3⟩ := hc _ _ _ h
    have hlt : i * sz + j < es.length * sz := by
      cases he : es[i]? with
      | none => rw [he] at h; cases h
      | some e =>
        rw [he] at h
        have hj : j < e.length := by
          rcases Nat.lt_or_ge j e.length with hx | hx
          · exact hx
          · rw [Option.bind_some, List.getElem?_eq_none hx] at h; cases h
        rw [hw e (List.mem_of_getElem? he)] at hj
        have hi : i < es.length := by
          rcases Nat.lt_or_ge i es.length with hx | hx
          · exact hx
          · rw [List.getElem?_eq_none hx] at he; cases he
        have := Nat.mul_le_mul_right sz (show i + 1 ≤ es.length from hi)
        rw [Nat.succ_mul] at this
        omega
    exact ⟨v, cellsAt_get hlt (by rw [← Nat.add_assoc]; exact h2), h3⟩
  · rw [List.length_take, cellsAt_len]
    exact Nat.min_eq_left (Nat.mul_le_mul_right _ hn)
  · rw [List.getElem?_take] at hu
    split at hu
    · exact hld j u hu
    · cases hu
theorem src_none {tx e' sz : Nat} (hk : P.underlying tx = some (.slice e')) (A : Option Addr) (cap : Nat) : Src P sz tx (.slice A 0 cap) 0 [] w := by
  cases A with
  | none => exact Src.ofNil w hk cap
  | some a => exact Src.ofSlice w hk a 0 cap [] (by simp) (by simp) (by simp)
theorem tk_slice {t : Nat} (h : tk P t = some .slice) : ∃ e, P.underlying t = some (.slice e) := by
  obtain ⟨i, hi, hk⟩ := ti_k h
  exact ⟨_, ti_el_slice hi hk⟩
theorem tk_string {t : Nat} (h : tk P t = some .string) : P.underlying t = some .string := by
  obtain ⟨i, hi, hk⟩ := ti_k h
  obtain ⟨dsc, h1, h2, _⟩ := ti_desc hi
  rw [hk] at h2
  cases dsc <;> simp [kindOf] at h2
  exact h1
theorem cellB_of_sfc {c : AV} (h : sfc c = true) : cellB c = true := by cases c <;> first | rfl | cases h
theorem srcOf_sound (h : HRel rd φ O w0 σ w) {tx sz : Nat} {x : AV} {cx : Value} (hx : VRel rd φ x cx) {s : List (List AV) × Nat} (hs : srcOf P σ tx sz x = some s) :
    ∃ news, Src P sz tx cx s.1.length news w ∧ (∀ i j c, (s.1[i]?).bind (·[j]?) = some c → ∃ v, news[i * sz + j]? = some v ∧ VRel rd φ c v) ∧ (∀ e ∈ s.1, e.length = sz) ∧ (∀ e ∈ s.1, KOK s.2 e) ∧
      (tk P tx = some .slice → ∀ n, n ≤ s.1.length → (Builtin.firstCells sz n cx).run P w = .ok (news.take (n * sz)).toArray w) := by
  have first0 : ∀ (A : Option Addr) (cap n : Nat), n ≤ 0 → (Builtin.firstCells sz n (.slice A 0 cap)).run P w = .ok (([] : List Value).take (n * sz)).toArray w := by
    intro A cap n hn
    have : n = 0 := by omega
    subst this
    cases A <;> simp [Builtin.firstCells, loadCells, loadCellsFrom]
  unfold srcOf at hs
  split at hs
  · rename_i hk
    obtain ⟨e', hk⟩ := tk_slice hk
    cases hs
    cases hx
    exact ⟨[], src_none hk _ _, by simp, by simp, by simp, fun _ => first0 _ _⟩
  · rename_i s0 es hk
    obtain ⟨e', hk⟩ := tk_slice hk
    split at hs
    · rename_i h1 h2
      have h1 := Nat.eq_of_beq_eq_true h1
      subst h1
      cases hs
      have hw := wideB_spec h2
      cases hx with
      | ro0 _ A cap => exact ⟨[], src_none hk _ _, by simp, by simp, by simp, fun _ => first0 _ _⟩
      | ro _ _ b q cap f hc hsf hr hv =>
        obtain ⟨news, k1, k2, k3⟩ := src_at (P := P) (rd := rd) (φ := φ) (w := w) hk hw (b := b) (q := q) (cap := cap) (fun i j c hcc => ⟨cellB_of_sfc (hsf _ _ _ hcc), _, h.rdok _ _ _ (hr _ _ _ hcc), hv _ _ _ hcc⟩)
        exact ⟨news, k1, k2, hw, flL_kok, fun _ => k3⟩
    · cases hs
  · rename_i r g p s0 off len hk
    obtain ⟨e', hk⟩ := tk_slice hk
    obtain ⟨row, hrow, hs1⟩ := Option.bind_eq_some_iff.1 hs
    clear hs
    split at hs1
    · rename_i h1 h2 h3
      have h1 := Nat.eq_of_beq_eq_true h1
      have h2 := Nat.eq_of_beq_eq_true h2
      subst h1
      unfold ifLe at hs1
      split at hs1
      · rename_i hle
        have hle := Nat.le_of_ble_eq_true hle
        cases hs1
        obtain ⟨pl, hp, hok⟩ := h.rows _ _ _ _ hrow
        have hll : (sub off len row.es).length = len := by simp [sub]; omega
        have hmem : ∀ e ∈ sub off len row.es, e ∈ row.es := fun e he => List.mem_of_mem_drop (List.mem_of_mem_take he)
        have hw : ∀ e ∈ sub off len row.es, e.length = s0 := fun e he => by rw [hok.wide e (hmem e he), h2]
        cases hx with
        | blk _ _ _ _ _ _ pl' A hφ hA hl =>
          rw [hφ] at hp
          cases hp
          by_cases hz : len = 0
          · subst hz
            have : sub off 0 row.es = [] := by simp [sub]
            rw [this]
            exact ⟨[], src_none hk _ _, by simp, by simp, by simp, fun _ => first0 _ _⟩
          · rcases hA with hA | hA
            · omega
            · cases had : pl.ad with
              | none => exact absurd (hok.nil had) (by omega)
              | some bq =>
                obtain ⟨b, q⟩ := bq
                rw [had] at hA
                simp only [Option.map_some] at hA
                subst hA
                have := src_at (P := P) (rd := rd) (φ := φ) (w := w) hk hw (b := b) (q := q + off * s0) (cap := pl.cap - off) (fun i j c hcc => by
                  refine ⟨?_, ?_⟩
                  · cases he : (sub off len row.es)[i]? with
                    | none => rw [he] at hcc; cases hcc
                    | some e =>
                      rw [he] at hcc
                      have hc := List.mem_of_getElem? hcc
                      have he := List.mem_of_getElem? he
                      split at h3
                      · rename_i hf
                        exact cellB_of_sfc ((hok.kind e (hmem e he)).1 (Nat.le_of_ble_eq_true hf) c hc)
                      · exact allCB_spec h3 e he c hc
                  · have hc' : (row.es[off + i]?).bind (·[j]?) = some c := by
                      simp only [sub, List.getElem?_take] at hcc
                      split at hcc
                      · rwa [List.getElem?_drop] at hcc
                      · cases hcc
                    obtain ⟨v, hv, hrel⟩ := hok.cells b q had _ _ _ hc'
                    refine ⟨v, ?_, hrel⟩
                    rw [← hv]
                    congr 2
                    rw [h2, Nat.add_mul]; omega)
                rw [hll] at this
                obtain ⟨news, k1, k2, k3⟩ := this
                exact ⟨news, by simpa [hll] using k1, k2, hw, fun e he => hok.kind e (hmem e he), fun _ n hn => k3 n (by simpa [hll] using hn)⟩
      · cases hs1
    · cases hs1
  · rename_i s0 hk
    have hk := tk_string hk
    split at hs
    · rename_i h1
      have h1 := Nat.eq_of_beq_eq_true h1
      subst h1
      cases hs
      cases sc_inv hx
      refine ⟨byteCells s0, ?_, ?_, ?_, ?_, ?_⟩
      · have e : (s0.data.toList.map byteC).length = s0.size := by rw [List.length_map, Array.length_toList]; rfl
        rw [e]
        exact Src.ofString (P := P) w hk s0
      · intro i j c hc
        simp only [List.getElem?_map] at hc
        cases hb : s0.data.toList[i]? with
        | none => rw [hb] at hc; cases hc
        | some b =>
          rw [hb] at hc
          cases j with
          | zero =>
            simp only [Option.map_some, Option.bind_some, byteC, List.getElem?_cons_zero, Option.some.injEq] at hc
            subst hc
            exact ⟨.int .u8 b.toNat, by simp only [byteCells, Nat.mul_one, Nat.add_zero, List.getElem?_map, hb]; rfl, .sc _ rfl⟩
          | succ j => simp [byteC] at hc
      · intro e he
        obtain ⟨b, _, rfl⟩ := List.mem_map.1 he
        rfl
      · intro e he
        obtain ⟨b, _, rfl⟩ := List.mem_map.1 he
        exact KOK.ofC (byteC b)
      · intro hk2
        obtain ⟨e', hk2⟩ := tk_slice hk2
        rw [hk] at hk2
        cases hk2
    · cases hs
  · cases hs
end

/-! ### Parts of values -/
def optZ : Option AV → Option (Option Int)
  | none => some none
  | some (.sc (.int _ z)) => some (some z)
  | some _ => none
def elB (P : Program) (t sz : Nat) : Bool := match (ti P t).bind fun i => ti P i.el with
  | some e => Nat.beq sz e.sz
  | none => false
def absSlice2 (P : Program) (t : Nat) (x : AV) (l h : Option Int) : Option AV :=
  match tk P t, x with
  | some .string, .sc (.string s) => ifP (0 ≤ l.getD 0 ∧ l.getD 0 ≤ h.getD s.size ∧ h.getD s.size ≤ s.size) (some (.sc (.string (s.extract (l.getD 0).toNat (h.getD s.size).toNat))))
  | some .slice, .nilS => ((ti P t).bind fun i => ti P i.el).bind fun _ => ifP (l.getD 0 = 0 ∧ h.getD 0 = 0) (some .nilS)
  | some .slice, .ro sz es => match elB P t sz with
    | true => ifP (0 ≤ l.getD 0 ∧ l.getD 0 ≤ h.getD es.length ∧ h.getD es.length ≤ es.length) (some (.ro sz (sub (l.getD 0).toNat ((h.getD es.length).toNat - (l.getD 0).toNat) es)))
    | false => none
  | some .slice, .blk r g p sz off len => match elB P t sz with
    | true => ifP (0 ≤ l.getD 0 ∧ l.getD 0 ≤ h.getD len ∧ h.getD len ≤ len) (some (.blk r g p sz (off + (l.getD 0).toNat) ((h.getD len).toNat - (l.getD 0).toNat)))
    | false => none
  | _, _ => none
def absSlice (P : Program) (t : Nat) (x : AV) (lo hi mx : Option AV) : Option AV :=
  match mx with
  | none => (optZ lo).bind fun l => (optZ hi).bind fun h => absSlice2 P t x l h
  | some _ => none
def absIndex (P : Program) (t : Nat) (x ix : AV) : Option AV :=
  match tk P t, x, ix with
  | some .string, .sc (.string s), .sc (.int _ z) => ifP (0 ≤ z) ((s.data[z.toNat]?).map fun b => .sc (.int .u8 b.toNat))
  | some .array, .agg cs, .sc (.int _ z) => (ti P t).bind fun i => (ti P i.el).bind fun e => ifP (0 ≤ z ∧ z < i.n) (ldC e cs (z.toNat * e.sz))
  | _, _, _ => none
def fieldT (P : Program) (t f : Nat) : Option Nat := match P.underlying t with
  | some (.struct fs) => (fs[f]?).map fun x => x.type
  | _ => none
def absField (P : Program) (t : Nat) (x : AV) (f : Nat) : Option AV :=
  (fieldT P t f).bind fun ft => (ti P t).bind fun i => (i.flds[f]?).bind fun o => (ti P ft).bind fun e => match x with
    | .agg cs => ldC e cs o.1
    | _ => none
def absFill (place : Nat → Option (Nat × Nat)) : List AV → List (Nat × AV) → Option (List AV)
  | cs, [] => some cs
  | cs, x :: l => (place x.1).bind fun o => match (cellsA x.2).all cellB, Nat.beq (cellsA x.2).length o.2, Nat.ble (o.1 + o.2) cs.length with
    | true, true, true => absFill place (cs.take o.1 ++ (cellsA x.2 ++ cs.drop (o.1 + o.2))) l
    | _, _, _ => none
def allPos : List (Nat × Nat) → Bool
  | [] => true
  | x :: l => match Nat.beq x.2 0 with
    | true => false
    | false => allPos l
def absBuild (P : Program) (t : Nat) (parts : List (Nat × AV)) : Option AV :=
  (ti P t).bind fun i => i.zero.bind fun z => match i.k with
    | .struct => match allPos i.flds with
      | true => (absFill (fun k => i.flds[k]?) z parts).map .agg
      | false => none
    | .array => (ti P i.el).bind fun e => (absFill (fun k => some (k * e.sz, e.sz)) z parts).map .agg
    | _ => none
def bsFill (sz : Nat) : List (List AV) → List (Nat × AV) → Option (List (List AV))
  | es, [] => some es
  | es, x :: l => match (cellsA x.2).all cellB, Nat.beq (cellsA x.2).length sz, Nat.blt x.1 es.length with
    | true, true, true => bsFill sz (es.set x.1 (cellsA x.2)) l
    | _, _, _ => none
def absBuildE (P : Program) (t len : Nat) (parts : List (Nat × AV)) : Option (Nat × List (List AV)) :=
  (ti P t).bind fun i => (ti P i.el).bind fun e => e.zero.bind fun z => match i.k, Nat.beq z.length e.sz, Nat.ble 1 e.sz, Nat.ble (len * e.sz) 16777216 with
    | .slice, true, true, true => (bsFill e.sz (List.replicate len z) parts).map fun es => (e.sz, es)
    | _, _, _, _ => none
/-- A slice that is built, to be read only. -/
def absBuildRo (P : Program) (t len : Nat) (parts : List (Nat × AV)) : Option AV :=
  (absBuildE P t len parts).bind fun x => match Nat.ble 1 (flL x.2) with
    | true => some (.ro x.1 x.2)
    | false => none
def bytesOf : List (List AV) → Option (List UInt8)
  | [] => some []
  | [.sc (.int .u8 n)] :: l => (bytesOf l).map fun r => UInt8.ofNat n.toNat :: r
  | _ => none
def absB2S (P : Program) (σ : Sig) (s : Nat) (x : AV) : Option AV :=
  (ti P s).bind fun i => match tk P i.el with
    | some (.int .u8) => (srcOf P σ s 1 x).bind fun es => (bytesOf es.1).map fun l => .sc (.string ⟨l.toArray⟩)
    | _ => none
def absConvS (P : Program) (σ : Sig) (s t : Nat) (x : AV) : Option AV :=
  match tk P s, tk P t with
  | some .slice, some .string => absB2S P σ s x
  | _, _ => absConv P s t x
def absMin (a b : AV) : Option AV := match a, b with
  | .sc (.int k x), .sc (.int _ y) => some (.sc (.int k (min x y)))
  | _, _ => none
def absMax (a b : AV) : Option AV := match a, b with
  | .sc (.int k x), .sc (.int _ y) => some (.sc (.int k (max x y)))
  | _, _ => none
theorem bytesOf_map (l : List UInt8) : bytesOf (l.map byteC) = some l := by
  induction l with
  | nil => rfl
  | cons b l ih => simp [bytesOf, byteC, ih]

section
variable {P : Program} {rd : RD} {φ : Phi} {O : Nat → Prop} {w0 w : World} {σ : Sig} {d G : Nat}

theorem elB_some {t sz : Nat} (h : elB P t sz = true) : ∃ i e, ti P t = some i ∧ ti P i.el = some e ∧ sz = e.sz := by
  unfold elB at h
  split at h
  · rename_i e he
    obtain ⟨i, hi, he⟩ := Option.bind_eq_some_iff.1 he
    exact ⟨i, e, hi, he, Nat.eq_of_beq_eq_true h⟩
  · cases h
theorem optZ_rel {lo : Option AV} {clo : Option Value} (h : ∀ a, lo = some a → ∃ c, clo = some c ∧ VRel rd φ a c) (hn : lo = none → clo = none) {l : Option Int} (hl : optZ lo = some l) :
    (l = none ∧ clo = none) ∨ ∃ k z, l = some z ∧ clo = some (.int k z) := by
  unfold optZ at hl
  split at hl
  · cases hl; exact .inl ⟨rfl, hn rfl⟩
  · rename_i k z
    cases hl
    obtain ⟨c, e, hr⟩ := h _ rfl
    rw [sc_inv hr] at e
    exact .inr ⟨_, _, rfl, e⟩
  · cases hl
theorem run_bounds (is : Bool) (len cap : Nat) (hlc : len ≤ cap) {clo chi : Option Value} {l h : Option Int} (h1 : (l = none ∧ clo = none) ∨ ∃ k z, l = some z ∧ clo = some (.int k z)) (h2 : (h = none ∧ chi = none) ∨ ∃ k z, h = some z ∧ chi = some (.int k z))
    (hb : 0 ≤ l.getD 0 ∧ l.getD 0 ≤ h.getD len ∧ h.getD len ≤ len) : (Instr.sliceBounds is len cap clo chi none).run P w = .ok ((l.getD 0).toNat, (h.getD len).toNat, cap) w := by
  rcases h1 with ⟨rfl, rfl⟩ | ⟨k1, z1, rfl, rfl⟩ <;> rcases h2 with ⟨rfl, rfl⟩ | ⟨k2, z2, rfl, rfl⟩ <;> simp only [Option.getD_none, Option.getD_some] at hb ⊢
  · simp [Instr.sliceBounds]
  · have e1 : 0 ≤ z2 ∧ z2 ≤ (cap : Int) := by omega
    simp [Instr.sliceBounds, Instr.sliceBound, asIntOf, e1]
  · have e1 : 0 ≤ z1 ∧ z1 ≤ (len : Int) := by omega
    simp [Instr.sliceBounds, Instr.sliceBound, asIntOf, e1]
  · have e1 : 0 ≤ z2 ∧ z2 ≤ (cap : Int) := by omega
    have e2 : 0 ≤ z1 ∧ z1 ≤ ((z2.toNat : Nat) : Int) := by omega
    simp only [Instr.sliceBounds, Instr.sliceBound, asIntOf, Sem.run_bind, Sem.run_pure, Result.andThen_ok, if_pos e1, if_pos e2, Option.isSome_none, Bool.false_eq_true, if_false]
theorem slice_sound (hh : HRel rd φ O w0 σ w) {t : Nat} {x v : AV} {lo hi mx : Option AV} {cx : Value} {clo chi cmx : Option Value} (hx : VRel rd φ x cx)
    (h1 : ∀ a, lo = some a → ∃ c, clo = some c ∧ VRel rd φ a c) (h1n : lo = none → clo = none) (h2 : ∀ a, hi = some a → ∃ c, chi = some c ∧ VRel rd φ a c) (h2n : hi = none → chi = none) (h3 : mx = none → cmx = none)
    (ha : absSlice P t x lo hi mx = some v) : After0 rd φ O w0 σ v ((Instr.sliceAt t cx clo chi cmx).run P w) := by
  unfold absSlice at ha
  split at ha
  · have e3 := h3 rfl
    subst e3
    obtain ⟨l, hl, ha1⟩ := Option.bind_eq_some_iff.1 ha
    obtain ⟨h, hhh, ha2⟩ := Option.bind_eq_some_iff.1 ha1
    have b1 := optZ_rel h1 h1n hl
    have b2 := optZ_rel h2 h2n hhh
    clear ha ha1
    unfold absSlice2 at ha2
    split at ha2
    · rename_i s hk
      have hk := tk_string hk
      cases sc_inv hx
      obtain ⟨hb, ha2⟩ := ifP_some ha2
      cases ha2
      have hbb := run_bounds (P := P) (w := w) false s.size s.size (Nat.le_refl _) b1 b2 hb
      exact .same hh (cv := .string _) (by simp [Instr.sliceAt, Instr.slice, run_underlying hk w, hbb]) (.sc _ rfl)
    · rename_i hk
      obtain ⟨e, he, ha2⟩ := Option.bind_eq_some_iff.1 ha2
      obtain ⟨i, hi, he⟩ := Option.bind_eq_some_iff.1 he
      have hu : P.underlying t = some (.slice i.el) := by
        obtain ⟨i', hi', hk'⟩ := ti_k hk
        rw [hi] at hi'
        cases hi'
        exact ti_el_slice hi hk'
      obtain ⟨hb, ha2⟩ := ifP_some ha2
      cases ha2
      cases hx
      have hbb := run_bounds (P := P) (w := w) true 0 0 (Nat.le_refl _) b1 b2 (by rcases b1 with ⟨rfl, _⟩ | ⟨_, _, rfl, _⟩ <;> rcases b2 with ⟨rfl, _⟩ | ⟨_, _, rfl, _⟩ <;> simp at hb ⊢ <;> omega)
      have e1 : (l.getD 0).toNat = 0 := by rw [hb.1]; rfl
      have e2 : (h.getD ((0 : Nat) : Int)).toNat = 0 := by
        rw [show h.getD ((0 : Nat) : Int) = h.getD 0 from rfl, hb.2]; rfl
      rw [e1, e2] at hbb
      refine .same hh (cv := .slice none 0 0) ?_ .nilS
      simp only [Instr.sliceAt, Instr.slice, Sem.run_bind, run_underlying hu w, Result.andThen_ok, hbb, run_size he]
      rfl
    · rename_i sz es hk
      obtain ⟨e0, hk0⟩ := tk_slice hk
      split at ha2
      · rename_i hel
        obtain ⟨i, e, hi, he, rfl⟩ := elB_some hel
        have hu : P.underlying t = some (.slice i.el) := by
          obtain ⟨i', hi', hk'⟩ := ti_k hk
          rw [hi] at hi'
          cases hi'
          exact ti_el_slice hi hk'
        obtain ⟨hb, ha2⟩ := ifP_some ha2
        cases ha2
        cases hx with
        | ro0 _ A cap =>
          have hbb := run_bounds (P := P) (w := w) true 0 cap (Nat.zero_le _) b1 b2 hb
          have e0 : (h.getD ((0 : Nat) : Int)).toNat - (l.getD 0).toNat = 0 := by
            have := hb.2.2
            simp only [List.length_nil] at this hb
            omega
          refine .same hh (cv := .slice _ _ _) (by simp only [Instr.sliceAt, Instr.slice, Sem.run_bind, run_underlying hu w, Result.andThen_ok, hbb, run_size he]; rfl) ?_
          simp only [List.length_nil, sub, List.drop_nil, List.take_nil, e0]
          exact .ro0 _ _ _
        | ro _ _ b q cap f hc hs hr hv =>
          have hbb := run_bounds (P := P) (w := w) true es.length cap hc b1 b2 hb
          refine .same hh (cv := .slice _ _ _) (by simp only [Instr.sliceAt, Instr.slice, Sem.run_bind, run_underlying hu w, Result.andThen_ok, hbb, run_size he]; rfl) ?_
          by_cases hz : (h.getD (es.length : Int)).toNat - (l.getD 0).toNat = 0
          · rw [hz]
            have : sub (l.getD 0).toNat 0 es = [] := by simp [sub]
            rw [this]
            exact .ro0 _ _ _
          · have hne : ¬ cap = (l.getD 0).toNat := by omega
            rw [if_neg hne]
            have hcell : ∀ (a j : Nat) (c : AV), ((sub (l.getD 0).toNat ((h.getD (es.length : Int)).toNat - (l.getD 0).toNat) es)[a]?).bind (·[j]?) = some c → (es[(l.getD 0).toNat + a]?).bind (·[j]?) = some c := by
              intro a j c hcc
              simp only [sub, List.getElem?_take] at hcc
              split at hcc
              · rwa [List.getElem?_drop] at hcc
              · cases hcc
            have hlen : (sub (l.getD 0).toNat ((h.getD (es.length : Int)).toNat - (l.getD 0).toNat) es).length = (h.getD (es.length : Int)).toNat - (l.getD 0).toNat := by simp [sub]; omega
            have := VRel.ro (rd := rd) (φ := φ) e.sz (sub (l.getD 0).toNat ((h.getD (es.length : Int)).toNat - (l.getD 0).toNat) es) b (q + (l.getD 0).toNat * e.sz) (cap - (l.getD 0).toNat) (fun a j => f ((l.getD 0).toNat + a) j)
              (by rw [hlen]; omega) (fun a j c hcc => hs _ _ _ (hcell a j c hcc))
              (fun a j c hcc => by
                have := hr _ _ _ (hcell a j c hcc)
                rwa [show q + (l.getD 0).toNat * e.sz + a * e.sz + j = q + ((l.getD 0).toNat + a) * e.sz + j by rw [Nat.add_mul]; omega])
              (fun a j c hcc => hv _ _ _ (hcell a j c hcc))
            rw [hlen] at this
            simp only [Option.map_some, mkA_add]
            exact this
      · cases ha2
    · rename_i r g p sz off len hk
      obtain ⟨e0, hk0⟩ := tk_slice hk
      split at ha2
      · rename_i hel
        obtain ⟨i, e, hi, he, rfl⟩ := elB_some hel
        have hu : P.underlying t = some (.slice i.el) := by
          obtain ⟨i', hi', hk'⟩ := ti_k hk
          rw [hi] at hi'
          cases hi'
          exact ti_el_slice hi hk'
        obtain ⟨hb, ha2⟩ := ifP_some ha2
        cases ha2
        cases hx with
        | blk _ _ _ _ _ _ pl A hφ hA hl =>
          have hbb := run_bounds (P := P) (w := w) true len (pl.cap - off) hl b1 b2 hb
          refine .same hh (cv := .slice _ _ _) (by simp only [Instr.sliceAt, Instr.slice, Sem.run_bind, run_underlying hu w, Result.andThen_ok, hbb, run_size he]; rfl) ?_
          have e1 : pl.cap - off - (l.getD 0).toNat = pl.cap - (off + (l.getD 0).toNat) := by omega
          rw [e1]
          refine .blk r g p e.sz _ _ pl _ hφ ?_ (by omega)
          split
          · left; omega
          · rename_i hne
            rcases hA with hA | hA
            · left; omega
            · right
              subst hA
              cases pl.ad with
              | none => rfl
              | some x =>
                simp only [Option.map_some, mkA_add]
                congr 2
                rw [Nat.add_mul]; omega
      · cases ha2
    · cases ha2
  · cases ha

theorem ldC_part {t : Nat} {i : TI} (hi : ti P t = some i) {cs : List AV} {arr : Array Value} (hp : PW rd φ cs arr.toList) {o : Nat} {v : AV} (hl : ldC i cs o = some v) : ∃ cv, (part t arr o).run P w = .ok cv w ∧ VRel rd φ v cv := by
  obtain ⟨inf, dsc, h1, h2, h3, h4, h5, -⟩ := ti_some hi
  have hagg : (isAgg t).run P w = .ok i.ag w := by
    unfold isAgg
    rw [Sem.run_bind, run_underlying h2 w, h5]
    cases dsc <;> simp [isAgD]
  unfold ldC at hl
  split at hl
  · rename_i hag
    split at hl
    · rename_i hle
      cases hl
      have hle := Nat.le_of_ble_eq_true hle
      refine ⟨.agg (arr.extract o (o + i.sz)), ?_, PW.agg ?_⟩
      · unfold part
        rw [Sem.run_bind, hagg, Result.andThen_ok]
        simp [hag, run_size hi]
      · rw [Array.toList_extract]
        have := (hp.drop o).take i.sz
        simpa [List.extract] using this
    · cases hl
  · rename_i hag
    obtain ⟨cv, h6, h7⟩ := hp.2 _ _ hl
    have h6' : arr[o]? = some cv := by simpa using h6
    refine ⟨cv, ?_, h7⟩
    unfold part
    rw [Sem.run_bind, hagg, Result.andThen_ok]
    simp [hag, h6']
theorem index_sound (hh : HRel rd φ O w0 σ w) {t : Nat} {x y v : AV} {cx cy : Value} (hx : VRel rd φ x cx) (hy : VRel rd φ y cy) (ha : absIndex P t x y = some v) :
    After0 rd φ O w0 σ v ((Instr.index t cx cy).run P w) := by
  unfold absIndex at ha
  split at ha
  · rename_i s k z hk
    have hk := tk_string hk
    cases sc_inv hx
    cases sc_inv hy
    obtain ⟨hz, ha⟩ := ifP_some ha
    obtain ⟨b, hb, rfl⟩ := Option.map_eq_some_iff.1 ha
    have hb' : s[z.toNat]? = some b := by
      obtain ⟨h1, h2⟩ := Array.getElem?_eq_some_iff.1 hb
      have h3 : z.toNat < s.size := h1
      rw [getElem?_pos s z.toNat h3]
      exact congrArg some h2
    exact .same hh (cv := .int .u8 b.toNat) (by simp only [Instr.index, asIntOf, Sem.run_bind, Sem.run_pure, Result.andThen_ok, run_underlying hk w, if_pos hz, hb']) (.sc _ rfl)
  · rename_i cs k z hk
    obtain ⟨i0, hi0, hk0⟩ := ti_k hk
    obtain ⟨i, hi, ha1⟩ := Option.bind_eq_some_iff.1 ha
    obtain ⟨e, he, ha2⟩ := Option.bind_eq_some_iff.1 ha1
    rw [hi] at hi0
    cases hi0
    obtain ⟨hz, ha3⟩ := ifP_some ha2
    obtain ⟨arr, rfl, hp⟩ := PW.of_agg hx
    cases sc_inv hy
    obtain ⟨cv, h1, h2⟩ := ldC_part (P := P) (w := w) he hp ha3
    exact .same hh (by simp only [Instr.index, asIntOf, Sem.run_bind, Sem.run_pure, Result.andThen_ok, run_underlying (ti_el_array hi hk0) w, if_pos hz, run_size he, h1]) h2
  · cases ha
theorem field_sound (hh : HRel rd φ O w0 σ w) {t f : Nat} {x v : AV} {cx : Value} (hx : VRel rd φ x cx) (ha : absField P t x f = some v) :
    After0 rd φ O w0 σ v ((Instr.field t cx f).run P w) := by
  unfold absField at ha
  obtain ⟨ft, hft, ha1⟩ := Option.bind_eq_some_iff.1 ha
  obtain ⟨i, hi, ha2⟩ := Option.bind_eq_some_iff.1 ha1
  obtain ⟨o, ho, ha3⟩ := Option.bind_eq_some_iff.1 ha2
  obtain ⟨e, he, ha4⟩ := Option.bind_eq_some_iff.1 ha3
  clear ha ha1 ha2 ha3
  obtain ⟨inf, dsc, h1, h2, h3, h4, h5, h6, h7, -⟩ := ti_some hi
  unfold fieldT at hft
  rw [h2] at hft
  cases dsc with
  | struct fs =>
    simp only at hft h7
    obtain ⟨fl, hfl, rfl⟩ := Option.map_eq_some_iff.1 hft
    rw [h7, List.getElem?_map] at ho
    obtain ⟨fl', hfl', rfl⟩ := Option.map_eq_some_iff.1 ho
    have : fs[f]? = some fl' := by simpa using hfl'
    rw [this] at hfl
    cases hfl
    split at ha4
    · obtain ⟨arr, rfl, hp⟩ := PW.of_agg hx
      obtain ⟨cv, k1, k2⟩ := ldC_part (P := P) (w := w) he hp ha4
      exact .same hh (by simp only [Instr.field, Sem.run_bind, run_underlying h2 w, Result.andThen_ok, this, asAgg, Sem.run_pure, k1]) k2
    · cases ha4
  | _ => simp at hft
end
--P2
section
variable {P : Program} {rd : RD} {φ : Phi} {O : Nat → Prop} {w0 w : World} {σ : Sig} {d G : Nat}
theorem fold_set (off : Nat) : ∀ (vs : List Value) (k : Nat) (cells : Array Value), off + k + vs.length ≤ cells.size →
    ((vs.zipIdx k).foldl (fun cs (x : Value × Nat) => cs.setIfInBounds (off + x.2) x.1) cells).toList = cells.toList.take (off + k) ++ (vs ++ cells.toList.drop (off + k + vs.length))
  | [], k, cells, h => by simp
  | c :: r, k, cells, h => by
    simp only [List.zipIdx_cons, List.foldl_cons]
    rw [fold_set off r (k + 1) _ (by simp only [Array.size_setIfInBounds]; simp only [List.length_cons] at h; omega)]
    simp only [Array.toList_setIfInBounds, List.length_cons] at h ⊢
    have e1 : (cells.toList.set (off + k) c).take (off + (k + 1)) = cells.toList.take (off + k) ++ [c] := by
      rw [← Nat.add_assoc, List.take_add_one, List.take_set_of_le (Nat.le_refl _), List.getElem?_set_self (by simp; omega)]
      rfl
    have e2 : (cells.toList.set (off + k) c).drop (off + (k + 1) + r.length) = cells.toList.drop (off + k + (r.length + 1)) := by
      rw [List.drop_set_of_lt (by omega)]
      congr 1
      omega
    rw [e1, e2, List.append_assoc]
    rfl
theorem fill_sound {place cplace : Nat → Option (Nat × Nat)} (hp : ∀ k o, place k = some o → cplace k = some o) {ev : Operand → AV} {ρ : Operand → Value} (hev : ∀ x, VRel rd φ (ev x) (ρ x)) : ∀ (ps : List (Nat × Operand)) {cs cs' : List AV} {arr : Array Value}, PW rd φ cs arr.toList →
    absFill place cs (ps.map fun x => (x.1, ev x.2)) = some cs' → ∃ arr', Instr.fill cplace arr (ps.map fun x => (x.1, ρ x.2)) = some arr' ∧ PW rd φ cs' arr'.toList
  | [], cs, cs', arr, h, hf => by cases hf; exact ⟨arr, rfl, h⟩
  | x :: ps, cs, cs', arr, h, hf => by
    simp only [List.map_cons, absFill] at hf
    obtain ⟨o, ho, hf1⟩ := Option.bind_eq_some_iff.1 hf
    clear hf
    split at hf1
    · rename_i h1 h2 h3
      have h2 := Nat.eq_of_beq_eq_true h2
      have h3 := Nat.le_of_ble_eq_true h3
      obtain ⟨hc, h1c⟩ := cellsA_rel (hev x.2) h1
      have hs : (ρ x.2).cells.size = o.2 := by rw [← h2, hc.1]; simp
      have hz : o.1 + o.2 ≤ arr.size := by have := h.1; simp at this; omega
      have hfold := fold_set o.1 (ρ x.2).cells.toList 0 arr (by simp; omega)
      have hfill : Instr.fill cplace arr ((x.1, ρ x.2) :: ps.map fun x => (x.1, ρ x.2)) = Instr.fill cplace ((ρ x.2).cells.zipIdx.foldl (fun cs (x : Value × Nat) => cs.setIfInBounds (o.1 + x.2) x.1) arr) (ps.map fun x => (x.1, ρ x.2)) := by
        rw [Instr.fill, hp _ _ ho]
        have e : ((ρ x.2).cells.size ≠ o.2 || o.1 + (ρ x.2).cells.size > arr.size) = false := by simp [hs]; omega
        simp only [e]
        rfl
      have e2 : ((ρ x.2).cells.zipIdx.foldl (fun cs (x : Value × Nat) => cs.setIfInBounds (o.1 + x.2) x.1) arr).toList = arr.toList.take o.1 ++ ((ρ x.2).cells.toList ++ arr.toList.drop (o.1 + o.2)) := by
        rw [← Array.foldl_toList, Array.toList_zipIdx, hfold]
        simp [hs]
      simp only [List.map_cons]
      rw [hfill]
      refine fill_sound hp hev ps ?_ hf1
      rw [e2]
      exact (h.take _).append (hc.append (h.drop _))
    · cases hf1
theorem allPos_spec : ∀ {l : List (Nat × Nat)}, allPos l = true → ∀ x ∈ l, x.2 ≠ 0
  | [], _, x, hx => by simp at hx
  | y :: l, h, x, hx => by
    simp only [allPos] at h
    split at h
    · cases h
    · rename_i hb
      rcases List.mem_cons.1 hx with rfl | hx
      · intro e; rw [e] at hb; cases hb
      · exact allPos_spec h x hx
theorem places_of {fs : List Field} (h : ∀ f ∈ fs, P.cellsOf f.type ≠ 0) : fs.mapM (fun f => (P.info? f.type).map fun i => (f.offset, i.size)) = some (fs.map fun f => (f.offset, P.cellsOf f.type)) := by
  induction fs with
  | nil => rfl
  | cons f fs ih =>
    have hf := h f (by simp)
    cases hi : P.info? f.type with
    | none => simp [Program.cellsOf, hi] at hf
    | some i =>
      have hc : P.cellsOf f.type = i.size := by simp [Program.cellsOf, hi]
      simp [List.mapM_cons, hi, hc, ih (fun f hf => h f (by simp [hf]))]
theorem build_sound (hh : HRel rd φ O w0 σ w) {t : Nat} {v : AV} {ev : Operand → AV} {ρ : Operand → Value} (hev : ∀ x, VRel rd φ (ev x) (ρ x)) {parts : Array (Nat × Operand)}
    (ha : absBuild P t (parts.toList.map fun x => (x.1, ev x.2)) = some v) : After0 rd φ O w0 σ v ((Instr.build t (parts.map fun (i, x) => (i, ρ x))).run P w) := by
  unfold absBuild at ha
  obtain ⟨i, hi, ha1⟩ := Option.bind_eq_some_iff.1 ha
  obtain ⟨z, hz, ha2⟩ := Option.bind_eq_some_iff.1 ha1
  clear ha ha1
  obtain ⟨inf, dsc, h1, h2, h3, h4, h5, h6, h7, h8, h9, h10⟩ := ti_some hi
  rw [h6] at hz
  obtain ⟨zv, hzv, rfl⟩ := Option.map_eq_some_iff.1 hz
  have e0 : (parts.map fun (x : Nat × Operand) => (x.1, ρ x.2)).toList = parts.toList.map fun x => (x.1, ρ x.2) := by simp
  split at ha2
  · rename_i hk
    rw [h10] at hk
    cases dsc with
    | struct fs =>
      split at ha2
      · rename_i hpos
        obtain ⟨cs', hf, rfl⟩ := Option.map_eq_some_iff.1 ha2
        rw [h7] at hf hpos
        have hpl := places_of (P := P) (fs := fs.toList) (fun f hf => allPos_spec hpos (f.offset, P.cellsOf f.type) (List.mem_map.2 ⟨f, hf, rfl⟩))
        obtain ⟨arr', k1, k2⟩ := fill_sound (rd := rd) (φ := φ) (cplace := fun k => (fs.toList.map fun f => (f.offset, P.cellsOf f.type)).toArray[k]?) (fun k o h => by simpa using h) hev parts.toList (PW.absC zv.cells.toList) hf
        have hb : P.built t (parts.map fun (x : Nat × Operand) => (x.1, ρ x.2)).toList = some arr' := by
          unfold Program.built
          rw [h1, h2]
          simp only [hzv, hpl, e0]
          exact k1
        exact .same hh (run_build w t _ arr' hb) (PW.agg k2)
      · cases ha2
    | _ => simp [kindOf] at hk
  · rename_i hk
    rw [h10] at hk
    cases dsc with
    | array n el =>
      obtain ⟨e, he, ha3⟩ := Option.bind_eq_some_iff.1 ha2
      obtain ⟨cs', hf, rfl⟩ := Option.map_eq_some_iff.1 ha3
      obtain ⟨inf', dsc', k1, k2, k3, _⟩ := ti_some he
      have h8' : i.el = el := h8
      rw [h8'] at k1
      obtain ⟨arr', m1, m2⟩ := fill_sound (rd := rd) (φ := φ) (cplace := fun k => some (k * inf'.size, inf'.size)) (fun k o h => by rw [← h, k3]) hev parts.toList (PW.absC zv.cells.toList) hf
      have hb : P.built t (parts.map fun (x : Nat × Operand) => (x.1, ρ x.2)).toList = some arr' := by
        unfold Program.built
        rw [h1, h2]
        simp only [hzv, k1, e0]
        exact m1
      exact .same hh (run_build w t _ arr' hb) (PW.agg m2)
    | _ => simp [kindOf] at hk
  · cases ha2

/-! Slices that are built -/
def Flat (rd : RD) (φ : Phi) (sz : Nat) (es : List (List AV)) (arr : Array Value) : Prop :=
  arr.size = es.length * sz ∧ (∀ e ∈ es, e.length = sz) ∧ ∀ i j c, (es[i]?).bind (·[j]?) = some c → ∃ v, arr[i * sz + j]? = some v ∧ VRel rd φ c v
theorem bsFill_sound {sz : Nat} {ev : Operand → AV} {ρ : Operand → Value} (hev : ∀ x, VRel rd φ (ev x) (ρ x)) : ∀ (ps : List (Nat × Operand)) {es es' : List (List AV)} {arr : Array Value}, Flat rd φ sz es arr →
    bsFill sz es (ps.map fun x => (x.1, ev x.2)) = some es' → es'.length = es.length ∧ ∃ arr', Instr.fill (fun i => some (i * sz, sz)) arr (ps.map fun x => (x.1, ρ x.2)) = some arr' ∧ Flat rd φ sz es' arr'
  | [], es, es', arr, h, hf => by cases hf; exact ⟨rfl, arr, rfl, h⟩
  | x :: ps, es, es', arr, h, hf => by
    simp only [List.map_cons, bsFill] at hf
    split at hf
    · rename_i h1 h2 h3
      have h2 := Nat.eq_of_beq_eq_true h2
      have h3 : x.1 < es.length := Nat.le_of_ble_eq_true h3
      obtain ⟨hc, h1c⟩ := cellsA_rel (hev x.2) h1
      have hs : (ρ x.2).cells.size = sz := by rw [← h2, hc.1]; simp
      have hz : x.1 * sz + sz ≤ arr.size := by
        rw [h.1]
        have := Nat.mul_le_mul_right sz (show x.1 + 1 ≤ es.length from h3)
        rwa [Nat.succ_mul] at this
      have hfold := fold_set (x.1 * sz) (ρ x.2).cells.toList 0 arr (by simp; omega)
      have hfill : Instr.fill (fun i => some (i * sz, sz)) arr ((x.1, ρ x.2) :: ps.map fun x => (x.1, ρ x.2)) = Instr.fill (fun i => some (i * sz, sz)) ((ρ x.2).cells.zipIdx.foldl (fun cs (y : Value × Nat) => cs.setIfInBounds (x.1 * sz + y.2) y.1) arr) (ps.map fun x => (x.1, ρ x.2)) := by
        rw [Instr.fill]
        have e : ((ρ x.2).cells.size ≠ sz || x.1 * sz + (ρ x.2).cells.size > arr.size) = false := by simp [hs]; omega
        simp only [e]
        rfl
      have e2 : ((ρ x.2).cells.zipIdx.foldl (fun cs (y : Value × Nat) => cs.setIfInBounds (x.1 * sz + y.2) y.1) arr).toList = arr.toList.take (x.1 * sz) ++ ((ρ x.2).cells.toList ++ arr.toList.drop (x.1 * sz + sz)) := by
        rw [← Array.foldl_toList, Array.toList_zipIdx, hfold]
        simp [hs]
      generalize (ρ x.2).cells.zipIdx.foldl (fun cs (y : Value × Nat) => cs.setIfInBounds (x.1 * sz + y.2) y.1) arr = arr1 at hfill e2
      have hflat : Flat rd φ sz (es.set x.1 (cellsA (ev x.2))) arr1 := by
        have hsz1 : arr1.size = arr.size := by
          have := congrArg List.length e2
          simp only [Array.length_toList, List.length_append, List.length_take, List.length_drop] at this
          omega
        refine ⟨by rw [hsz1, h.1]; simp, fun e he => ?_, fun i j c hcc => ?_⟩
        · rcases List.mem_or_eq_of_mem_set he with he | rfl
          · exact h.2.1 e he
          · exact h2
        · have hget : ∀ k : Nat, arr1[k]? = arr1.toList[k]? := fun k => (Array.getElem?_toList ..).symm
          rw [hget, e2]
          by_cases hi : x.1 = i
          · subst hi
            rw [List.getElem?_set_self h3, Option.bind_some] at hcc
            obtain ⟨v, hv, hr⟩ := hc.2 j c hcc
            refine ⟨v, ?_, hr⟩
            have hj : j < (ρ x.2).cells.toList.length := by
              rcases Nat.lt_or_ge j (ρ x.2).cells.toList.length with hx | hx
              · exact hx
              · rw [List.getElem?_eq_none hx] at hv; cases hv
            rw [List.getElem?_append_right (by simp; omega), List.getElem?_append_left (by simp at hj ⊢; omega)]
            rw [← hv]
            congr 1
            simp
            omega
          · rw [List.getElem?_set_ne hi] at hcc
            obtain ⟨v, hv, hr⟩ := h.2.2 i j c hcc
            refine ⟨v, ?_, hr⟩
            have hj : j < sz := by
              cases he : es[i]? with
              | none => rw [he] at hcc; cases hcc
              | some e =>
                rw [he] at hcc
                rw [← h.2.1 e (List.mem_of_getElem? he)]
                rcases Nat.lt_or_ge j e.length with hx | hx
                · exact hx
                · rw [Option.bind_some, List.getElem?_eq_none hx] at hcc; cases hcc
            rcases Nat.lt_or_gt_of_ne hi with hx | hx
            · have hm := Nat.mul_le_mul_right sz (show x.1 + 1 ≤ i from hx)
              rw [Nat.succ_mul] at hm
              rw [List.getElem?_append_right (by simp; omega), List.getElem?_append_right (by simp; omega), List.getElem?_drop, ← hv]
              have : arr[i * sz + j]? = arr.toList[i * sz + j]? := by simp
              rw [this]
              congr 1
              simp
              omega
            · have hm := Nat.mul_le_mul_right sz (show i + 1 ≤ x.1 from hx)
              rw [Nat.succ_mul] at hm
              rw [List.getElem?_append_left (by simp; omega), List.getElem?_take, if_pos (by omega), ← hv]
              simp
      simp only [List.map_cons]
      rw [hfill]
      obtain ⟨l1, l2⟩ := bsFill_sound hev ps hflat hf
      exact ⟨by simpa using l1, l2⟩
    · cases hf
theorem buildE_sound {t len : Nat} {ev : Operand → AV} {ρ : Operand → Value} (hev : ∀ x, VRel rd φ (ev x) (ρ x)) {parts : Array (Nat × Operand)} {x : Nat × List (List AV)}
    (ha : absBuildE P t len (parts.toList.map fun x => (x.1, ev x.2)) = some x) : ∃ (arr : Array Value) (T : TypeId), x.2.length = len ∧ Flat rd φ x.1 x.2 arr ∧ 1 ≤ x.1 ∧
      (Instr.buildSlice t len (parts.map fun (i, x) => (i, ρ x))).run P w = .ok (.slice (some ⟨w.heap.size, 0, none⟩) len len) (w.alloc (.cells arr T)) := by
  unfold absBuildE at ha
  obtain ⟨i, hi, ha1⟩ := Option.bind_eq_some_iff.1 ha
  obtain ⟨e, he, ha2⟩ := Option.bind_eq_some_iff.1 ha1
  obtain ⟨z, hz, ha3⟩ := Option.bind_eq_some_iff.1 ha2
  clear ha ha1 ha2
  split at ha3
  · rename_i hk hb1 hb2 hb3
    obtain ⟨es, hf, rfl⟩ := Option.map_eq_some_iff.1 ha3
    have hb1 := Nat.eq_of_beq_eq_true hb1
    have hb2 := Nat.le_of_ble_eq_true hb2
    have hb3 := Nat.le_of_ble_eq_true hb3
    have hu := ti_el_slice hi hk
    obtain ⟨inf, dsc, e1, e2, e3, e4, e5, e6, -⟩ := ti_some he
    rw [e6] at hz
    obtain ⟨zv, hzv, rfl⟩ := Option.map_eq_some_iff.1 hz
    have hzs : zv.cells.size = e.sz := by simpa using hb1
    have e0 : (parts.map fun (x : Nat × Operand) => (x.1, ρ x.2)).toList = parts.toList.map fun x => (x.1, ρ x.2) := by simp
    have hflat0 : Flat rd φ e.sz (List.replicate len (zv.cells.toList.map absC)) ((Array.range (len * e.sz)).map (zv.cells[· % zv.cells.size]!)) := by
      refine ⟨by simp, fun x hx => by rw [(List.mem_replicate.1 hx).2]; simpa using hzs, fun a b c hc => ?_⟩
      rw [List.getElem?_replicate] at hc
      split at hc
      · rename_i hlt
        simp only [Option.bind_some] at hc
        obtain ⟨u, hu, hr⟩ := (PW.absC (rd := rd) (φ := φ) zv.cells.toList).2 b c hc
        have hb : b < zv.cells.size := by
          rcases Nat.lt_or_ge b zv.cells.size with hx | hx
          · exact hx
          · rw [List.getElem?_eq_none (by simpa using hx)] at hu; cases hu
        refine ⟨u, ?_, hr⟩
        have h1 : a * e.sz + b < len * e.sz := by
          have := Nat.mul_le_mul_right e.sz (show a + 1 ≤ len from hlt)
          rw [Nat.succ_mul] at this
          omega
        have h2 : (a * e.sz + b) % zv.cells.size = b := by rw [hzs, Nat.mul_comm, Nat.mul_add_mod]; exact Nat.mod_eq_of_lt (by omega)
        have hu' : zv.cells[b]? = some u := by simpa using hu
        simp only [Array.getElem?_map, Array.getElem?_range, if_pos h1, Option.map_some, h2]
        rw [getElem!_pos zv.cells b hb]
        rw [Array.getElem?_eq_getElem hb] at hu'
        exact hu'
      · cases hc
    obtain ⟨l1, arr, l2, l3⟩ := bsFill_sound hev parts.toList hflat0 hf
    refine ⟨arr, i.el, by simpa using l1, l3, hb2, ?_⟩
    have hlim : ¬ len * e.sz > 2 ^ 24 := by omega
    by_cases hz0 : len * e.sz = 0
    · have : len = 0 := by
        rcases Nat.mul_eq_zero.1 hz0 with h | h
        · exact h
        · omega
      subst this
      have hr0 : Array.range 0 = #[] := rfl
      rw [Nat.zero_mul, hr0] at l2
      have l2' : Instr.fill (fun i => some (i * e.sz, e.sz)) #[] (parts.toList.map fun x => (x.1, ρ x.2)) = some arr := by simpa using l2
      simp [Instr.buildSlice, run_underlying hu, run_size he, newRow, hr0, l2']
    · have l2' : Instr.fill (fun i => some (i * e.sz, e.sz)) ((Array.range (len * e.sz)).map (zv.cells[· % zv.cells.size]!)) (parts.toList.map fun x => (x.1, ρ x.2)) = some arr := l2
      have hlim' : ¬ 16777216 < len * e.sz := by omega
      have hz1 : ¬ (len = 0 ∨ e.sz = 0) := fun hh => hz0 (Nat.mul_eq_zero.2 hh)
      have hz2 : (zeroValue i.el).run P w = .ok zv w := by simp [zeroValue, typeInfo, e1, hzv]
      simp only [Instr.buildSlice, Sem.run_bind, run_underlying hu, run_size he, Result.andThen_ok]
      rw [if_neg (show ¬ len * e.sz > 2 ^ 24 by omega), if_neg hz0]
      simp only [Sem.run_bind, hz2, Result.andThen_ok, Sem.run_pure, e0, l2']
      simp [newRow]
  · cases ha3

/-- A new block that is only read. -/
theorem HRel.newRo (h : HRel rd φ O w0 σ w) (arr : Array Value) (T : TypeId) : ∃ rd', Ext O w0 rd rd' ∧ HRel rd' φ O w0 σ (w.alloc (.cells arr T)) ∧ (∀ o, rd' w.heap.size o = arr[o]?) := by
  have hlt : ∀ {r g p row pl b q}, rowAt σ r g p = some row → φ r g p = some pl → pl.ad = some (b, q) → b < w.heap.size := fun h1 h2 h3 => (h.own _ _ _ _ _ _ _ h1 h2 h3).2
  have hnew : ∀ k, (w.alloc (.cells arr T)).cell? (mkA w.heap.size k) = arr[k]? := by
    intro k
    show (match (w.heap.push _)[w.heap.size]? with | some (.cells c _ _) => if (mkA w.heap.size k).spot.isSome then none else c[k]? | _ => none) = _
    rw [Array.getElem?_push_size]
    rfl
  have hno : ∀ o, rd w.heap.size o = none := fun o => by
    cases hr : rd w.heap.size o with
    | none => rfl
    | some v => exact absurd (cell_lt (w := w) (b := w.heap.size) (k := o) (by rw [h.rdok _ _ _ hr]; rfl)) (Nat.lt_irrefl _)
  refine ⟨fun b o => if b = w.heap.size then arr[o]? else rd b o, ⟨fun b o v e => ?_, fun b o hb hOb => ?_⟩, ⟨?_, h.sep, ?_, ?_, ?_, ?_, ?_, h.os, h.tape, h.output⟩, fun o => if_pos rfl⟩
  · show (if b = w.heap.size then arr[o]? else rd b o) = some v
    split
    · rename_i hb; subst hb; rw [hno] at e; cases e
    · exact e
  · refine if_neg ?_
    have := h.size
    omega
  · intro r g p row hr
    obtain ⟨pl, h1, h2⟩ := h.rows _ _ _ _ hr
    refine ⟨pl, h1, ?_⟩
    have hm := h2.of_same (w' := w.alloc (.cells arr T)) fun b q had k => ⟨cell_alloc_old (hlt hr h1 had), frozen_alloc_old (hlt hr h1 had)⟩
    exact hm.mono (fun b o v e => by
      show (if b = w.heap.size then arr[o]? else rd b o) = some v
      split
      · rename_i hb; subst hb; rw [hno] at e; cases e
      · exact e) (fun _ _ _ _ h => h)
  · intro b o v e
    replace e : (if b = w.heap.size then arr[o]? else rd b o) = some v := e
    split at e
    · rename_i hb; subst hb; rw [hnew]; exact e
    · have := h.rdok b o v e
      rw [cell_alloc_old (cell_lt (by rw [this]; rfl))]
      exact this
  · intro r g p row pl b q h1 h2 h3 k hor
    refine (if_neg (by have := hlt h1 h2 h3; omega)).trans ?_
    exact h.rdsep _ _ _ _ _ _ _ h1 h2 h3 k hor
  · intro r g p row pl b q h1 h2 h3
    rw [World.size_alloc]
    obtain ⟨ha, hb⟩ := h.own _ _ _ _ _ _ _ h1 h2 h3
    exact ⟨ha, by omega⟩
  · intro b hb hO
    rw [Below.heap_alloc _ _ _ (Nat.lt_of_lt_of_le hb h.size)]
    exact h.frame b hb hO
  · rw [World.size_alloc]; exact Nat.le_succ_of_le h.size
end
section
variable {P : Program} {rd : RD} {φ : Phi} {O : Nat → Prop} {w0 w : World} {σ : Sig} {d G : Nat}
theorem buildRo_sound (h : HRel rd φ O w0 σ w) {t len : Nat} {v : AV} {ev : Operand → AV} {ρ : Operand → Value} (hev : ∀ x, VRel rd φ (ev x) (ρ x)) {parts : Array (Nat × Operand)}
    (ha : absBuildRo P t len (parts.toList.map fun x => (x.1, ev x.2)) = some v) : ∃ cv w' rd', (Instr.buildSlice t len (parts.map fun (i, x) => (i, ρ x))).run P w = .ok cv w' ∧ Ext O w0 rd rd' ∧ HRel rd' φ O w0 σ w' ∧ VRel rd' φ v cv := by
  unfold absBuildRo at ha
  obtain ⟨x, hx, ha1⟩ := Option.bind_eq_some_iff.1 ha
  split at ha1
  · rename_i hfl
    have hfl := Nat.le_of_ble_eq_true hfl
    cases ha1
    obtain ⟨arr, T, h1, h2, h3, h4⟩ := buildE_sound (P := P) (w := w) hev hx
    obtain ⟨rd', k1, k2, k3⟩ := h.newRo arr T
    refine ⟨_, _, rd', h4, k1, k2, ?_⟩
    have hcell : ∀ i j c, (x.2[i]?).bind (·[j]?) = some c → sfc c = true ∧ ∃ v, arr[i * x.1 + j]? = some v ∧ VRel rd φ c v := by
      intro i j c hc
      refine ⟨?_, h2.2.2 i j c hc⟩
      cases he : x.2[i]? with
      | none => rw [he] at hc; cases hc
      | some e => rw [he] at hc; exact (flL_kok e (List.mem_of_getElem? he)).1 hfl c (List.mem_of_getElem? hc)
    have := VRel.ro (rd := rd') (φ := φ) x.1 x.2 w.heap.size 0 len (fun i j => (arr[i * x.1 + j]?).getD undef) (by omega) (fun i j c hc => (hcell i j c hc).1)
      (fun i j c hc => by obtain ⟨_, v, hv, _⟩ := hcell i j c hc; rw [k3, Nat.zero_add, hv]; rfl)
      (fun i j c hc => by obtain ⟨_, v, hv, hr⟩ := hcell i j c hc; rw [hv]; exact hr.mono k1.1 (fun _ _ _ _ h => h))
    rw [h1] at this
    exact this
  · cases ha1
theorem bytesOf_news : ∀ {es : List (List AV)} {l : List UInt8} {news : List Value}, bytesOf es = some l → news.length = es.length → (∀ i j c, (es[i]?).bind (·[j]?) = some c → ∃ v, news[i * 1 + j]? = some v ∧ VRel rd φ c v) →
    ∃ ns : List Int, news = ns.map (Value.int .u8) ∧ l = ns.map fun n => UInt8.ofNat n.toNat
  | [], l, news, hb, hl, h => by cases hb; exact ⟨[], by simpa using List.eq_nil_of_length_eq_zero hl, rfl⟩
  | e :: es, l, news, hb, hl, h => by
    unfold bytesOf at hb
    split at hb
    · rename_i heq; cases heq
    · rename_i n es' heq
      cases heq
      obtain ⟨l', hb', rfl⟩ := Option.map_eq_some_iff.1 hb
      cases news with
      | nil => simp at hl
      | cons v news =>
        obtain ⟨u, hu, hr⟩ := h 0 0 _ rfl
        simp only [Nat.zero_mul, Nat.add_zero, List.getElem?_cons_zero, Option.some.injEq] at hu
        subst hu
        have hv := sc_inv hr
        obtain ⟨ns, h1, h2⟩ := bytesOf_news (news := news) hb' (by simpa using hl) (fun i j c hc => by
          have := h (i + 1) j c (by simpa using hc)
          rwa [show (i + 1) * 1 + j = (i * 1 + j) + 1 by omega, List.getElem?_cons_succ] at this)
        exact ⟨n :: ns, by rw [List.map_cons, hv, h1], by rw [List.map_cons, h2]⟩
    · cases hb
theorem b2s_sound (h : HRel rd φ O w0 σ w) {s dst : Nat} (hd : tk P dst = some .string) {x v : AV} {cx : Value} (hs : tk P s = some .slice) (hx : VRel rd φ x cx) (ha : absB2S P σ s x = some v) : After0 rd φ O w0 σ v ((convert s dst cx).run P w) := by
  unfold absB2S at ha
  obtain ⟨i, hi, ha1⟩ := Option.bind_eq_some_iff.1 ha
  split at ha1
  · rename_i hel
    obtain ⟨es, hes, ha2⟩ := Option.bind_eq_some_iff.1 ha1
    obtain ⟨l, hl, rfl⟩ := Option.map_eq_some_iff.1 ha2
    have hu : P.underlying s = some (.slice i.el) := by
      obtain ⟨i', hi', hk'⟩ := ti_k hs
      rw [hi] at hi'
      cases hi'
      exact ti_el_slice hi hk'
    have he : P.underlying i.el = some (.int .u8) := by
      obtain ⟨e, he, hk⟩ := ti_k hel
      obtain ⟨dsc, h1, h2, _⟩ := ti_desc he
      rw [hk] at h2
      cases dsc <;> simp [kindOf] at h2
      rw [h1, h2]
    have hdd := tk_string hd
    obtain ⟨news, k1, k2, k3, k4, k5⟩ := srcOf_sound h hx hes
    obtain ⟨ns, m1, m2⟩ := bytesOf_news hl (by rw [k1.newsLen, Nat.mul_one]) k2
    have hform : ∃ A n cap, cx = .slice A n cap := by
      unfold srcOf at hes
      split at hes
      · cases hx; exact ⟨_, _, _, rfl⟩
      · cases hx <;> exact ⟨_, _, _, rfl⟩
      · cases hx; exact ⟨_, _, _, rfl⟩
      · rename_i hk; rw [hs] at hk; cases hk
      · cases hes
    obtain ⟨A, n, cap, rfl⟩ := hform
    have hn := k1.len w
    simp only [Builtin.lenOf, Sem.run_pure, Result.ok.injEq, and_true] at hn
    subst hn
    cases A with
    | none =>
      have hc := k1.cells
      simp only [Builtin.firstCells, Sem.run_pure, Result.ok.injEq, and_true] at hc
      have hne : news = [] := by simpa using hc.symm
      have hns : ns = [] := by rw [m1] at hne; simpa using hne
      subst hns
      refine .same h (cv := .string ByteArray.empty) (run_convert_bytes_nil w s i.el hu he _ _ dst hdd) ?_
      rw [m2]
      exact .sc _ rfl
    | some a =>
      have hc := k1.cells
      simp only [Builtin.firstCells, Nat.mul_one] at hc
      rw [m1] at hc
      have := run_bytesToString (P := P) w a _ cap ns hc
      refine .same h (cv := .string _) (by rw [run_convert_bytes_string w s dst i.el _ _ cap hu he hdd]; exact this) ?_
      rw [foldl_push_bytes, m2]
      have e : (⟨ByteArray.empty.data ++ (ns.map fun n => UInt8.ofNat n.toNat).toArray⟩ : ByteArray) = ⟨(ns.map fun n => UInt8.ofNat n.toNat).toArray⟩ := by
        congr 1
        show #[] ++ _ = _
        simp
      rw [e]
      exact .sc _ rfl
  · cases ha1
end
--P2E

end Go.Proofs.Ytkhemolkhegppaa.E
