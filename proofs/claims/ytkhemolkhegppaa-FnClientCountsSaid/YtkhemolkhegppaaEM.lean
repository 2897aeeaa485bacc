/-
  E, part M: places in slices and arrays; new slices.
-/
import Derived.Test.YtkhemolkhegppaaED
import Derived.Laws.MakeOwn
import Derived.Laws.Entries
namespace Go.Proofs.Ytkhemolkhegppaa.E
open Go Go.RowKit
set_option linter.unusedVariables false

def ifP {α : Type} (p : Prop) [Decidable p] (x : Option α) : Option α := if p then x else none
theorem ifP_pos {α : Type} {p : Prop} [Decidable p] {x : Option α} (h : p) : ifP p x = x := if_pos h
theorem ifP_some {α : Type} {p : Prop} [Decidable p] {x : Option α} {v : α} (h : ifP p x = some v) : p ∧ x = some v := by
  unfold ifP at h
  split at h
  · exact ⟨‹_›, h⟩
  · cases h

def absIndexAddr (P : Program) (σ : Sig) (t : Nat) (a ix : AV) : Option AV :=
  (ti P t).bind fun i => (ti P i.el).bind fun e => match ix with
    | .sc (.int _ z) => match i.k, a with
      | .slice, .ro sz es => match Nat.beq sz e.sz with
        | true => ifP (0 ≤ z ∧ z < es.length) ((es[z.toNat]?).map .rp)
        | false => none
      | .slice, .blk r g p sz off len => match Nat.beq sz e.sz with
        | true => (rowAt σ r g p).bind fun _ => ifP (0 ≤ z ∧ z < len) (some (.ptr r g p sz (off + z.toNat) 0))
        | false => none
      | .array, .ptr r g p sz k o => ifP (0 ≤ z ∧ z < i.n) (some (.ptr r g p sz k (o + z.toNat * e.sz)))
      | .array, .rp cs => ifP (0 ≤ z ∧ z < i.n) (some (.rp (cs.drop (z.toNat * e.sz))))
      | _, _ => none
    | _ => none
def absMake (P : Program) (d G : Nat) (σ : Sig) (t : Nat) (l c : AV) : Option (AV × Sig) :=
  (ti P t).bind fun i => (ti P i.el).bind fun e => e.zero.bind fun z => match i.k, l, c with
    | .slice, .sc (.int _ n), .sc (.int _ m) => match Nat.beq z.length e.sz, Nat.ble 1 e.sz with
      | true, true => ifP (n = m ∧ 0 ≤ n ∧ (e.bytes : Int) * n ≤ 281474976710656 ∧ n ≤ 9223372036854775807)
        (some (.blk d G [] e.sz 0 n.toNat, setA σ d (G, one ⟨e.sz, List.replicate n.toNat z, flC z, false⟩)))
      | _, _ => none
    | _, _, _ => none

section
variable {P : Program} {rd : RD} {φ : Phi} {O : Nat → Prop} {w0 w : World} {σ : Sig} {d G : Nat}

theorem ti_el_slice {t : Nat} {i : TI} (hi : ti P t = some i) (hk : i.k = .slice) : P.underlying t = some (.slice i.el) := by
  obtain ⟨dsc, h1, h2, h3, _⟩ := ti_desc hi
  rw [hk] at h2
  cases dsc <;> simp [kindOf] at h2
  rw [h1, h3]; rfl
theorem ti_el_array {t : Nat} {i : TI} (hi : ti P t = some i) (hk : i.k = .array) : P.underlying t = some (.array i.n i.el) := by
  obtain ⟨dsc, h1, h2, h3, h4⟩ := ti_desc hi
  rw [hk] at h2
  cases dsc <;> simp [kindOf] at h2
  rw [h1, h3, h4]; rfl
theorem run_size {e : Nat} {i : TI} (hi : ti P e = some i) : (sizeOf e).run P w = .ok i.sz w := by
  obtain ⟨inf, dsc, h1, h2, h3, _⟩ := ti_some hi
  simp [sizeOf, typeInfo, h1, h3]

theorem run_at_slice {t : Nat} {i e : TI} (hi : ti P t = some i) (hk : i.k = .slice) (he : ti P i.el = some e) {a : Addr} {len cap : Nat} {k : IntKind} {z : Int} (h : 0 ≤ z ∧ z < len) :
    (Instr.indexAt t (.slice (some a) len cap) (.int k z)).run P w = .ok (.pointer (some (a.add (z.toNat * e.sz)))) w := by
  have hu := ti_el_slice hi hk
  simp [Instr.indexAt, run_underlying hu, asIntOf, h.1, h.2, run_size he]
theorem run_at_array {t : Nat} {i e : TI} (hi : ti P t = some i) (hk : i.k = .array) (he : ti P i.el = some e) {a : Addr} {k : IntKind} {z : Int} (h : 0 ≤ z ∧ z < i.n) :
    (Instr.indexAt t (.pointer (some a)) (.int k z)).run P w = .ok (.pointer (some (a.add (z.toNat * e.sz)))) w := by
  have hu := ti_el_array hi hk
  simp [Instr.indexAt, run_underlying hu, asIntOf, Instr.sureAddr, h.1, h.2, run_size he]

theorem indexAddr_sound (h : HRel rd φ O w0 σ w) {t : Nat} {x y v : AV} {cx cy : Value} (hx : VRel rd φ x cx) (hy : VRel rd φ y cy) (ha : absIndexAddr P σ t x y = some v) :
    After0 rd φ O w0 σ v ((Instr.indexAt t cx cy).run P w) := by
  unfold absIndexAddr at ha
  obtain ⟨i, hi, ha1⟩ := Option.bind_eq_some_iff.1 ha
  clear ha
  obtain ⟨e, he, ha⟩ := Option.bind_eq_some_iff.1 ha1
  clear ha1
  cases y with
  | sc yv =>
    cases yv with
    | int ky z =>
      have := sc_inv hy
      subst this
      simp only at ha
      split at ha
      · rename_i sz es hk
        split at ha
        · rename_i hsz
          have hsz := Nat.eq_of_beq_eq_true hsz
          obtain ⟨hz, ha2⟩ := ifP_some ha
          obtain ⟨cs, hcs, rfl⟩ := Option.map_eq_some_iff.1 ha2
          cases hx with
          | ro0 _ A cap => simp at hz; omega
          | ro _ _ b q cap f hc hs hr hv =>
            refine .same h (run_at_slice hi hk he hz) ?_
            rw [mkA_add, ← hsz]
            exact .rp cs b _ (fun j => f z.toNat j) (fun j c hj => hs z.toNat j c (by rw [hcs]; exact hj)) (fun j c hj => hr z.toNat j c (by rw [hcs]; exact hj)) (fun j c hj => hv z.toNat j c (by rw [hcs]; exact hj))
        · cases ha
      · rename_i r g p sz off len hk
        split at ha
        · rename_i hsz
          have hsz := Nat.eq_of_beq_eq_true hsz
          obtain ⟨row, hrow, ha3⟩ := Option.bind_eq_some_iff.1 ha
          obtain ⟨hz, ha2⟩ := ifP_some ha3
          cases ha2
          cases hx with
          | blk _ _ _ _ _ _ pl A hφ hA hl =>
            obtain ⟨pl', hp', hok⟩ := h.rows _ _ _ _ hrow
            rw [hφ] at hp'
            cases hp'
            have hcap : pl.cap - off ≠ 0 := by omega
            rcases hA with hA | hA
            · exact absurd hA hcap
            · cases had : pl.ad with
              | none => exact absurd (hok.nil had) (by omega)
              | some bq =>
                obtain ⟨b, q⟩ := bq
                rw [had] at hA
                simp only [Option.map_some] at hA
                subst hA
                refine .same h (run_at_slice hi hk he hz) ?_
                rw [mkA_add, ← hsz]
                have := VRel.ptr (rd := rd) (φ := φ) r g p sz (off + z.toNat) 0 pl b q hφ had
                rwa [show q + (off + z.toNat) * sz + 0 = q + off * sz + z.toNat * sz by rw [Nat.add_mul]; omega] at this
        · cases ha
      · rename_i r g p sz k o hk
        obtain ⟨hz, ha2⟩ := ifP_some ha
        cases ha2
        cases hx with
        | ptr _ _ _ _ _ _ pl b q hφ had =>
          refine .same h (run_at_array hi hk he hz) ?_
          rw [mkA_add]
          have := VRel.ptr (rd := rd) (φ := φ) r g p sz k (o + z.toNat * e.sz) pl b q hφ had
          rwa [show q + k * sz + (o + z.toNat * e.sz) = q + k * sz + o + z.toNat * e.sz by omega] at this
      · rename_i cs hk
        obtain ⟨hz, ha2⟩ := ifP_some ha
        cases ha2
        cases hx with
        | rp _ b q f' hs hr hv =>
          refine .same h (run_at_array hi hk he hz) ?_
          rw [mkA_add]
          exact .rp _ _ _ (fun j => f' (z.toNat * e.sz + j)) (fun j c hc => by rw [List.getElem?_drop] at hc; exact hs _ _ hc) (fun j c hc => by rw [List.getElem?_drop] at hc; rw [Nat.add_assoc]; exact hr _ _ hc)
            (fun j c hc => by rw [List.getElem?_drop] at hc; exact hv _ _ hc)
      · cases ha
    | _ => cases ha
  | _ => cases ha

theorem made_get (z : Array Value) (n k i j : Nat) (hj : j < z.size) (hi : i < n) : (madeCells z (n * z.size))[i * z.size + j]? = z[j]? := by
  have h1 : i * z.size + j < n * z.size := by
    have e1 : (i + 1) * z.size ≤ n * z.size := Nat.mul_le_mul_right _ hi
    rw [Nat.succ_mul] at e1
    omega
  have h2 : (i * z.size + j) % z.size = j := by rw [Nat.mul_comm, Nat.mul_add_mod]; exact Nat.mod_eq_of_lt hj
  simp [madeCells, h1, h2, hj]

theorem make_sound (h : HRel rd φ O w0 σ w) (hfr : ∀ p, φ d G p = none) {t : Nat} {x y v : AV} {cx cy : Value} (hx : VRel rd φ x cx) (hy : VRel rd φ y cy) {σ' : Sig} (ha : absMake P d G σ t x y = some (v, σ')) :
    After rd φ O w0 d G σ' v ((Instr.makeSlice t cx cy).run P w) := by
  unfold absMake at ha
  obtain ⟨i, hi, ha1⟩ := Option.bind_eq_some_iff.1 ha
  clear ha
  obtain ⟨e, he, ha2⟩ := Option.bind_eq_some_iff.1 ha1
  clear ha1
  obtain ⟨z, hz, ha⟩ := Option.bind_eq_some_iff.1 ha2
  clear ha2
  split at ha
  · rename_i kn n km m hk
    have := sc_inv hx
    subst this
    have := sc_inv hy
    subst this
    split at ha
    · rename_i hb1 hb2
      have hb1 := Nat.eq_of_beq_eq_true hb1
      have hb2 := Nat.le_of_ble_eq_true hb2
      obtain ⟨⟨rfl, h0, h1, h2⟩, ha2⟩ := ifP_some ha
      cases ha2
      obtain ⟨inf, dsc, e1, e2, e3, e4, e5, e6, -⟩ := ti_some he
      rw [e6] at hz
      obtain ⟨zv, hzv, rfl⟩ := Option.map_eq_some_iff.1 hz
      have hzs : zv.cells.size = e.sz := by simpa using hb1
      have hrun := run_make (P := P) w t i.el inf zv (ti_el_slice hi hk) e1 hzv kn km n n h0 (Int.le_refl _) (by rw [← e4]; exact h1) h2
      rw [hrun]
      have hn := h.newRow hfr ⟨e.sz, List.replicate n.toNat (zv.cells.toList.map absC), flC (zv.cells.toList.map absC), false⟩ rfl n.toNat (madeCells zv.cells (n.toNat * inf.size)) i.el (0, 0) (.inr (Nat.le_refl _))
        (fun x hx => by rw [(List.mem_replicate.1 hx).2]; simpa using hzs) (by simp) (by rw [size_madeCells, ← e3]; exact Nat.le_refl _)
        (fun x hx => by rw [(List.mem_replicate.1 hx).2]; exact KOK.ofC _)
        (fun a b c hc => by
          rw [List.getElem?_replicate] at hc
          split at hc
          · rename_i ha
            simp only [Option.bind_some] at hc
            obtain ⟨u, hu, hr⟩ := (PW.absC (rd := rd) (φ := φ) zv.cells.toList).2 b c hc
            have hb : b < zv.cells.size := by
              rcases Nat.lt_or_ge b zv.cells.size with hx | hx
              · exact hx
              · rw [List.getElem?_eq_none (by simpa using hx)] at hu; cases hu
            refine ⟨u, ?_, hr⟩
            show (madeCells zv.cells (n.toNat * inf.size))[a * e.sz + b]? = some u
            rw [← e3, ← hzs, made_get zv.cells n.toNat 0 a b hb ha]
            simpa using hu
          · cases hc)
      refine ⟨_, _, _, rfl, hn.1, ?_, hn.2, fun r g p hh => phiSet_new r g p hh⟩
      have := VRel.blk (rd := rd) (φ := phiSet φ d G fun p => match p with | [] => some ⟨some (w.heap.size, 0), n.toNat⟩ | _ => none) d G [] e.sz 0 n.toNat ⟨some (w.heap.size, 0), n.toNat⟩ (some (mkA w.heap.size 0)) (by simp [phiSet]) (.inr (by simp)) (by simp)
      exact this
    · cases ha
  · cases ha
end

end Go.Proofs.Ytkhemolkhegppaa.E
