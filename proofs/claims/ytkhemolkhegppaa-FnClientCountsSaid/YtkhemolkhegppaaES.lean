/-
  E, part S: structs compared, cell by cell.
-/
import Derived.Test.YtkhemolkhegppaaEC
import Derived.Laws.StructEq
import Derived.DeepKeys
namespace Go.Proofs.Ytkhemolkhegppaa.E
open Go Go.RowKit
set_option linter.unusedVariables false
/-- The kinds of the cells of a type whose values are compared cell by cell. -/
def flatF (F : TypeId → Option (List TK)) (P : Program) (off : Nat) : List Field → Option (List TK)
  | [] => some []
  | f :: fs => match F f.type with
    | some ks => if f.name ≠ "_" ∧ f.offset = off ∧ P.cellsOf f.type = ks.length then (flatF F P (off + ks.length) fs).map (ks ++ ·) else none
    | none => none
def flatK (P : Program) : Nat → TypeId → Option (List TK)
  | 0, _ => none
  | d + 1, t => match P.underlying t with
    | some .bool => some [.bool]
    | some (.int k) => some [.int k]
    | some .string => some [.string]
    | some (.struct fs) => if P.stoodInHeld t = false then flatF (flatK P d) P 0 fs.toList else none
    | _ => none
def headK : TK → Value → Value → Option Bool
  | .bool, .bool x, .bool y => some (x == y)
  | .string, .string x, .string y => some (x.toList == y.toList)
  | .int _, .int k x, .int k' y => if k = k' then some (x == y) else none
  | _, _, _ => none
def eqK : List TK → List Value → List Value → Option Bool
  | [], [], [] => some true
  | k :: ks, x :: xs, y :: ys => (headK k x y).bind fun r => (eqK ks xs ys).map (r && ·)
  | _, _, _ => none
theorem eqK_append : ∀ {ks ks' : List TK} {xs xs' ys ys' : List Value} {a : Bool}, xs.length = ks.length → ys.length = ks.length → eqK (ks ++ ks') (xs ++ xs') (ys ++ ys') = some a → ∃ b c, eqK ks xs ys = some b ∧ eqK ks' xs' ys' = some c ∧ a = (b && c)
  | [], ks', [], xs', [], ys', a, _, _, h => ⟨true, a, rfl, h, by simp⟩
  | k :: ks, ks', x :: xs, xs', y :: ys, ys', a, h1, h2, h => by
    have h1 : xs.length = ks.length := by simpa using h1
    have h2 : ys.length = ks.length := by simpa using h2
    simp only [List.cons_append, eqK] at h ⊢
    obtain ⟨r, hr, h⟩ := Option.bind_eq_some_iff.1 h
    obtain ⟨q, hq, rfl⟩ := Option.map_eq_some_iff.1 h
    obtain ⟨b, c, e1, e2, rfl⟩ := eqK_append h1 h2 hq
    exact ⟨r && b, c, by rw [hr, e1]; rfl, e2, by rw [Bool.and_assoc]⟩
  | [], _, _ :: _, _, _, _, _, h, _, _ => by simp at h
  | [], _, [], _, _ :: _, _, _, _, h, _ => by simp at h
  | _ :: _, _, [], _, _, _, _, h, _, _ => by simp at h
  | _ :: _, _, _ :: _, _, [], _, _, _, h, _ => by simp at h
theorem eqK_len : ∀ {ks : List TK} {xs ys : List Value} {a : Bool}, eqK ks xs ys = some a → xs.length = ks.length ∧ ys.length = ks.length
  | [], [], [], _, _ => ⟨rfl, rfl⟩
  | k :: ks, x :: xs, y :: ys, a, h => by
    simp only [eqK] at h
    obtain ⟨r, hr, h⟩ := Option.bind_eq_some_iff.1 h
    obtain ⟨q, hq, rfl⟩ := Option.map_eq_some_iff.1 h
    have := eqK_len hq
    simp [this.1, this.2]
  | [], _ :: _, _, _, h => by cases h
  | [], [], _ :: _, _, h => by cases h
  | _ :: _, [], _, _, h => by cases h
  | _ :: _, _ :: _, [], _, h => by cases h
theorem eqK_one {k : TK} {xs ys : List Value} {r : Bool} (h : eqK [k] xs ys = some r) : ∃ x y, xs = [x] ∧ ys = [y] ∧ headK k x y = some r := by
  have hl := eqK_len h
  match xs, ys, hl with
  | [x], [y], _ =>
    simp only [eqK] at h
    obtain ⟨q, hq, h⟩ := Option.bind_eq_some_iff.1 h
    simp at h
    exact ⟨x, y, rfl, rfl, by rw [hq, h]⟩
/-- A type's value, of its cells. -/
def mkV (P : Program) (t : TypeId) (xs : List Value) : Value := match P.underlying t with
  | some (.struct _) => .agg xs.toArray
  | _ => xs.headD undef
theorem part_mk {P : Program} {w : World} {d : Nat} {t : TypeId} {ks : List TK} (h : flatK P d t = some ks) (hc : P.cellsOf t = ks.length) {pre xs post : List Value} (hl : xs.length = ks.length) : (part t (pre ++ xs ++ post).toArray pre.length).run P w = .ok (mkV P t xs) w := by
  cases d with
  | zero => cases h
  | succ d =>
    unfold flatK at h
    unfold mkV
    cases hu : P.underlying t with
    | none => rw [hu] at h; cases h
    | some dsc =>
      rw [hu] at h
      have one : ks.length = 1 → (part t (pre ++ xs ++ post).toArray pre.length).run P w = .ok (xs.headD undef) w ∨ dsc.isRow = true := by
        intro h1
        by_cases hr : dsc.isRow = true
        · exact .inr hr
        · refine .inl ?_
          match xs, hl.trans h1 with
          | [x], _ =>
            cases dsc <;> simp_all [part, isAgg, run_underlying hu, TypeDesc.isRow]
      cases dsc <;> simp only at h <;> first
        | (cases h; done)
        | (cases h; exact (one rfl).resolve_right (by simp [TypeDesc.isRow]))
        | skip
      obtain ⟨i, hi⟩ := info_of_underlying hu
      have he : (pre ++ xs ++ post).toArray.extract pre.length (pre.length + P.cellsOf t) = xs.toArray := by
        rw [← Array.toList_inj, Array.toList_extract, hc, ← hl]
        simp [List.extract]
      simp [part, isAgg, run_underlying hu, run_sizeOf w hi]
      simpa using he
/-- Comparison, at whatever depth is enough. -/
def EqD (P : Program) (d : Nat) (t : TypeId) (ks : List TK) : Prop := ∀ (D : Nat), d ≤ D → ∀ (w : World) (xs ys : List Value) (r : Bool), eqK ks xs ys = some r → (Op.equalIn D t (mkV P t xs) (mkV P t ys)).run P w = .ok r w
theorem eqF_sound {P : Program} {d D : Nat} (IH : ∀ t ks, flatK P d t = some ks → EqD P d t ks) (hd : d ≤ D) : ∀ (fs : List Field) (off : Nat) (ks : List TK), flatF (flatK P d) P off fs = some ks → ∀ (w : World) (pre pre' xs ys : List Value) (r : Bool), pre.length = off → pre'.length = off → eqK ks xs ys = some r →
    (Op.eqFields D (pre ++ xs).toArray (pre' ++ ys).toArray fs).run P w = .ok r w
  | [], off, ks, h, w, pre, pre', xs, ys, r, h1, h2, he => by
    cases h
    match xs, ys, he with
    | [], [], he => cases he; rfl
  | f :: fs, off, ks, h, w, pre, pre', xs, ys, r, h1, h2, he => by
    simp only [flatF] at h
    split at h
    · rename_i k1 hk1
      split at h
      · rename_i hc
        obtain ⟨hn, ho, hcs⟩ := hc
        obtain ⟨k2, hk2, rfl⟩ := Option.map_eq_some_iff.1 h
        have hlen := eqK_len he
        rw [List.length_append] at hlen
        have ex : xs = xs.take k1.length ++ xs.drop k1.length := (List.take_append_drop _ _).symm
        have ey : ys = ys.take k1.length ++ ys.drop k1.length := (List.take_append_drop _ _).symm
        have lx : (xs.take k1.length).length = k1.length := by rw [List.length_take]; omega
        have ly : (ys.take k1.length).length = k1.length := by rw [List.length_take]; omega
        rw [ex, ey] at he
        obtain ⟨b, c, e1, e2, rfl⟩ := eqK_append lx ly he
        have p1 := part_mk (P := P) (w := w) hk1 hcs (pre := pre) (xs := xs.take k1.length) (post := xs.drop k1.length) lx
        have p2 := part_mk (P := P) (w := w) hk1 hcs (pre := pre') (xs := ys.take k1.length) (post := ys.drop k1.length) ly
        have q := IH _ _ hk1 D hd w _ _ b e1
        rw [List.append_assoc, ← ex, h1] at p1
        rw [List.append_assoc, ← ey, h2] at p2
        simp only [Op.eqFields]
        rw [if_pos hn, ho]
        simp only [Sem.run_bind, p1, p2, q, Result.andThen_ok]
        cases b with
        | false => simp
        | true =>
          have rc := eqF_sound IH hd fs (off + k1.length) k2 hk2 w (pre ++ xs.take k1.length) (pre' ++ ys.take k1.length) (xs.drop k1.length) (ys.drop k1.length) c (by rw [List.length_append, h1, lx]) (by rw [List.length_append, h2, ly]) e2
          rw [List.append_assoc, ← ex, List.append_assoc, ← ey] at rc
          simpa using rc
      · cases h
    · cases h
theorem eqD_sound {P : Program} : ∀ (d : Nat) (t : TypeId) (ks : List TK), flatK P d t = some ks → EqD P d t ks
  | 0, t, ks, h => by cases h
  | d + 1, t, ks, h => by
    intro D hD w xs ys r he
    obtain ⟨D', rfl⟩ : ∃ D', D = D' + 1 := ⟨D - 1, by omega⟩
    unfold flatK at h
    unfold mkV
    cases hu : P.underlying t with
    | none => rw [hu] at h; cases h
    | some dsc =>
      rw [hu] at h
      cases dsc <;> simp only at h <;> first
        | (cases h; done)
        | skip
      case bool =>
        cases h
        obtain ⟨x, y, rfl, rfl, hh⟩ := eqK_one he
        cases x <;> (try (simp [headK] at hh; done)) <;> cases y <;> (try (simp [headK] at hh; done))
        simp only [headK, Option.some.injEq] at hh
        subst hh
        simp [run_equalIn_bool' w D' t _ _ hu]
      case int k =>
        cases h
        obtain ⟨x, y, rfl, rfl, hh⟩ := eqK_one he
        cases x <;> (try (simp [headK] at hh; done)) <;> cases y <;> (try (simp [headK] at hh; done))
        simp only [headK] at hh
        split at hh
        · rename_i hk
          subst hk
          cases hh
          simp [run_equalIn_int w D' t _ k _ _ hu]
        · cases hh
      case string =>
        cases h
        obtain ⟨x, y, rfl, rfl, hh⟩ := eqK_one he
        cases x <;> (try (simp [headK] at hh; done)) <;> cases y <;> (try (simp [headK] at hh; done))
        simp only [headK, Option.some.injEq] at hh
        subst hh
        simp [run_equalIn_string w D' t _ _ hu]
      case struct fs =>
        split at h
        · rename_i hp
          have hf : P.fieldsOf t = fs := by simp [Program.fieldsOf, hu]
          have key := run_equalIn_struct (P := P) w D' t xs.toArray ys.toArray (by rw [hf]; exact hu) hp
          simp only
          rw [key, hf]
          exact eqF_sound (eqD_sound d) (by omega) fs.toList 0 ks h w [] [] xs ys r rfl rfl he
        · cases h
/-- .. of what is known of them. -/
def eqA : List TK → List AV → List AV → Option Bool
  | [], [], [] => some true
  | k :: ks, .sc x :: xs, .sc y :: ys => (headK k x y).bind fun r => (eqA ks xs ys).map (r && ·)
  | _, _, _ => none
theorem eqA_vals {rd : RD} {φ : Phi} : ∀ {ks : List TK} {xs ys : List AV} {vx vy : List Value} {r : Bool}, PW rd φ xs vx → PW rd φ ys vy → eqA ks xs ys = some r → eqK ks vx vy = some r
  | [], [], [], vx, vy, r, hx, hy, h => by
    have e1 : vx = [] := List.eq_nil_of_length_eq_zero hx.1.symm
    have e2 : vy = [] := List.eq_nil_of_length_eq_zero hy.1.symm
    subst e1; subst e2
    exact h
  | k :: ks, .sc x :: xs, .sc y :: ys, vx, vy, r, hx, hy, h => by
    obtain ⟨v, vs, rfl, h1, hx'⟩ := hx.uncons
    obtain ⟨u, us, rfl, h2, hy'⟩ := hy.uncons
    clear hx hy
    simp only [eqA] at h
    obtain ⟨q, hq, h⟩ := Option.bind_eq_some_iff.1 h
    obtain ⟨z, hz, rfl⟩ := Option.map_eq_some_iff.1 h
    cases h1
    cases h2
    simp only [eqK, hq, Option.bind_some, eqA_vals hx' hy' hz, Option.map_some]
def eqTy (P : Program) (t : TypeId) : Option (List TK) := match P.underlying t with
  | some (.struct _) => if P.eqGuardType P.depth t = false then flatK P 8 t else none
  | _ => none
theorem eqTy_sound {P : Program} {t : TypeId} {ks : List TK} (h : eqTy P t = some ks) {xs ys : List Value} {r : Bool} (he : eqK ks xs ys = some r) (w : World) : (Op.equal t (.agg xs.toArray) (.agg ys.toArray)).run P w = .ok r w ∧ P.eqGuardType P.depth t = false := by
  unfold eqTy at h
  split at h
  · rename_i fs hu
    split at h
    · rename_i hg
      refine ⟨?_, hg⟩
      have key := eqD_sound 8 t ks h 10000 (by omega) w xs ys r he
      unfold mkV at key
      rw [hu] at key
      exact key
    · cases h
  · cases h
end Go.Proofs.Ytkhemolkhegppaa.E
