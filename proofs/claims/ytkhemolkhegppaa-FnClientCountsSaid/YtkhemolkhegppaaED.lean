/-
  E, part D: operations on numbers, strings and values that lie in no memory.
-/
import Derived.Test.YtkhemolkhegppaaES
namespace Go.Proofs.Ytkhemolkhegppaa.E
open Go Go.RowKit
set_option linter.unusedVariables false

def tk (P : Program) (t : Nat) : Option TK := (ti P t).map fun i => i.k

def andI (k : IntKind) (x y : Int) : Int := k.wrap (BitVec.ofInt k.bits x &&& BitVec.ofInt k.bits y).toNat
def orI (k : IntKind) (x y : Int) : Int := k.wrap (BitVec.ofInt k.bits x ||| BitVec.ofInt k.bits y).toNat
def notI (k : IntKind) (x : Int) : Int := k.wrap (BitVec.ofInt k.bits (if k.signed then -1 else k.max) ^^^ BitVec.ofInt k.bits x).toNat
def xorI (k : IntKind) (x y : Int) : Int := k.wrap (BitVec.ofInt k.bits x ^^^ BitVec.ofInt k.bits y).toNat
def absInt (op : BinOp) (k : IntKind) (x y : Int) : Option Value :=
  match op with
  | .add => some (.int k (k.wrap (x + y)))
  | .sub => some (.int k (k.wrap (x - y)))
  | .mul => some (.int k (k.wrap (x * y)))
  | .quo => match decide (y = 0) with | true => none | false => some (.int k (k.wrap (x.tdiv y)))
  | .rem => match decide (y = 0) with | true => none | false => some (.int k (x.tmod y))
  | .and => some (.int k (andI k x y))
  | .or => some (.int k (orI k x y))
  | .xor => some (.int k (xorI k x y))
  | .andNot => some (.int k (k.wrap (BitVec.ofInt k.bits x &&& ~~~BitVec.ofInt k.bits y).toNat))
  | .eql => some (.bool (x == y))
  | .neq => some (.bool (x != y))
  | .lss => some (.bool (decide (x < y)))
  | .leq => some (.bool (decide (x ≤ y)))
  | .gtr => some (.bool (decide (x > y)))
  | .geq => some (.bool (decide (x ≥ y)))
  | _ => none
def absShift (op : BinOp) (k : IntKind) (x y : Int) : Option Value :=
  match decide (y < 0), op with
  | false, .shl => some (.int k (k.wrap (x * 2 ^ (min y.toNat k.bits))))
  | false, .shr => some (.int k (x.fdiv (2 ^ (min y.toNat k.bits))))
  | _, _ => none
def absStr (op : BinOp) (x y : ByteArray) : Option Value :=
  match op with
  | .add => match decide (((x.size + y.size : Nat) : Int) > 9223372036854775807) with | true => none | false => some (.string (x ++ y))
  | .eql => some (.bool (x.toList == y.toList))
  | .neq => some (.bool (!(x.toList == y.toList)))
  | _ => none
def isShift : BinOp → Bool
  | .shl | .shr => true
  | _ => false
/-- Operations of two operands, but for '==' of structs. -/
def absBin (P : Program) (op : BinOp) (t : Nat) (a b : AV) : Option AV :=
  match a, b with
  | .sc (.int k x), .sc (.int k' y) => match isShift op with
    | true => (absShift op k x y).map .sc
    | false => match decide (k = k') with
      | true => (absInt op k x y).map .sc
      | false => none
  | .sc (.string x), .sc (.string y) => (absStr op x y).map .sc
  | .sc (.bool x), .sc (.bool y) => match op, tk P t with
    | .eql, some .bool => some (.sc (.bool (x == y)))
    | .neq, some .bool => some (.sc (.bool (!(x == y))))
    | _, _ => none
  | .agg xs, .agg ys => match op, eqTy P t with
    | .eql, some ks => (eqA ks xs ys).map fun r => .sc (.bool r)
    | .neq, some ks => (eqA ks xs ys).map fun r => .sc (.bool (!r))
    | _, _ => none
  | _, _ => none
def absUn (op : UnOp) (a : AV) : Option AV :=
  match op, a with
  | .not, .sc (.bool b) => some (.sc (.bool (!b)))
  | .neg, .sc (.int k n) => some (.sc (.int k (k.wrap (0 - n))))
  | .xor, .sc (.int k n) => some (.sc (.int k (notI k n)))
  | _, _ => none
def absConv (P : Program) (src dst : Nat) (a : AV) : Option AV :=
  match tk P src, tk P dst, a with
  | some _, some (.int k), .sc (.int _ n) => some (.sc (.int k (k.wrap n)))
  | some _, some .string, .sc (.string s) => some (.sc (.string s))
  | _, _, _ => none
def absExtract (a : AV) (i : Nat) : Option AV :=
  match a with
  | .tup vs => vs[i]?
  | _ => none
def absNilCheck (a : AV) : Option AV :=
  match a with
  | .ptr r g p sz i o => some (.ptr r g p sz i o)
  | .rp cs => some (.rp cs)
  | _ => none
def absPick (c a b : AV) : Option AV :=
  match c with
  | .sc (.bool true) => some a
  | .sc (.bool false) => some b
  | _ => none
def absLen (P : Program) (t : Nat) (a : AV) : Option AV :=
  match tk P t, a with
  | some .string, .sc (.string s) => some (.sc (.int .i64 s.size))
  | some .slice, .nilS => some (.sc (.int .i64 0))
  | some .slice, .blk _ _ _ _ _ len => some (.sc (.int .i64 len))
  | some .slice, .ro _ es => some (.sc (.int .i64 es.length))
  | some .array, _ => (ti P t).map fun i => .sc (.int .i64 i.n)
  | _, _ => none

section
variable {P : Program} {rd : RD} {φ : Phi} {O : Nat → Prop} {w0 w : World} {σ : Sig} {d G : Nat}

theorem ti_k {t : Nat} {k : TK} (h : tk P t = some k) : ∃ i, ti P t = some i ∧ i.k = k := by
  unfold tk at h
  cases hi : ti P t with
  | none => rw [hi] at h; cases h
  | some i => rw [hi] at h; exact ⟨i, rfl, Option.some.inj h⟩
theorem ti_desc {t : Nat} {i : TI} (h : ti P t = some i) : ∃ dsc, P.underlying t = some dsc ∧ i.k = kindOf dsc ∧ i.el = elOf dsc ∧ i.n = lenOfD dsc := by
  obtain ⟨inf, dsc, h1, h2, h3, h4, h5, h6, h7, h8, h9, h10⟩ := ti_some h
  exact ⟨dsc, h2, h10, h8, h9⟩

theorem sc_inv {v v' : Value} (h : VRel rd φ (.sc v) v') : v' = v := by cases h; rfl

theorem absInt_sound {op : BinOp} {k : IntKind} {x y : Int} {v : Value} (hs : isShift op = false) (h : absInt op k x y = some v) :
    (binOp op 0 (.int k x) (.int k y)).run P w = .ok v w ∧ scal v = true := by
  cases op <;> simp only [absInt, isShift] at h hs <;> first
    | (cases hs; done)
    | (cases h; done)
    | (cases h; exact ⟨by simp only [binOp, ne_eq, not_true_eq_false, if_false]; rfl, rfl⟩)
    | (split at h
       · cases h
       · rename_i hy
         cases h
         have hy := of_decide_eq_false hy
         exact ⟨by simp only [binOp, ne_eq, not_true_eq_false, if_false, Op.intDiv, hy]; rfl, rfl⟩)

theorem binOp_int_t {op : BinOp} {t t' : TypeId} {k : IntKind} {x y : Int} : binOp op t (.int k x) (.int k y) = binOp op t' (.int k x) (.int k y) := by
  cases op <;> rfl

theorem bin_sound (h : HRel rd φ O w0 σ w) {op : BinOp} {t : Nat} {x y v : AV} {ox oy : Operand} {cx cy : Value} (hx : VRel rd φ x cx) (hy : VRel rd φ y cy) (ha : absBin P op t x y = some v) :
    After0 rd φ O w0 σ v ((do eqGuard op t ox oy cx cy; binOp op t cx cy : Sem Value).run P w) := by
  unfold absBin at ha
  split at ha
  · rename_i k x k' y
    cases sc_inv hx
    cases sc_inv hy
    have hg : (eqGuard op t ox oy (.int k x) (.int k' y)).run P w = .ok () w := by
      unfold eqGuard; cases op <;> rfl
    split at ha
    · rename_i hs
      obtain ⟨u, hu, rfl⟩ := Option.map_eq_some_iff.1 ha
      unfold absShift at hu
      split at hu
      · have hy := of_decide_eq_false ‹decide _ = false›
        cases hu
        exact .same h (cv := .int k (k.wrap (x * 2 ^ (min y.toNat k.bits)))) (by rw [Sem.run_bind, hg]; simp [binOp, Op.shift, hy]) (.sc _ rfl)
      · have hy := of_decide_eq_false ‹decide _ = false›
        cases hu
        exact .same h (cv := .int k (x.fdiv (2 ^ (min y.toNat k.bits)))) (by rw [Sem.run_bind, hg]; simp [binOp, Op.shift, hy]) (.sc _ rfl)
      · cases hu
    · rename_i hs
      split at ha
      · rename_i hk
        have hk := of_decide_eq_true hk
        subst hk
        obtain ⟨u, hu, rfl⟩ := Option.map_eq_some_iff.1 ha
        obtain ⟨h1, h2⟩ := absInt_sound (P := P) (w := w) hs hu
        refine .same h (cv := u) ?_ (.sc _ h2)
        rw [Sem.run_bind, hg, Result.andThen_ok, binOp_int_t (t' := 0)]
        exact h1
      · cases ha
  · rename_i x y
    cases sc_inv hx
    cases sc_inv hy
    have hg : (eqGuard op t ox oy (.string x) (.string y)).run P w = .ok () w := by
      unfold eqGuard; cases op <;> rfl
    obtain ⟨u, hu, rfl⟩ := Option.map_eq_some_iff.1 ha
    have key : (binOp op t (.string x) (.string y)).run P w = .ok u w ∧ scal u = true := by
      cases op <;> simp only [absStr] at hu <;> first
        | (cases hu; done)
        | (cases hu; exact ⟨by simp [binOp, Op.stringOp], rfl⟩)
        | (split at hu
           · cases hu
           · rename_i hy
             cases hu
             have hy := of_decide_eq_false hy
             have hy2 : ¬ ((x.size + y.size : Nat) : Int) > IntKind.i64.max := by simpa [IntKind.max, IntKind.bits, IntKind.signed] using hy
             exact ⟨by simp only [binOp, Op.stringOp]; rw [if_neg hy2]; rfl, rfl⟩)
    exact .same h (cv := u) (by rw [Sem.run_bind, hg]; exact key.1) (.sc _ key.2)
  · rename_i x y
    cases sc_inv hx
    cases sc_inv hy
    have hg : (eqGuard op t ox oy (.bool x) (.bool y)).run P w = .ok () w := by
      unfold eqGuard; cases op <;> rfl
    have hrun : ∀ i, ti P t = some i → i.k = .bool → (Op.equal t (.bool x) (.bool y)).run P w = .ok (x == y) w := by
      intro i hi hk
      obtain ⟨dsc, h1, h2, -⟩ := ti_desc hi
      rw [hk] at h2
      cases dsc <;> simp [kindOf] at h2
      have key : ∀ n, (Op.equalIn (n + 1) t (.bool x) (.bool y)).run P w = .ok (x == y) w := by
        intro n
        simp only [Op.equalIn, Sem.run_bind, run_underlying h1 w, Result.andThen_ok]
        rfl
      exact key 9999
    split at ha
    · obtain ⟨i, hi, hk⟩ := ti_k ‹_›
      cases ha
      exact .same h (cv := .bool (x == y)) (by rw [Sem.run_bind, hg]; simp [binOp, hrun i hi hk]) (.sc _ rfl)
    · obtain ⟨i, hi, hk⟩ := ti_k ‹_›
      cases ha
      exact .same h (cv := .bool (!(x == y))) (by rw [Sem.run_bind, hg]; simp [binOp, hrun i hi hk]) (.sc _ rfl)
    · cases ha
  · rename_i xs ys
    obtain ⟨ax, rfl, px⟩ := PW.of_agg hx
    obtain ⟨ay, rfl, py⟩ := PW.of_agg hy
    have hg : P.eqGuardType P.depth t = false → (eqGuard op t ox oy (.agg ax) (.agg ay)).run P w = .ok () w := by
      intro hq
      unfold eqGuard
      cases op <;> simp [hq]
    split at ha
    · rename_i ks hks
      obtain ⟨r, hr, rfl⟩ := Option.map_eq_some_iff.1 ha
      obtain ⟨k1, k2⟩ := eqTy_sound hks (eqA_vals px py hr) w
      exact .same h (cv := .bool r) (by
        have k3 : (Op.equal t (.agg ax) (.agg ay)).run P w = .ok r w := by simpa using k1
        rw [Sem.run_bind, hg k2]
        simp [binOp, k3]) (.sc _ rfl)
    · rename_i ks hks
      obtain ⟨r, hr, rfl⟩ := Option.map_eq_some_iff.1 ha
      obtain ⟨k1, k2⟩ := eqTy_sound hks (eqA_vals px py hr) w
      exact .same h (cv := .bool (!r)) (by
        have k3 : (Op.equal t (.agg ax) (.agg ay)).run P w = .ok r w := by simpa using k1
        rw [Sem.run_bind, hg k2]
        simp [binOp, k3]) (.sc _ rfl)
    · cases ha
  · cases ha

theorem un_sound (h : HRel rd φ O w0 σ w) {op : UnOp} {x v : AV} {cx : Value} (hx : VRel rd φ x cx) (ha : absUn op x = some v) :
    After0 rd φ O w0 σ v ((Op.unary op cx).run P w) := by
  unfold absUn at ha
  split at ha
  · cases sc_inv hx
    cases ha
    exact .same h (by simp [Op.unary]) (.sc _ rfl)
  · cases sc_inv hx
    cases ha
    exact .same h (by simp only [Op.unary, Op.intArith]; rfl) (.sc _ rfl)
  · cases sc_inv hx
    cases ha
    exact .same h (by simp only [Op.unary, Op.intBits]; rfl) (.sc _ rfl)
  · cases ha

theorem conv_sound (h : HRel rd φ O w0 σ w) {src dst : Nat} {x v : AV} {cx : Value} (hx : VRel rd φ x cx) (ha : absConv P src dst x = some v) :
    After0 rd φ O w0 σ v ((convert src dst cx).run P w) := by
  unfold absConv at ha
  split at ha
  · obtain ⟨i, hi, hk⟩ := ti_k ‹tk P dst = _›
    obtain ⟨j, hj, -⟩ := ti_k ‹tk P src = _›
    obtain ⟨dsc, h1, h2, -⟩ := ti_desc hi
    obtain ⟨dsc', h1', -⟩ := ti_desc hj
    rw [hk] at h2
    cases dsc <;> simp [kindOf] at h2
    subst h2
    cases sc_inv hx
    cases ha
    refine .same h (cv := .int _ _) ?_ (.sc _ rfl)
    unfold convert
    simp only [Sem.run_bind, run_underlying h1 w, run_underlying h1' w, Result.andThen_ok]
    rfl
  · obtain ⟨i, hi, hk⟩ := ti_k ‹tk P dst = _›
    obtain ⟨j, hj, -⟩ := ti_k ‹tk P src = _›
    obtain ⟨dsc, h1, h2, -⟩ := ti_desc hi
    obtain ⟨dsc', h1', -⟩ := ti_desc hj
    rw [hk] at h2
    cases dsc <;> simp [kindOf] at h2
    cases sc_inv hx
    cases ha
    refine .same h (cv := .string _) ?_ (.sc _ rfl)
    unfold convert
    simp only [Sem.run_bind, run_underlying h1 w, run_underlying h1' w, Result.andThen_ok]
    cases dsc' <;> rfl
  · cases ha

theorem extract_sound (h : HRel rd φ O w0 σ w) {x v : AV} {cx : Value} (hx : VRel rd φ x cx) {i : Nat} (ha : absExtract x i = some v) :
    After0 rd φ O w0 σ v ((Instr.extract cx i).run P w) := by
  unfold absExtract at ha
  split at ha
  · obtain ⟨arr, rfl, hp⟩ := PW.of_tup hx
    obtain ⟨u, hu, hr⟩ := hp.2 _ _ ha
    have hu' : arr[i]? = some u := by simpa using hu
    exact .same h (by simp [Instr.extract, hu']) hr
  · cases ha

theorem len_sound (h : HRel rd φ O w0 σ w) {t : Nat} {x v : AV} {cx : Value} (hx : VRel rd φ x cx) (ha : absLen P t x = some v) (ts : Array Nat) (ht : ts[0]? = some t) (T : TypeId) (args : Array Value) (hargs : args[0]? = some cx) :
    After0 rd φ O w0 σ v ((Builtin.len_ ts T args).run P w) := by
  unfold absLen at ha
  split at ha
  · obtain ⟨i, hi, hk⟩ := ti_k ‹tk P t = _›
    obtain ⟨dsc, h1, h2, -⟩ := ti_desc hi
    rw [hk] at h2
    cases dsc <;> simp [kindOf] at h2
    cases sc_inv hx
    cases ha
    exact .same h (cv := .int .i64 _) (by simp only [Builtin.len_, ht, hargs, Sem.run_bind, run_underlying h1 w, Result.andThen_ok]; rfl) (.sc _ rfl)
  · obtain ⟨i, hi, hk⟩ := ti_k ‹tk P t = _›
    obtain ⟨dsc, h1, h2, -⟩ := ti_desc hi
    rw [hk] at h2
    cases dsc <;> simp [kindOf] at h2
    cases hx
    cases ha
    exact .same h (cv := .int .i64 0) (by simp only [Builtin.len_, ht, hargs, Sem.run_bind, run_underlying h1 w, Result.andThen_ok]; rfl) (.sc _ rfl)
  · obtain ⟨i, hi, hk⟩ := ti_k ‹tk P t = _›
    obtain ⟨dsc, h1, h2, -⟩ := ti_desc hi
    rw [hk] at h2
    cases dsc <;> simp [kindOf] at h2
    cases hx
    cases ha
    exact .same h (cv := .int .i64 _) (by simp only [Builtin.len_, ht, hargs, Sem.run_bind, run_underlying h1 w, Result.andThen_ok]; rfl) (.sc _ rfl)
  · obtain ⟨i, hi, hk⟩ := ti_k ‹tk P t = _›
    obtain ⟨dsc, h1, h2, -⟩ := ti_desc hi
    rw [hk] at h2
    cases dsc <;> simp [kindOf] at h2
    cases ha
    cases hx with
    | ro0 sz A cap => exact .same h (cv := .int .i64 0) (by simp only [Builtin.len_, ht, hargs, Sem.run_bind, run_underlying h1 w, Result.andThen_ok]; rfl) (.sc _ rfl)
    | ro sz es b q cap f hc hs hr hv => exact .same h (cv := .int .i64 _) (by simp only [Builtin.len_, ht, hargs, Sem.run_bind, run_underlying h1 w, Result.andThen_ok]; rfl) (.sc _ rfl)
  · obtain ⟨i, hi, hk⟩ := ti_k ‹tk P t = _›
    obtain ⟨dsc, h1, h2, -, h4⟩ := ti_desc hi
    rw [hk] at h2
    rw [hi] at ha
    cases dsc <;> simp [kindOf] at h2
    cases ha
    simp only [h4]
    exact .same h (cv := .int .i64 _) (by simp only [Builtin.len_, ht, hargs, Sem.run_bind, run_underlying h1 w, Result.andThen_ok]; rfl) (.sc _ rfl)
  · cases ha
end

end Go.Proofs.Ytkhemolkhegppaa.E
