/-
  E, part I: small words for the simplifier.
-/
import Derived.Test.YtkhemolkhegppaaEH
namespace Go.Proofs.Ytkhemolkhegppaa.E
open Go Go.RowKit
set_option linter.unusedVariables false

def Norm (Q : Exit → St → Prop) (s : St) : Prop := Q .normal s
theorem Norm_eq {Q : Exit → St → Prop} {n : Nat} {tm : List (Nat × AV)} {σ : Sig} {G : Nat} : Norm Q ⟨n, tm, σ, G⟩ = Q .normal ⟨n, tm, σ, G⟩ := rfl
theorem bind_congr' {α β : Type} {x x' : Option α} {f : α → Option β} (h : x = x') : x.bind f = x'.bind f := by rw [h]
theorem map_congr' {α β : Type} {x x' : Option α} {f : α → β} (h : x = x') : x.map f = x'.map f := by rw [h]
theorem sub_all {len : Nat} {es : List (List AV)} (h : es.length = len) : sub 0 len es = es := by unfold sub; rw [List.drop_zero, ← h, List.take_length]
theorem ifLe_pos {α : Type} {a b : Nat} {x : Option α} (h : a ≤ b) : ifLe a b x = x := by unfold ifLe; rw [Nat.ble_eq_true_of_le h]

end Go.Proofs.Ytkhemolkhegppaa.E
