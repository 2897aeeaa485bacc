/-
  No cell of these rows narrows 'for every input' (looked for: loops, veiled, ifaces, maps, wideKeys, modest, calm, conditions, laid).
  DERIVED. THE GIVEN ROWS OF THIS SEAT. 4 by the template 'for every input the law returns true; each argument reads behind the call as it read before'; 0 by the template 'total and deterministic' (their statements: YtbamamgeamnmnaaTotals.lean).
  GIVEN WITH THE SEED: the statements are not yours to turn. If you find one false, say at which input.
  Laid BY PROGRAM, IN A SANDBOX (cutbox-rows.mjs): the forced cells as the released guide's own fill.sh prints them over the translation 57b9ed3d3c13a71c… (all of the seat's roots in one cut). By AI agents, Wed Nov 11 2026. No macro, syntax, notation, axiom, sorry.
-/
import Derived.Test.YtbamamgeamnmnaaChecked
import GoSem.Claim
import GoSem.ClaimJoined
import GoSem.ClaimMapViews
import Derived.JoinedTies
import Derived.KernelRfl
namespace Go.Proofs.Ytbamamgeamnmnaa
/- THE CELL 'sum', in the pinned program and in every row, IS THE sha256 OF THE DUMP (.gsa) THAT YtbamamgeamnmnaaProg.lean LOADS. Nothing in Lean hashes anything: it is a label: what it is worth is what the hold of that sum in a sandbox is worth. -/
noncomputable def Try.pinned : Pinned := { name := "ytbamamgeamnmnaa", sum := "57b9ed3d3c13a71c385f39a5306cdc663e4a18d9fc37d2e357e4fac49270c86e", checked := Try.checked }
namespace Rows
def none {H : Type} : Left H := { results := [], args := [] }

/-- 'laws.FnExactQuietRoom': WHATEVER THE INPUT: true; the input reads as it did. -/
def fnExactQuietRoomSpec : ChangeSpec := { name := "fnExactQuietRoom", fn := fun _ => fun
  | [d] => { results := [.lit (.bool true)], args := [d] }
  | _ => none }
def fnExactQuietRoomRow : OpenClaim := { program := "ytbamamgeamnmnaa", sum := "57b9ed3d3c13a71c385f39a5306cdc663e4a18d9fc37d2e357e4fac49270c86e", func := "loop.example/belfry/laws.FnExactQuietRoom", spec := "fnExactQuietRoom", apart := false }
def FnExactQuietRoomSaid : Prop := fnExactQuietRoomRow.holds Try.pinned (OpenSpec.ofChange fnExactQuietRoomSpec)

/-- ITS FALSE NEIGHBOUR: 'it returns false'. Refute it at one input. -/
def fnExactQuietRoomWrong : ChangeSpec := { name := "fnExactQuietRoom", fn := fun _ => fun
  | [d] => { results := [.lit (.bool false)], args := [d] }
  | _ => none }
def FnExactQuietRoomWrongFalsely : Prop := fnExactQuietRoomRow.holds Try.pinned (OpenSpec.ofChange fnExactQuietRoomWrong)

/-- 'laws.FnExactQuietHonest': WHATEVER THE INPUT: true; the input reads as it did. -/
def fnExactQuietHonestSpec : ChangeSpec := { name := "fnExactQuietHonest", fn := fun _ => fun
  | [d] => { results := [.lit (.bool true)], args := [d] }
  | _ => none }
def fnExactQuietHonestRow : OpenClaim := { program := "ytbamamgeamnmnaa", sum := "57b9ed3d3c13a71c385f39a5306cdc663e4a18d9fc37d2e357e4fac49270c86e", func := "loop.example/belfry/laws.FnExactQuietHonest", spec := "fnExactQuietHonest", apart := false }
def FnExactQuietHonestSaid : Prop := fnExactQuietHonestRow.holds Try.pinned (OpenSpec.ofChange fnExactQuietHonestSpec)

/-- ITS FALSE NEIGHBOUR: 'it returns false'. Refute it at one input. -/
def fnExactQuietHonestWrong : ChangeSpec := { name := "fnExactQuietHonest", fn := fun _ => fun
  | [d] => { results := [.lit (.bool false)], args := [d] }
  | _ => none }
def FnExactQuietHonestWrongFalsely : Prop := fnExactQuietHonestRow.holds Try.pinned (OpenSpec.ofChange fnExactQuietHonestWrong)

/-- 'laws.FnExactQuietSteps': WHATEVER THE INPUT: true; the input reads as it did. -/
def fnExactQuietStepsSpec : ChangeSpec := { name := "fnExactQuietSteps", fn := fun _ => fun
  | [d] => { results := [.lit (.bool true)], args := [d] }
  | _ => none }
def fnExactQuietStepsRow : OpenClaim := { program := "ytbamamgeamnmnaa", sum := "57b9ed3d3c13a71c385f39a5306cdc663e4a18d9fc37d2e357e4fac49270c86e", func := "loop.example/belfry/laws.FnExactQuietSteps", spec := "fnExactQuietSteps", apart := false }
def FnExactQuietStepsSaid : Prop := fnExactQuietStepsRow.holds Try.pinned (OpenSpec.ofChange fnExactQuietStepsSpec)

/-- ITS FALSE NEIGHBOUR: 'it returns false'. Refute it at one input. -/
def fnExactQuietStepsWrong : ChangeSpec := { name := "fnExactQuietSteps", fn := fun _ => fun
  | [d] => { results := [.lit (.bool false)], args := [d] }
  | _ => none }
def FnExactQuietStepsWrongFalsely : Prop := fnExactQuietStepsRow.holds Try.pinned (OpenSpec.ofChange fnExactQuietStepsWrong)

/-- 'laws.FnExactCoverSteps': WHATEVER THE INPUT: true; the input reads as it did. -/
def fnExactCoverStepsSpec : ChangeSpec := { name := "fnExactCoverSteps", fn := fun _ => fun
  | [d1, d2] => { results := [.lit (.bool true)], args := [d1, d2] }
  | _ => none }
def fnExactCoverStepsRow : OpenClaim := { program := "ytbamamgeamnmnaa", sum := "57b9ed3d3c13a71c385f39a5306cdc663e4a18d9fc37d2e357e4fac49270c86e", func := "loop.example/belfry/laws.FnExactCoverSteps", spec := "fnExactCoverSteps", apart := false }
def FnExactCoverStepsSaid : Prop := fnExactCoverStepsRow.holds Try.pinned (OpenSpec.ofChange fnExactCoverStepsSpec)

/-- ITS FALSE NEIGHBOUR: 'it returns false'. Refute it at one input. -/
def fnExactCoverStepsWrong : ChangeSpec := { name := "fnExactCoverSteps", fn := fun _ => fun
  | [d1, d2] => { results := [.lit (.bool false)], args := [d1, d2] }
  | _ => none }
def FnExactCoverStepsWrongFalsely : Prop := fnExactCoverStepsRow.holds Try.pinned (OpenSpec.ofChange fnExactCoverStepsWrong)

/- THE SECOND FORM. 'bulk': how many values and letters a reading holds, each counted each time it is reached (what is shared counts as often as it is met; a slice's spare places count too). A statement '..UptoSaid' is the law's where the arguments, and the package variables that the reading takes, are together of bulk at most 1048576: NARROWER than '..Said'. Prove '..Said' where nothing that the law and all that it calls make is longer than what came in: it says more and counts as full. Else prove '..UptoSaid'. A law counts once. -/
mutual
def uptoBulk {H : Type} : DataW H → Nat
  | .lit (.string bytes) => bytes.length + 1
  | .lit _ => 1
  | .nil => 1
  | .ptr d => uptoBulk d + 1
  | .slice elems spare => uptoBulkAll elems + uptoBulkAll spare + 1
  | .agg parts => uptoBulkAll parts + 1
  | .iface _ d => uptoBulk d + 1
  | .map entries => uptoBulkEntries entries + 1
  | .held _ => 1
def uptoBulkAll {H : Type} : List (DataW H) → Nat
  | [] => 0
  | d :: r => uptoBulk d + uptoBulkAll r
def uptoBulkEntries {H : Type} : List (Lit × DataW H) → Nat
  | [] => 0
  | x :: r => uptoBulkEntry x + uptoBulkEntries r
def uptoBulkEntry {H : Type} : Lit × DataW H → Nat
  | (.string bytes, d) => bytes.length + uptoBulk d + 1
  | (_, d) => uptoBulk d + 1
 end
def uptoSmall : (H : Type) → List (DataW H) → Bool := fun _ ds => decide (uptoBulkAll ds ≤ 1048576)
def OpenSpec.upto (s : _root_.Go.ChangeSpec) : _root_.Go.OpenSpec := { _root_.Go.OpenSpec.ofChange s with cond := some uptoSmall }

/-- 'laws.FnExactQuietRoom', WHERE WHAT IT READS IS OF BULK AT MOST 1048576: true; the input reads as it did. -/
def fnExactQuietRoomUptoRow : OpenClaim := { program := "ytbamamgeamnmnaa", sum := "57b9ed3d3c13a71c385f39a5306cdc663e4a18d9fc37d2e357e4fac49270c86e", func := "loop.example/belfry/laws.FnExactQuietRoom", spec := "fnExactQuietRoom", apart := false, narrowed := true }
def FnExactQuietRoomUptoSaid : Prop := fnExactQuietRoomUptoRow.holds Try.pinned (OpenSpec.upto fnExactQuietRoomSpec)

/-- 'laws.FnExactQuietHonest', WHERE WHAT IT READS IS OF BULK AT MOST 1048576: true; the input reads as it did. -/
def fnExactQuietHonestUptoRow : OpenClaim := { program := "ytbamamgeamnmnaa", sum := "57b9ed3d3c13a71c385f39a5306cdc663e4a18d9fc37d2e357e4fac49270c86e", func := "loop.example/belfry/laws.FnExactQuietHonest", spec := "fnExactQuietHonest", apart := false, narrowed := true }
def FnExactQuietHonestUptoSaid : Prop := fnExactQuietHonestUptoRow.holds Try.pinned (OpenSpec.upto fnExactQuietHonestSpec)

/-- 'laws.FnExactQuietSteps', WHERE WHAT IT READS IS OF BULK AT MOST 1048576: true; the input reads as it did. -/
def fnExactQuietStepsUptoRow : OpenClaim := { program := "ytbamamgeamnmnaa", sum := "57b9ed3d3c13a71c385f39a5306cdc663e4a18d9fc37d2e357e4fac49270c86e", func := "loop.example/belfry/laws.FnExactQuietSteps", spec := "fnExactQuietSteps", apart := false, narrowed := true }
def FnExactQuietStepsUptoSaid : Prop := fnExactQuietStepsUptoRow.holds Try.pinned (OpenSpec.upto fnExactQuietStepsSpec)

/-- 'laws.FnExactCoverSteps', WHERE WHAT IT READS IS OF BULK AT MOST 1048576: true; the input reads as it did. -/
def fnExactCoverStepsUptoRow : OpenClaim := { program := "ytbamamgeamnmnaa", sum := "57b9ed3d3c13a71c385f39a5306cdc663e4a18d9fc37d2e357e4fac49270c86e", func := "loop.example/belfry/laws.FnExactCoverSteps", spec := "fnExactCoverSteps", apart := false, narrowed := true }
def FnExactCoverStepsUptoSaid : Prop := fnExactCoverStepsUptoRow.holds Try.pinned (OpenSpec.upto fnExactCoverStepsSpec)

end Rows
end Go.Proofs.Ytbamamgeamnmnaa
