/-
  No cell of these rows narrows 'for every input' (looked for: loops, veiled, ifaces, maps, wideKeys, modest, calm, conditions, laid).
  DERIVED. THE GIVEN ROWS OF THIS SEAT. 4 by the template 'for every input the law returns true; each argument reads behind the call as it read before'; 0 by the template 'total and deterministic' (their statements: YtpjpkmhaffmbmaaGreatTotals.lean).
  GIVEN WITH THE SEED: the statements are not yours to turn. If you find one false, say at which input.
  Laid BY PROGRAM, IN A SANDBOX (cutbox-rows.mjs): the forced cells as the released guide's own fill.sh prints them over the translation bd3657f9d5a6b983… (all of the seat's roots in one cut). By AI agents, Wed Nov 11 2026. No macro, syntax, notation, axiom, sorry.
-/
import Derived.Test.YtpjpkmhaffmbmaaGreatChecked
import GoSem.Claim
import GoSem.ClaimJoined
import GoSem.ClaimMapViews
import Derived.JoinedTies
import Derived.KernelRfl
namespace Go.Proofs.YtpjpkmhaffmbmaaGreat
/- THE CELL 'sum', in the pinned program and in every row, IS THE sha256 OF THE DUMP (.gsa) THAT YtpjpkmhaffmbmaaGreatProg.lean LOADS. Nothing in Lean hashes anything: it is a label: what it is worth is what the hold of that sum in a sandbox is worth. -/
noncomputable def Tryz.pinned : Pinned := { name := "ytpjpkmhaffmbmaagreat", sum := "bd3657f9d5a6b983b5106c7a074719af4b39a085f7d0a1e0427a7f4bcbfea258", checked := Tryz.checked }
namespace Rows
def none {H : Type} : Left H := { results := [], args := [] }

/-- 'laws.FnWitnessTop': WHATEVER THE INPUT: true; the input reads as it did. -/
def fnWitnessTopSpec : ChangeSpec := { name := "fnWitnessTop", fn := fun _ => fun
  | [d] => { results := [.lit (.bool true)], args := [d] }
  | _ => none }
def fnWitnessTopRow : OpenClaim := { program := "ytpjpkmhaffmbmaagreat", sum := "bd3657f9d5a6b983b5106c7a074719af4b39a085f7d0a1e0427a7f4bcbfea258", func := "loop.example/belfry/laws.FnWitnessTop", spec := "fnWitnessTop", unfollowed := true, recurses := true, named := ["encoding/binary.BigEndian"], plainKeys := false, apart := false }
def FnWitnessTopSaid : Prop := fnWitnessTopRow.holds Tryz.pinned (OpenSpec.ofChange fnWitnessTopSpec)

/-- ITS FALSE NEIGHBOUR: 'it returns false'. Refute it at one input. -/
def fnWitnessTopWrong : ChangeSpec := { name := "fnWitnessTop", fn := fun _ => fun
  | [d] => { results := [.lit (.bool false)], args := [d] }
  | _ => none }
def FnWitnessTopWrongFalsely : Prop := fnWitnessTopRow.holds Tryz.pinned (OpenSpec.ofChange fnWitnessTopWrong)

/-- 'laws.FnWitnessFalls': WHATEVER THE INPUT: true; the input reads as it did. -/
def fnWitnessFallsSpec : ChangeSpec := { name := "fnWitnessFalls", fn := fun _ => fun
  | [d] => { results := [.lit (.bool true)], args := [d] }
  | _ => none }
def fnWitnessFallsRow : OpenClaim := { program := "ytpjpkmhaffmbmaagreat", sum := "bd3657f9d5a6b983b5106c7a074719af4b39a085f7d0a1e0427a7f4bcbfea258", func := "loop.example/belfry/laws.FnWitnessFalls", spec := "fnWitnessFalls", unfollowed := true, recurses := true, named := ["encoding/binary.BigEndian"], plainKeys := false, apart := false }
def FnWitnessFallsSaid : Prop := fnWitnessFallsRow.holds Tryz.pinned (OpenSpec.ofChange fnWitnessFallsSpec)

/-- ITS FALSE NEIGHBOUR: 'it returns false'. Refute it at one input. -/
def fnWitnessFallsWrong : ChangeSpec := { name := "fnWitnessFalls", fn := fun _ => fun
  | [d] => { results := [.lit (.bool false)], args := [d] }
  | _ => none }
def FnWitnessFallsWrongFalsely : Prop := fnWitnessFallsRow.holds Tryz.pinned (OpenSpec.ofChange fnWitnessFallsWrong)

/-- 'laws.FnWitnessHonest': WHATEVER THE INPUT: true; the input reads as it did. -/
def fnWitnessHonestSpec : ChangeSpec := { name := "fnWitnessHonest", fn := fun _ => fun
  | [d] => { results := [.lit (.bool true)], args := [d] }
  | _ => none }
def fnWitnessHonestRow : OpenClaim := { program := "ytpjpkmhaffmbmaagreat", sum := "bd3657f9d5a6b983b5106c7a074719af4b39a085f7d0a1e0427a7f4bcbfea258", func := "loop.example/belfry/laws.FnWitnessHonest", spec := "fnWitnessHonest", unfollowed := true, recurses := true, named := ["encoding/binary.BigEndian"], plainKeys := false, apart := false }
def FnWitnessHonestSaid : Prop := fnWitnessHonestRow.holds Tryz.pinned (OpenSpec.ofChange fnWitnessHonestSpec)

/-- ITS FALSE NEIGHBOUR: 'it returns false'. Refute it at one input. -/
def fnWitnessHonestWrong : ChangeSpec := { name := "fnWitnessHonest", fn := fun _ => fun
  | [d] => { results := [.lit (.bool false)], args := [d] }
  | _ => none }
def FnWitnessHonestWrongFalsely : Prop := fnWitnessHonestRow.holds Tryz.pinned (OpenSpec.ofChange fnWitnessHonestWrong)

/-- 'laws.FnExactAuditClash': WHATEVER THE INPUT: true; the input reads as it did. -/
def fnExactAuditClashSpec : ChangeSpec := { name := "fnExactAuditClash", fn := fun _ => fun
  | [d1, d2, d3, d4, d5, d6, d7, d8] => { results := [.lit (.bool true)], args := [d1, d2, d3, d4, d5, d6, d7, d8] }
  | _ => none }
def fnExactAuditClashRow : OpenClaim := { program := "ytpjpkmhaffmbmaagreat", sum := "bd3657f9d5a6b983b5106c7a074719af4b39a085f7d0a1e0427a7f4bcbfea258", func := "loop.example/belfry/laws.FnExactAuditClash", spec := "fnExactAuditClash", unfollowed := true, recurses := true, named := ["encoding/binary.BigEndian"], plainKeys := false, apart := false }
def FnExactAuditClashSaid : Prop := fnExactAuditClashRow.holds Tryz.pinned (OpenSpec.ofChange fnExactAuditClashSpec)

/-- ITS FALSE NEIGHBOUR: 'it returns false'. Refute it at one input. -/
def fnExactAuditClashWrong : ChangeSpec := { name := "fnExactAuditClash", fn := fun _ => fun
  | [d1, d2, d3, d4, d5, d6, d7, d8] => { results := [.lit (.bool false)], args := [d1, d2, d3, d4, d5, d6, d7, d8] }
  | _ => none }
def FnExactAuditClashWrongFalsely : Prop := fnExactAuditClashRow.holds Tryz.pinned (OpenSpec.ofChange fnExactAuditClashWrong)

/- THE SECOND FORM. 'bulk': how many values and letters a reading holds, each counted each time it is reached (what is shared counts as often as it is met; a slice's spare places count too). A statement '..UptoSaid' is the law's where the arguments, and the package variables that the reading takes, are together of bulk at most 1048576: NARROWER than '..Said'. Prove '..Said' where nothing that the law and all that it calls make is longer than what came in: it says more and counts as full. Else prove '..UptoSaid'. A law counts once. -/
mutual
def uptoBulk {H : Type} : DataW H → Nat
  | .lit (.string bytes) => bytes.length + 1
  | .lit _ => 1
  | .nil => 1
  | .ptr d => uptoBulk d + 1
  | .slice elems spare => uptoBulkAll elems + uptoBulkAll spare + 1
  | .agg parts => uptoBulkAll parts + 1
  | .iface _ d => uptoBulk d + 1
  | .map entries => uptoBulkEntries entries + 1
  | .held _ => 1
def uptoBulkAll {H : Type} : List (DataW H) → Nat
  | [] => 0
  | d :: r => uptoBulk d + uptoBulkAll r
def uptoBulkEntries {H : Type} : List (Lit × DataW H) → Nat
  | [] => 0
  | x :: r => uptoBulkEntry x + uptoBulkEntries r
def uptoBulkEntry {H : Type} : Lit × DataW H → Nat
  | (.string bytes, d) => bytes.length + uptoBulk d + 1
  | (_, d) => uptoBulk d + 1
 end
def uptoSmall : (H : Type) → List (DataW H) → Bool := fun _ ds => decide (uptoBulkAll ds ≤ 1048576)
def OpenSpec.upto (s : _root_.Go.ChangeSpec) : _root_.Go.OpenSpec := { _root_.Go.OpenSpec.ofChange s with cond := some uptoSmall }

/-- 'laws.FnWitnessTop', WHERE WHAT IT READS IS OF BULK AT MOST 1048576: true; the input reads as it did. -/
def fnWitnessTopUptoRow : OpenClaim := { program := "ytpjpkmhaffmbmaagreat", sum := "bd3657f9d5a6b983b5106c7a074719af4b39a085f7d0a1e0427a7f4bcbfea258", func := "loop.example/belfry/laws.FnWitnessTop", spec := "fnWitnessTop", unfollowed := true, recurses := true, named := ["encoding/binary.BigEndian"], plainKeys := false, apart := false, narrowed := true }
def FnWitnessTopUptoSaid : Prop := fnWitnessTopUptoRow.holds Tryz.pinned (OpenSpec.upto fnWitnessTopSpec)

/-- 'laws.FnWitnessFalls', WHERE WHAT IT READS IS OF BULK AT MOST 1048576: true; the input reads as it did. -/
def fnWitnessFallsUptoRow : OpenClaim := { program := "ytpjpkmhaffmbmaagreat", sum := "bd3657f9d5a6b983b5106c7a074719af4b39a085f7d0a1e0427a7f4bcbfea258", func := "loop.example/belfry/laws.FnWitnessFalls", spec := "fnWitnessFalls", unfollowed := true, recurses := true, named := ["encoding/binary.BigEndian"], plainKeys := false, apart := false, narrowed := true }
def FnWitnessFallsUptoSaid : Prop := fnWitnessFallsUptoRow.holds Tryz.pinned (OpenSpec.upto fnWitnessFallsSpec)

/-- 'laws.FnWitnessHonest', WHERE WHAT IT READS IS OF BULK AT MOST 1048576: true; the input reads as it did. -/
def fnWitnessHonestUptoRow : OpenClaim := { program := "ytpjpkmhaffmbmaagreat", sum := "bd3657f9d5a6b983b5106c7a074719af4b39a085f7d0a1e0427a7f4bcbfea258", func := "loop.example/belfry/laws.FnWitnessHonest", spec := "fnWitnessHonest", unfollowed := true, recurses := true, named := ["encoding/binary.BigEndian"], plainKeys := false, apart := false, narrowed := true }
def FnWitnessHonestUptoSaid : Prop := fnWitnessHonestUptoRow.holds Tryz.pinned (OpenSpec.upto fnWitnessHonestSpec)

/-- 'laws.FnExactAuditClash', WHERE WHAT IT READS IS OF BULK AT MOST 1048576: true; the input reads as it did. -/
def fnExactAuditClashUptoRow : OpenClaim := { program := "ytpjpkmhaffmbmaagreat", sum := "bd3657f9d5a6b983b5106c7a074719af4b39a085f7d0a1e0427a7f4bcbfea258", func := "loop.example/belfry/laws.FnExactAuditClash", spec := "fnExactAuditClash", unfollowed := true, recurses := true, named := ["encoding/binary.BigEndian"], plainKeys := false, apart := false, narrowed := true }
def FnExactAuditClashUptoSaid : Prop := fnExactAuditClashUptoRow.holds Tryz.pinned (OpenSpec.upto fnExactAuditClashSpec)

end Rows
end Go.Proofs.YtpjpkmhaffmbmaaGreat
