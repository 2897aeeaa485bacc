/-
  No cell of these rows narrows 'for every input' (looked for: loops, veiled, ifaces, maps, wideKeys, modest, calm, conditions, laid).
  DERIVED. THE GIVEN ROWS OF THIS SEAT. 12 by the template 'for every input the law returns true; each argument reads behind the call as it read before'; 0 by the template 'total and deterministic' (their statements: YtobpfkgabdeefaaGreatTotals.lean).
  GIVEN WITH THE SEED: the statements are not yours to turn. If you find one false, say at which input.
  Laid BY PROGRAM, IN A SANDBOX (cutbox-rows.mjs): the forced cells as the released guide's own fill.sh prints them over the translation c9e300bd792d1c20… (all of the seat's roots in one cut). By AI agents, Wed Nov 11 2026. No macro, syntax, notation, axiom, sorry.
-/
import Derived.Test.YtobpfkgabdeefaaGreatChecked
import GoSem.Claim
import GoSem.ClaimJoined
import GoSem.ClaimMapViews
import Derived.JoinedTies
import Derived.KernelRfl
namespace Go.Proofs.YtobpfkgabdeefaaGreat
/- THE CELL 'sum', in the pinned program and in every row, IS THE sha256 OF THE DUMP (.gsa) THAT YtobpfkgabdeefaaGreatProg.lean LOADS. Nothing in Lean hashes anything: it is a label: what it is worth is what the hold of that sum in a sandbox is worth. -/
noncomputable def Tryz.pinned : Pinned := { name := "ytobpfkgabdeefaagreat", sum := "c9e300bd792d1c20975113c454de6cad0941548a942d2be9238b476a16b1469f", checked := Tryz.checked }
namespace Rows
def none {H : Type} : Left H := { results := [], args := [] }

/-- 'laws.FnExactWorldHeld': WHATEVER THE INPUT: true; the input reads as it did. -/
def fnExactWorldHeldSpec : ChangeSpec := { name := "fnExactWorldHeld", fn := fun _ => fun
  | [d1, d2] => { results := [.lit (.bool true)], args := [d1, d2] }
  | _ => none }
def fnExactWorldHeldRow : OpenClaim := { program := "ytobpfkgabdeefaagreat", sum := "c9e300bd792d1c20975113c454de6cad0941548a942d2be9238b476a16b1469f", func := "loop.example/belfry/laws.FnExactWorldHeld", spec := "fnExactWorldHeld", unfollowed := true, recurses := true, named := ["encoding/binary.BigEndian"], plainKeys := false, apart := false }
def FnExactWorldHeldSaid : Prop := fnExactWorldHeldRow.holds Tryz.pinned (OpenSpec.ofChange fnExactWorldHeldSpec)

/-- ITS FALSE NEIGHBOUR: 'it returns false'. Refute it at one input. -/
def fnExactWorldHeldWrong : ChangeSpec := { name := "fnExactWorldHeld", fn := fun _ => fun
  | [d1, d2] => { results := [.lit (.bool false)], args := [d1, d2] }
  | _ => none }
def FnExactWorldHeldWrongFalsely : Prop := fnExactWorldHeldRow.holds Tryz.pinned (OpenSpec.ofChange fnExactWorldHeldWrong)

/-- 'laws.FnExactWorldPins': WHATEVER THE INPUT: true; the input reads as it did. -/
def fnExactWorldPinsSpec : ChangeSpec := { name := "fnExactWorldPins", fn := fun _ => fun
  | [d1, d2] => { results := [.lit (.bool true)], args := [d1, d2] }
  | _ => none }
def fnExactWorldPinsRow : OpenClaim := { program := "ytobpfkgabdeefaagreat", sum := "c9e300bd792d1c20975113c454de6cad0941548a942d2be9238b476a16b1469f", func := "loop.example/belfry/laws.FnExactWorldPins", spec := "fnExactWorldPins", unfollowed := true, recurses := true, named := ["encoding/binary.BigEndian"], plainKeys := false, apart := false }
def FnExactWorldPinsSaid : Prop := fnExactWorldPinsRow.holds Tryz.pinned (OpenSpec.ofChange fnExactWorldPinsSpec)

/-- ITS FALSE NEIGHBOUR: 'it returns false'. Refute it at one input. -/
def fnExactWorldPinsWrong : ChangeSpec := { name := "fnExactWorldPins", fn := fun _ => fun
  | [d1, d2] => { results := [.lit (.bool false)], args := [d1, d2] }
  | _ => none }
def FnExactWorldPinsWrongFalsely : Prop := fnExactWorldPinsRow.holds Tryz.pinned (OpenSpec.ofChange fnExactWorldPinsWrong)

/-- 'laws.FnExactQuietCovered': WHATEVER THE INPUT: true; the input reads as it did. -/
def fnExactQuietCoveredSpec : ChangeSpec := { name := "fnExactQuietCovered", fn := fun _ => fun
  | [d1, d2] => { results := [.lit (.bool true)], args := [d1, d2] }
  | _ => none }
def fnExactQuietCoveredRow : OpenClaim := { program := "ytobpfkgabdeefaagreat", sum := "c9e300bd792d1c20975113c454de6cad0941548a942d2be9238b476a16b1469f", func := "loop.example/belfry/laws.FnExactQuietCovered", spec := "fnExactQuietCovered", unfollowed := true, recurses := true, named := ["encoding/binary.BigEndian"], plainKeys := false, apart := false }
def FnExactQuietCoveredSaid : Prop := fnExactQuietCoveredRow.holds Tryz.pinned (OpenSpec.ofChange fnExactQuietCoveredSpec)

/-- ITS FALSE NEIGHBOUR: 'it returns false'. Refute it at one input. -/
def fnExactQuietCoveredWrong : ChangeSpec := { name := "fnExactQuietCovered", fn := fun _ => fun
  | [d1, d2] => { results := [.lit (.bool false)], args := [d1, d2] }
  | _ => none }
def FnExactQuietCoveredWrongFalsely : Prop := fnExactQuietCoveredRow.holds Tryz.pinned (OpenSpec.ofChange fnExactQuietCoveredWrong)

/-- 'laws.FnExactQuietPins': WHATEVER THE INPUT: true; the input reads as it did. -/
def fnExactQuietPinsSpec : ChangeSpec := { name := "fnExactQuietPins", fn := fun _ => fun
  | [d1, d2] => { results := [.lit (.bool true)], args := [d1, d2] }
  | _ => none }
def fnExactQuietPinsRow : OpenClaim := { program := "ytobpfkgabdeefaagreat", sum := "c9e300bd792d1c20975113c454de6cad0941548a942d2be9238b476a16b1469f", func := "loop.example/belfry/laws.FnExactQuietPins", spec := "fnExactQuietPins", unfollowed := true, recurses := true, named := ["encoding/binary.BigEndian"], plainKeys := false, apart := false }
def FnExactQuietPinsSaid : Prop := fnExactQuietPinsRow.holds Tryz.pinned (OpenSpec.ofChange fnExactQuietPinsSpec)

/-- ITS FALSE NEIGHBOUR: 'it returns false'. Refute it at one input. -/
def fnExactQuietPinsWrong : ChangeSpec := { name := "fnExactQuietPins", fn := fun _ => fun
  | [d1, d2] => { results := [.lit (.bool false)], args := [d1, d2] }
  | _ => none }
def FnExactQuietPinsWrongFalsely : Prop := fnExactQuietPinsRow.holds Tryz.pinned (OpenSpec.ofChange fnExactQuietPinsWrong)

/-- 'laws.FnWorldBounds': WHATEVER THE INPUT: true; the input reads as it did. -/
def fnWorldBoundsSpec : ChangeSpec := { name := "fnWorldBounds", fn := fun _ => fun
  | [d] => { results := [.lit (.bool true)], args := [d] }
  | _ => none }
def fnWorldBoundsRow : OpenClaim := { program := "ytobpfkgabdeefaagreat", sum := "c9e300bd792d1c20975113c454de6cad0941548a942d2be9238b476a16b1469f", func := "loop.example/belfry/laws.FnWorldBounds", spec := "fnWorldBounds", unfollowed := true, recurses := true, named := ["encoding/binary.BigEndian"], plainKeys := false, apart := false }
def FnWorldBoundsSaid : Prop := fnWorldBoundsRow.holds Tryz.pinned (OpenSpec.ofChange fnWorldBoundsSpec)

/-- ITS FALSE NEIGHBOUR: 'it returns false'. Refute it at one input. -/
def fnWorldBoundsWrong : ChangeSpec := { name := "fnWorldBounds", fn := fun _ => fun
  | [d] => { results := [.lit (.bool false)], args := [d] }
  | _ => none }
def FnWorldBoundsWrongFalsely : Prop := fnWorldBoundsRow.holds Tryz.pinned (OpenSpec.ofChange fnWorldBoundsWrong)

/-- 'laws.FnWorldHolds': WHATEVER THE INPUT: true; the input reads as it did. -/
def fnWorldHoldsSpec : ChangeSpec := { name := "fnWorldHolds", fn := fun _ => fun
  | [d] => { results := [.lit (.bool true)], args := [d] }
  | _ => none }
def fnWorldHoldsRow : OpenClaim := { program := "ytobpfkgabdeefaagreat", sum := "c9e300bd792d1c20975113c454de6cad0941548a942d2be9238b476a16b1469f", func := "loop.example/belfry/laws.FnWorldHolds", spec := "fnWorldHolds", unfollowed := true, recurses := true, named := ["encoding/binary.BigEndian"], plainKeys := false, apart := false }
def FnWorldHoldsSaid : Prop := fnWorldHoldsRow.holds Tryz.pinned (OpenSpec.ofChange fnWorldHoldsSpec)

/-- ITS FALSE NEIGHBOUR: 'it returns false'. Refute it at one input. -/
def fnWorldHoldsWrong : ChangeSpec := { name := "fnWorldHolds", fn := fun _ => fun
  | [d] => { results := [.lit (.bool false)], args := [d] }
  | _ => none }
def FnWorldHoldsWrongFalsely : Prop := fnWorldHoldsRow.holds Tryz.pinned (OpenSpec.ofChange fnWorldHoldsWrong)

/-- 'laws.FnQuietEnds': WHATEVER THE INPUT: true; the input reads as it did. -/
def fnQuietEndsSpec : ChangeSpec := { name := "fnQuietEnds", fn := fun _ => fun
  | [d] => { results := [.lit (.bool true)], args := [d] }
  | _ => none }
def fnQuietEndsRow : OpenClaim := { program := "ytobpfkgabdeefaagreat", sum := "c9e300bd792d1c20975113c454de6cad0941548a942d2be9238b476a16b1469f", func := "loop.example/belfry/laws.FnQuietEnds", spec := "fnQuietEnds", unfollowed := true, recurses := true, named := ["encoding/binary.BigEndian"], plainKeys := false, apart := false }
def FnQuietEndsSaid : Prop := fnQuietEndsRow.holds Tryz.pinned (OpenSpec.ofChange fnQuietEndsSpec)

/-- ITS FALSE NEIGHBOUR: 'it returns false'. Refute it at one input. -/
def fnQuietEndsWrong : ChangeSpec := { name := "fnQuietEnds", fn := fun _ => fun
  | [d] => { results := [.lit (.bool false)], args := [d] }
  | _ => none }
def FnQuietEndsWrongFalsely : Prop := fnQuietEndsRow.holds Tryz.pinned (OpenSpec.ofChange fnQuietEndsWrong)

/-- 'laws.FnWorldParts': WHATEVER THE INPUT: true; the input reads as it did. -/
def fnWorldPartsSpec : ChangeSpec := { name := "fnWorldParts", fn := fun _ => fun
  | [d] => { results := [.lit (.bool true)], args := [d] }
  | _ => none }
def fnWorldPartsRow : OpenClaim := { program := "ytobpfkgabdeefaagreat", sum := "c9e300bd792d1c20975113c454de6cad0941548a942d2be9238b476a16b1469f", func := "loop.example/belfry/laws.FnWorldParts", spec := "fnWorldParts", unfollowed := true, recurses := true, named := ["encoding/binary.BigEndian"], plainKeys := false, apart := false }
def FnWorldPartsSaid : Prop := fnWorldPartsRow.holds Tryz.pinned (OpenSpec.ofChange fnWorldPartsSpec)

/-- ITS FALSE NEIGHBOUR: 'it returns false'. Refute it at one input. -/
def fnWorldPartsWrong : ChangeSpec := { name := "fnWorldParts", fn := fun _ => fun
  | [d] => { results := [.lit (.bool false)], args := [d] }
  | _ => none }
def FnWorldPartsWrongFalsely : Prop := fnWorldPartsRow.holds Tryz.pinned (OpenSpec.ofChange fnWorldPartsWrong)

/-- 'laws.FnExactWorldBook': WHATEVER THE INPUT: true; the input reads as it did. -/
def fnExactWorldBookSpec : ChangeSpec := { name := "fnExactWorldBook", fn := fun _ => fun
  | [d1, d2] => { results := [.lit (.bool true)], args := [d1, d2] }
  | _ => none }
def fnExactWorldBookRow : OpenClaim := { program := "ytobpfkgabdeefaagreat", sum := "c9e300bd792d1c20975113c454de6cad0941548a942d2be9238b476a16b1469f", func := "loop.example/belfry/laws.FnExactWorldBook", spec := "fnExactWorldBook", unfollowed := true, recurses := true, named := ["encoding/binary.BigEndian"], plainKeys := false, apart := false }
def FnExactWorldBookSaid : Prop := fnExactWorldBookRow.holds Tryz.pinned (OpenSpec.ofChange fnExactWorldBookSpec)

/-- ITS FALSE NEIGHBOUR: 'it returns false'. Refute it at one input. -/
def fnExactWorldBookWrong : ChangeSpec := { name := "fnExactWorldBook", fn := fun _ => fun
  | [d1, d2] => { results := [.lit (.bool false)], args := [d1, d2] }
  | _ => none }
def FnExactWorldBookWrongFalsely : Prop := fnExactWorldBookRow.holds Tryz.pinned (OpenSpec.ofChange fnExactWorldBookWrong)

/-- 'laws.FnExactQuietAlarms': WHATEVER THE INPUT: true; the input reads as it did. -/
def fnExactQuietAlarmsSpec : ChangeSpec := { name := "fnExactQuietAlarms", fn := fun _ => fun
  | [d1, d2] => { results := [.lit (.bool true)], args := [d1, d2] }
  | _ => none }
def fnExactQuietAlarmsRow : OpenClaim := { program := "ytobpfkgabdeefaagreat", sum := "c9e300bd792d1c20975113c454de6cad0941548a942d2be9238b476a16b1469f", func := "loop.example/belfry/laws.FnExactQuietAlarms", spec := "fnExactQuietAlarms", unfollowed := true, recurses := true, named := ["encoding/binary.BigEndian"], plainKeys := false, apart := false }
def FnExactQuietAlarmsSaid : Prop := fnExactQuietAlarmsRow.holds Tryz.pinned (OpenSpec.ofChange fnExactQuietAlarmsSpec)

/-- ITS FALSE NEIGHBOUR: 'it returns false'. Refute it at one input. -/
def fnExactQuietAlarmsWrong : ChangeSpec := { name := "fnExactQuietAlarms", fn := fun _ => fun
  | [d1, d2] => { results := [.lit (.bool false)], args := [d1, d2] }
  | _ => none }
def FnExactQuietAlarmsWrongFalsely : Prop := fnExactQuietAlarmsRow.holds Tryz.pinned (OpenSpec.ofChange fnExactQuietAlarmsWrong)

/-- 'laws.FnAuditShows': WHATEVER THE INPUT: true; the input reads as it did. -/
def fnAuditShowsSpec : ChangeSpec := { name := "fnAuditShows", fn := fun _ => fun
  | [d] => { results := [.lit (.bool true)], args := [d] }
  | _ => none }
def fnAuditShowsRow : OpenClaim := { program := "ytobpfkgabdeefaagreat", sum := "c9e300bd792d1c20975113c454de6cad0941548a942d2be9238b476a16b1469f", func := "loop.example/belfry/laws.FnAuditShows", spec := "fnAuditShows", unfollowed := true, recurses := true, named := ["encoding/binary.BigEndian"], plainKeys := false, apart := false }
def FnAuditShowsSaid : Prop := fnAuditShowsRow.holds Tryz.pinned (OpenSpec.ofChange fnAuditShowsSpec)

/-- ITS FALSE NEIGHBOUR: 'it returns false'. Refute it at one input. -/
def fnAuditShowsWrong : ChangeSpec := { name := "fnAuditShows", fn := fun _ => fun
  | [d] => { results := [.lit (.bool false)], args := [d] }
  | _ => none }
def FnAuditShowsWrongFalsely : Prop := fnAuditShowsRow.holds Tryz.pinned (OpenSpec.ofChange fnAuditShowsWrong)

/-- 'laws.FnQuietNoAlarm': WHATEVER THE INPUT: true; the input reads as it did. -/
def fnQuietNoAlarmSpec : ChangeSpec := { name := "fnQuietNoAlarm", fn := fun _ => fun
  | [d] => { results := [.lit (.bool true)], args := [d] }
  | _ => none }
def fnQuietNoAlarmRow : OpenClaim := { program := "ytobpfkgabdeefaagreat", sum := "c9e300bd792d1c20975113c454de6cad0941548a942d2be9238b476a16b1469f", func := "loop.example/belfry/laws.FnQuietNoAlarm", spec := "fnQuietNoAlarm", unfollowed := true, recurses := true, named := ["encoding/binary.BigEndian"], plainKeys := false, apart := false }
def FnQuietNoAlarmSaid : Prop := fnQuietNoAlarmRow.holds Tryz.pinned (OpenSpec.ofChange fnQuietNoAlarmSpec)

/-- ITS FALSE NEIGHBOUR: 'it returns false'. Refute it at one input. -/
def fnQuietNoAlarmWrong : ChangeSpec := { name := "fnQuietNoAlarm", fn := fun _ => fun
  | [d] => { results := [.lit (.bool false)], args := [d] }
  | _ => none }
def FnQuietNoAlarmWrongFalsely : Prop := fnQuietNoAlarmRow.holds Tryz.pinned (OpenSpec.ofChange fnQuietNoAlarmWrong)

/- THE SECOND FORM. 'bulk': how many values and letters a reading holds, each counted each time it is reached (what is shared counts as often as it is met; a slice's spare places count too). A statement '..UptoSaid' is the law's where the arguments, and the package variables that the reading takes, are together of bulk at most 1048576: NARROWER than '..Said'. Prove '..Said' where nothing that the law and all that it calls make is longer than what came in: it says more and counts as full. Else prove '..UptoSaid'. A law counts once. -/
mutual
def uptoBulk {H : Type} : DataW H → Nat
  | .lit (.string bytes) => bytes.length + 1
  | .lit _ => 1
  | .nil => 1
  | .ptr d => uptoBulk d + 1
  | .slice elems spare => uptoBulkAll elems + uptoBulkAll spare + 1
  | .agg parts => uptoBulkAll parts + 1
  | .iface _ d => uptoBulk d + 1
  | .map entries => uptoBulkEntries entries + 1
  | .held _ => 1
def uptoBulkAll {H : Type} : List (DataW H) → Nat
  | [] => 0
  | d :: r => uptoBulk d + uptoBulkAll r
def uptoBulkEntries {H : Type} : List (Lit × DataW H) → Nat
  | [] => 0
  | x :: r => uptoBulkEntry x + uptoBulkEntries r
def uptoBulkEntry {H : Type} : Lit × DataW H → Nat
  | (.string bytes, d) => bytes.length + uptoBulk d + 1
  | (_, d) => uptoBulk d + 1
 end
def uptoSmall : (H : Type) → List (DataW H) → Bool := fun _ ds => decide (uptoBulkAll ds ≤ 1048576)
def OpenSpec.upto (s : _root_.Go.ChangeSpec) : _root_.Go.OpenSpec := { _root_.Go.OpenSpec.ofChange s with cond := some uptoSmall }

/-- 'laws.FnExactWorldHeld', WHERE WHAT IT READS IS OF BULK AT MOST 1048576: true; the input reads as it did. -/
def fnExactWorldHeldUptoRow : OpenClaim := { program := "ytobpfkgabdeefaagreat", sum := "c9e300bd792d1c20975113c454de6cad0941548a942d2be9238b476a16b1469f", func := "loop.example/belfry/laws.FnExactWorldHeld", spec := "fnExactWorldHeld", unfollowed := true, recurses := true, named := ["encoding/binary.BigEndian"], plainKeys := false, apart := false, narrowed := true }
def FnExactWorldHeldUptoSaid : Prop := fnExactWorldHeldUptoRow.holds Tryz.pinned (OpenSpec.upto fnExactWorldHeldSpec)

/-- 'laws.FnExactWorldPins', WHERE WHAT IT READS IS OF BULK AT MOST 1048576: true; the input reads as it did. -/
def fnExactWorldPinsUptoRow : OpenClaim := { program := "ytobpfkgabdeefaagreat", sum := "c9e300bd792d1c20975113c454de6cad0941548a942d2be9238b476a16b1469f", func := "loop.example/belfry/laws.FnExactWorldPins", spec := "fnExactWorldPins", unfollowed := true, recurses := true, named := ["encoding/binary.BigEndian"], plainKeys := false, apart := false, narrowed := true }
def FnExactWorldPinsUptoSaid : Prop := fnExactWorldPinsUptoRow.holds Tryz.pinned (OpenSpec.upto fnExactWorldPinsSpec)

/-- 'laws.FnExactQuietCovered', WHERE WHAT IT READS IS OF BULK AT MOST 1048576: true; the input reads as it did. -/
def fnExactQuietCoveredUptoRow : OpenClaim := { program := "ytobpfkgabdeefaagreat", sum := "c9e300bd792d1c20975113c454de6cad0941548a942d2be9238b476a16b1469f", func := "loop.example/belfry/laws.FnExactQuietCovered", spec := "fnExactQuietCovered", unfollowed := true, recurses := true, named := ["encoding/binary.BigEndian"], plainKeys := false, apart := false, narrowed := true }
def FnExactQuietCoveredUptoSaid : Prop := fnExactQuietCoveredUptoRow.holds Tryz.pinned (OpenSpec.upto fnExactQuietCoveredSpec)

/-- 'laws.FnExactQuietPins', WHERE WHAT IT READS IS OF BULK AT MOST 1048576: true; the input reads as it did. -/
def fnExactQuietPinsUptoRow : OpenClaim := { program := "ytobpfkgabdeefaagreat", sum := "c9e300bd792d1c20975113c454de6cad0941548a942d2be9238b476a16b1469f", func := "loop.example/belfry/laws.FnExactQuietPins", spec := "fnExactQuietPins", unfollowed := true, recurses := true, named := ["encoding/binary.BigEndian"], plainKeys := false, apart := false, narrowed := true }
def FnExactQuietPinsUptoSaid : Prop := fnExactQuietPinsUptoRow.holds Tryz.pinned (OpenSpec.upto fnExactQuietPinsSpec)

/-- 'laws.FnWorldBounds', WHERE WHAT IT READS IS OF BULK AT MOST 1048576: true; the input reads as it did. -/
def fnWorldBoundsUptoRow : OpenClaim := { program := "ytobpfkgabdeefaagreat", sum := "c9e300bd792d1c20975113c454de6cad0941548a942d2be9238b476a16b1469f", func := "loop.example/belfry/laws.FnWorldBounds", spec := "fnWorldBounds", unfollowed := true, recurses := true, named := ["encoding/binary.BigEndian"], plainKeys := false, apart := false, narrowed := true }
def FnWorldBoundsUptoSaid : Prop := fnWorldBoundsUptoRow.holds Tryz.pinned (OpenSpec.upto fnWorldBoundsSpec)

/-- 'laws.FnWorldHolds', WHERE WHAT IT READS IS OF BULK AT MOST 1048576: true; the input reads as it did. -/
def fnWorldHoldsUptoRow : OpenClaim := { program := "ytobpfkgabdeefaagreat", sum := "c9e300bd792d1c20975113c454de6cad0941548a942d2be9238b476a16b1469f", func := "loop.example/belfry/laws.FnWorldHolds", spec := "fnWorldHolds", unfollowed := true, recurses := true, named := ["encoding/binary.BigEndian"], plainKeys := false, apart := false, narrowed := true }
def FnWorldHoldsUptoSaid : Prop := fnWorldHoldsUptoRow.holds Tryz.pinned (OpenSpec.upto fnWorldHoldsSpec)

/-- 'laws.FnQuietEnds', WHERE WHAT IT READS IS OF BULK AT MOST 1048576: true; the input reads as it did. -/
def fnQuietEndsUptoRow : OpenClaim := { program := "ytobpfkgabdeefaagreat", sum := "c9e300bd792d1c20975113c454de6cad0941548a942d2be9238b476a16b1469f", func := "loop.example/belfry/laws.FnQuietEnds", spec := "fnQuietEnds", unfollowed := true, recurses := true, named := ["encoding/binary.BigEndian"], plainKeys := false, apart := false, narrowed := true }
def FnQuietEndsUptoSaid : Prop := fnQuietEndsUptoRow.holds Tryz.pinned (OpenSpec.upto fnQuietEndsSpec)

/-- 'laws.FnWorldParts', WHERE WHAT IT READS IS OF BULK AT MOST 1048576: true; the input reads as it did. -/
def fnWorldPartsUptoRow : OpenClaim := { program := "ytobpfkgabdeefaagreat", sum := "c9e300bd792d1c20975113c454de6cad0941548a942d2be9238b476a16b1469f", func := "loop.example/belfry/laws.FnWorldParts", spec := "fnWorldParts", unfollowed := true, recurses := true, named := ["encoding/binary.BigEndian"], plainKeys := false, apart := false, narrowed := true }
def FnWorldPartsUptoSaid : Prop := fnWorldPartsUptoRow.holds Tryz.pinned (OpenSpec.upto fnWorldPartsSpec)

/-- 'laws.FnExactWorldBook', WHERE WHAT IT READS IS OF BULK AT MOST 1048576: true; the input reads as it did. -/
def fnExactWorldBookUptoRow : OpenClaim := { program := "ytobpfkgabdeefaagreat", sum := "c9e300bd792d1c20975113c454de6cad0941548a942d2be9238b476a16b1469f", func := "loop.example/belfry/laws.FnExactWorldBook", spec := "fnExactWorldBook", unfollowed := true, recurses := true, named := ["encoding/binary.BigEndian"], plainKeys := false, apart := false, narrowed := true }
def FnExactWorldBookUptoSaid : Prop := fnExactWorldBookUptoRow.holds Tryz.pinned (OpenSpec.upto fnExactWorldBookSpec)

/-- 'laws.FnExactQuietAlarms', WHERE WHAT IT READS IS OF BULK AT MOST 1048576: true; the input reads as it did. -/
def fnExactQuietAlarmsUptoRow : OpenClaim := { program := "ytobpfkgabdeefaagreat", sum := "c9e300bd792d1c20975113c454de6cad0941548a942d2be9238b476a16b1469f", func := "loop.example/belfry/laws.FnExactQuietAlarms", spec := "fnExactQuietAlarms", unfollowed := true, recurses := true, named := ["encoding/binary.BigEndian"], plainKeys := false, apart := false, narrowed := true }
def FnExactQuietAlarmsUptoSaid : Prop := fnExactQuietAlarmsUptoRow.holds Tryz.pinned (OpenSpec.upto fnExactQuietAlarmsSpec)

/-- 'laws.FnAuditShows', WHERE WHAT IT READS IS OF BULK AT MOST 1048576: true; the input reads as it did. -/
def fnAuditShowsUptoRow : OpenClaim := { program := "ytobpfkgabdeefaagreat", sum := "c9e300bd792d1c20975113c454de6cad0941548a942d2be9238b476a16b1469f", func := "loop.example/belfry/laws.FnAuditShows", spec := "fnAuditShows", unfollowed := true, recurses := true, named := ["encoding/binary.BigEndian"], plainKeys := false, apart := false, narrowed := true }
def FnAuditShowsUptoSaid : Prop := fnAuditShowsUptoRow.holds Tryz.pinned (OpenSpec.upto fnAuditShowsSpec)

/-- 'laws.FnQuietNoAlarm', WHERE WHAT IT READS IS OF BULK AT MOST 1048576: true; the input reads as it did. -/
def fnQuietNoAlarmUptoRow : OpenClaim := { program := "ytobpfkgabdeefaagreat", sum := "c9e300bd792d1c20975113c454de6cad0941548a942d2be9238b476a16b1469f", func := "loop.example/belfry/laws.FnQuietNoAlarm", spec := "fnQuietNoAlarm", unfollowed := true, recurses := true, named := ["encoding/binary.BigEndian"], plainKeys := false, apart := false, narrowed := true }
def FnQuietNoAlarmUptoSaid : Prop := fnQuietNoAlarmUptoRow.holds Tryz.pinned (OpenSpec.upto fnQuietNoAlarmSpec)

end Rows
end Go.Proofs.YtobpfkgabdeefaaGreat
