/-
  No cell of these rows narrows 'for every input' (looked for: loops, veiled, ifaces, maps, wideKeys, modest, calm, conditions, laid).
  DERIVED. THE GIVEN ROWS OF THIS SEAT. 5 by the template 'for every input the law returns true; each argument reads behind the call as it read before'; 0 by the template 'total and deterministic' (their statements: YtkhemolkhegppaaTotals.lean).
  GIVEN WITH THE SEED: the statements are not yours to turn. If you find one false, say at which input.
  Laid BY PROGRAM, IN A SANDBOX (cutbox-rows.mjs): the forced cells as the released guide's own fill.sh prints them over the translation d0a9f9af8e46a21a… (all of the seat's roots in one cut). By AI agents, Wed Nov 11 2026. No macro, syntax, notation, axiom, sorry.
-/
import Derived.Test.YtkhemolkhegppaaChecked
import GoSem.Claim
import GoSem.ClaimJoined
import GoSem.ClaimMapViews
import Derived.JoinedTies
import Derived.KernelRfl
namespace Go.Proofs.Ytkhemolkhegppaa
/- THE CELL 'sum', in the pinned program and in every row, IS THE sha256 OF THE DUMP (.gsa) THAT YtkhemolkhegppaaProg.lean LOADS. Nothing in Lean hashes anything: it is a label: what it is worth is what the hold of that sum in a sandbox is worth. -/
noncomputable def Try.pinned : Pinned := { name := "ytkhemolkhegppaa", sum := "d0a9f9af8e46a21a9af076482879af1bcbdd0dd39dba9239ef48b65027116c93", checked := Try.checked }
namespace Rows
def none {H : Type} : Left H := { results := [], args := [] }

/-- 'laws.FnClientCounts': WHATEVER THE INPUT: true; the input reads as it did. -/
def fnClientCountsSpec : ChangeSpec := { name := "fnClientCounts", fn := fun _ => fun
  | [d] => { results := [.lit (.bool true)], args := [d] }
  | _ => none }
def fnClientCountsRow : OpenClaim := { program := "ytkhemolkhegppaa", sum := "d0a9f9af8e46a21a9af076482879af1bcbdd0dd39dba9239ef48b65027116c93", func := "loop.example/belfry/laws.FnClientCounts", spec := "fnClientCounts", unfollowed := true, recurses := true, named := ["encoding/binary.BigEndian"], apart := false }
def FnClientCountsSaid : Prop := fnClientCountsRow.holds Try.pinned (OpenSpec.ofChange fnClientCountsSpec)

/-- ITS FALSE NEIGHBOUR: 'it returns false'. Refute it at one input. -/
def fnClientCountsWrong : ChangeSpec := { name := "fnClientCounts", fn := fun _ => fun
  | [d] => { results := [.lit (.bool false)], args := [d] }
  | _ => none }
def FnClientCountsWrongFalsely : Prop := fnClientCountsRow.holds Try.pinned (OpenSpec.ofChange fnClientCountsWrong)

/-- 'laws.FnClientKept': WHATEVER THE INPUT: true; the input reads as it did. -/
def fnClientKeptSpec : ChangeSpec := { name := "fnClientKept", fn := fun _ => fun
  | [d] => { results := [.lit (.bool true)], args := [d] }
  | _ => none }
def fnClientKeptRow : OpenClaim := { program := "ytkhemolkhegppaa", sum := "d0a9f9af8e46a21a9af076482879af1bcbdd0dd39dba9239ef48b65027116c93", func := "loop.example/belfry/laws.FnClientKept", spec := "fnClientKept", unfollowed := true, recurses := true, named := ["encoding/binary.BigEndian"], apart := false }
def FnClientKeptSaid : Prop := fnClientKeptRow.holds Try.pinned (OpenSpec.ofChange fnClientKeptSpec)

/-- ITS FALSE NEIGHBOUR: 'it returns false'. Refute it at one input. -/
def fnClientKeptWrong : ChangeSpec := { name := "fnClientKept", fn := fun _ => fun
  | [d] => { results := [.lit (.bool false)], args := [d] }
  | _ => none }
def FnClientKeptWrongFalsely : Prop := fnClientKeptRow.holds Try.pinned (OpenSpec.ofChange fnClientKeptWrong)

/-- 'laws.FnExactLogHear': WHATEVER THE INPUT: true; the input reads as it did. -/
def fnExactLogHearSpec : ChangeSpec := { name := "fnExactLogHear", fn := fun _ => fun
  | [d1, d2] => { results := [.lit (.bool true)], args := [d1, d2] }
  | _ => none }
def fnExactLogHearRow : OpenClaim := { program := "ytkhemolkhegppaa", sum := "d0a9f9af8e46a21a9af076482879af1bcbdd0dd39dba9239ef48b65027116c93", func := "loop.example/belfry/laws.FnExactLogHear", spec := "fnExactLogHear", unfollowed := true, recurses := true, named := ["encoding/binary.BigEndian"], apart := false }
def FnExactLogHearSaid : Prop := fnExactLogHearRow.holds Try.pinned (OpenSpec.ofChange fnExactLogHearSpec)

/-- ITS FALSE NEIGHBOUR: 'it returns false'. Refute it at one input. -/
def fnExactLogHearWrong : ChangeSpec := { name := "fnExactLogHear", fn := fun _ => fun
  | [d1, d2] => { results := [.lit (.bool false)], args := [d1, d2] }
  | _ => none }
def FnExactLogHearWrongFalsely : Prop := fnExactLogHearRow.holds Try.pinned (OpenSpec.ofChange fnExactLogHearWrong)

/-- 'laws.FnMonitorFetches': WHATEVER THE INPUT: true; the input reads as it did. -/
def fnMonitorFetchesSpec : ChangeSpec := { name := "fnMonitorFetches", fn := fun _ => fun
  | [d] => { results := [.lit (.bool true)], args := [d] }
  | _ => none }
def fnMonitorFetchesRow : OpenClaim := { program := "ytkhemolkhegppaa", sum := "d0a9f9af8e46a21a9af076482879af1bcbdd0dd39dba9239ef48b65027116c93", func := "loop.example/belfry/laws.FnMonitorFetches", spec := "fnMonitorFetches", unfollowed := true, recurses := true, named := ["encoding/binary.BigEndian"], apart := false }
def FnMonitorFetchesSaid : Prop := fnMonitorFetchesRow.holds Try.pinned (OpenSpec.ofChange fnMonitorFetchesSpec)

/-- ITS FALSE NEIGHBOUR: 'it returns false'. Refute it at one input. -/
def fnMonitorFetchesWrong : ChangeSpec := { name := "fnMonitorFetches", fn := fun _ => fun
  | [d] => { results := [.lit (.bool false)], args := [d] }
  | _ => none }
def FnMonitorFetchesWrongFalsely : Prop := fnMonitorFetchesRow.holds Try.pinned (OpenSpec.ofChange fnMonitorFetchesWrong)

/-- 'laws.FnExactClientHear': WHATEVER THE INPUT: true; the input reads as it did. -/
def fnExactClientHearSpec : ChangeSpec := { name := "fnExactClientHear", fn := fun _ => fun
  | [d1, d2, d3] => { results := [.lit (.bool true)], args := [d1, d2, d3] }
  | _ => none }
def fnExactClientHearRow : OpenClaim := { program := "ytkhemolkhegppaa", sum := "d0a9f9af8e46a21a9af076482879af1bcbdd0dd39dba9239ef48b65027116c93", func := "loop.example/belfry/laws.FnExactClientHear", spec := "fnExactClientHear", unfollowed := true, recurses := true, named := ["encoding/binary.BigEndian"], apart := false }
def FnExactClientHearSaid : Prop := fnExactClientHearRow.holds Try.pinned (OpenSpec.ofChange fnExactClientHearSpec)

/-- ITS FALSE NEIGHBOUR: 'it returns false'. Refute it at one input. -/
def fnExactClientHearWrong : ChangeSpec := { name := "fnExactClientHear", fn := fun _ => fun
  | [d1, d2, d3] => { results := [.lit (.bool false)], args := [d1, d2, d3] }
  | _ => none }
def FnExactClientHearWrongFalsely : Prop := fnExactClientHearRow.holds Try.pinned (OpenSpec.ofChange fnExactClientHearWrong)

/- THE SECOND FORM. 'bulk': how many values and letters a reading holds, each counted each time it is reached (what is shared counts as often as it is met; a slice's spare places count too). A statement '..UptoSaid' is the law's where the arguments, and the package variables that the reading takes, are together of bulk at most 1048576: NARROWER than '..Said'. Prove '..Said' where nothing that the law and all that it calls make is longer than what came in: it says more and counts as full. Else prove '..UptoSaid'. A law counts once. -/
mutual
def uptoBulk {H : Type} : DataW H → Nat
  | .lit (.string bytes) => bytes.length + 1
  | .lit _ => 1
  | .nil => 1
  | .ptr d => uptoBulk d + 1
  | .slice elems spare => uptoBulkAll elems + uptoBulkAll spare + 1
  | .agg parts => uptoBulkAll parts + 1
  | .iface _ d => uptoBulk d + 1
  | .map entries => uptoBulkEntries entries + 1
  | .held _ => 1
def uptoBulkAll {H : Type} : List (DataW H) → Nat
  | [] => 0
  | d :: r => uptoBulk d + uptoBulkAll r
def uptoBulkEntries {H : Type} : List (Lit × DataW H) → Nat
  | [] => 0
  | x :: r => uptoBulkEntry x + uptoBulkEntries r
def uptoBulkEntry {H : Type} : Lit × DataW H → Nat
  | (.string bytes, d) => bytes.length + uptoBulk d + 1
  | (_, d) => uptoBulk d + 1
 end
def uptoSmall : (H : Type) → List (DataW H) → Bool := fun _ ds => decide (uptoBulkAll ds ≤ 1048576)
def OpenSpec.upto (s : _root_.Go.ChangeSpec) : _root_.Go.OpenSpec := { _root_.Go.OpenSpec.ofChange s with cond := some uptoSmall }

/-- 'laws.FnClientCounts', WHERE WHAT IT READS IS OF BULK AT MOST 1048576: true; the input reads as it did. -/
def fnClientCountsUptoRow : OpenClaim := { program := "ytkhemolkhegppaa", sum := "d0a9f9af8e46a21a9af076482879af1bcbdd0dd39dba9239ef48b65027116c93", func := "loop.example/belfry/laws.FnClientCounts", spec := "fnClientCounts", unfollowed := true, recurses := true, named := ["encoding/binary.BigEndian"], apart := false, narrowed := true }
def FnClientCountsUptoSaid : Prop := fnClientCountsUptoRow.holds Try.pinned (OpenSpec.upto fnClientCountsSpec)

/-- 'laws.FnClientKept', WHERE WHAT IT READS IS OF BULK AT MOST 1048576: true; the input reads as it did. -/
def fnClientKeptUptoRow : OpenClaim := { program := "ytkhemolkhegppaa", sum := "d0a9f9af8e46a21a9af076482879af1bcbdd0dd39dba9239ef48b65027116c93", func := "loop.example/belfry/laws.FnClientKept", spec := "fnClientKept", unfollowed := true, recurses := true, named := ["encoding/binary.BigEndian"], apart := false, narrowed := true }
def FnClientKeptUptoSaid : Prop := fnClientKeptUptoRow.holds Try.pinned (OpenSpec.upto fnClientKeptSpec)

/-- 'laws.FnExactLogHear', WHERE WHAT IT READS IS OF BULK AT MOST 1048576: true; the input reads as it did. -/
def fnExactLogHearUptoRow : OpenClaim := { program := "ytkhemolkhegppaa", sum := "d0a9f9af8e46a21a9af076482879af1bcbdd0dd39dba9239ef48b65027116c93", func := "loop.example/belfry/laws.FnExactLogHear", spec := "fnExactLogHear", unfollowed := true, recurses := true, named := ["encoding/binary.BigEndian"], apart := false, narrowed := true }
def FnExactLogHearUptoSaid : Prop := fnExactLogHearUptoRow.holds Try.pinned (OpenSpec.upto fnExactLogHearSpec)

/-- 'laws.FnMonitorFetches', WHERE WHAT IT READS IS OF BULK AT MOST 1048576: true; the input reads as it did. -/
def fnMonitorFetchesUptoRow : OpenClaim := { program := "ytkhemolkhegppaa", sum := "d0a9f9af8e46a21a9af076482879af1bcbdd0dd39dba9239ef48b65027116c93", func := "loop.example/belfry/laws.FnMonitorFetches", spec := "fnMonitorFetches", unfollowed := true, recurses := true, named := ["encoding/binary.BigEndian"], apart := false, narrowed := true }
def FnMonitorFetchesUptoSaid : Prop := fnMonitorFetchesUptoRow.holds Try.pinned (OpenSpec.upto fnMonitorFetchesSpec)

/-- 'laws.FnExactClientHear', WHERE WHAT IT READS IS OF BULK AT MOST 1048576: true; the input reads as it did. -/
def fnExactClientHearUptoRow : OpenClaim := { program := "ytkhemolkhegppaa", sum := "d0a9f9af8e46a21a9af076482879af1bcbdd0dd39dba9239ef48b65027116c93", func := "loop.example/belfry/laws.FnExactClientHear", spec := "fnExactClientHear", unfollowed := true, recurses := true, named := ["encoding/binary.BigEndian"], apart := false, narrowed := true }
def FnExactClientHearUptoSaid : Prop := fnExactClientHearUptoRow.holds Try.pinned (OpenSpec.upto fnExactClientHearSpec)

end Rows
end Go.Proofs.Ytkhemolkhegppaa
