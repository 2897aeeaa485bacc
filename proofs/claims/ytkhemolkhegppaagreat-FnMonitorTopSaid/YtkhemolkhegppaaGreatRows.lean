/-
  No cell of these rows narrows 'for every input' (looked for: loops, veiled, ifaces, maps, wideKeys, modest, calm, conditions, laid).
  DERIVED. THE GIVEN ROWS OF THIS SEAT. 3 by the template 'for every input the law returns true; each argument reads behind the call as it read before'; 0 by the template 'total and deterministic' (their statements: YtkhemolkhegppaaGreatTotals.lean).
  GIVEN WITH THE SEED: the statements are not yours to turn. If you find one false, say at which input.
  Laid BY PROGRAM, IN A SANDBOX (cutbox-rows.mjs): the forced cells as the released guide's own fill.sh prints them over the translation 8da0d71985875bff… (all of the seat's roots in one cut). By AI agents, Wed Nov 11 2026. No macro, syntax, notation, axiom, sorry.
-/
import Derived.Test.YtkhemolkhegppaaGreatChecked
import GoSem.Claim
import GoSem.ClaimJoined
import GoSem.ClaimMapViews
import Derived.JoinedTies
import Derived.KernelRfl
namespace Go.Proofs.YtkhemolkhegppaaGreat
/- THE CELL 'sum', in the pinned program and in every row, IS THE sha256 OF THE DUMP (.gsa) THAT YtkhemolkhegppaaGreatProg.lean LOADS. Nothing in Lean hashes anything: it is a label: what it is worth is what the hold of that sum in a sandbox is worth. -/
noncomputable def Tryz.pinned : Pinned := { name := "ytkhemolkhegppaagreat", sum := "8da0d71985875bff3f2146dbbfd9a5ea14f40277263348d9fd12b9540563378d", checked := Tryz.checked }
namespace Rows
def none {H : Type} : Left H := { results := [], args := [] }

/-- 'laws.FnLogFits': WHATEVER THE INPUT: true; the input reads as it did. -/
def fnLogFitsSpec : ChangeSpec := { name := "fnLogFits", fn := fun _ => fun
  | [d] => { results := [.lit (.bool true)], args := [d] }
  | _ => none }
def fnLogFitsRow : OpenClaim := { program := "ytkhemolkhegppaagreat", sum := "8da0d71985875bff3f2146dbbfd9a5ea14f40277263348d9fd12b9540563378d", func := "loop.example/belfry/laws.FnLogFits", spec := "fnLogFits", unfollowed := true, recurses := true, named := ["encoding/binary.BigEndian"], apart := false }
def FnLogFitsSaid : Prop := fnLogFitsRow.holds Tryz.pinned (OpenSpec.ofChange fnLogFitsSpec)

/-- ITS FALSE NEIGHBOUR: 'it returns false'. Refute it at one input. -/
def fnLogFitsWrong : ChangeSpec := { name := "fnLogFits", fn := fun _ => fun
  | [d] => { results := [.lit (.bool false)], args := [d] }
  | _ => none }
def FnLogFitsWrongFalsely : Prop := fnLogFitsRow.holds Tryz.pinned (OpenSpec.ofChange fnLogFitsWrong)

/-- 'laws.FnMonitorTop': WHATEVER THE INPUT: true; the input reads as it did. -/
def fnMonitorTopSpec : ChangeSpec := { name := "fnMonitorTop", fn := fun _ => fun
  | [d] => { results := [.lit (.bool true)], args := [d] }
  | _ => none }
def fnMonitorTopRow : OpenClaim := { program := "ytkhemolkhegppaagreat", sum := "8da0d71985875bff3f2146dbbfd9a5ea14f40277263348d9fd12b9540563378d", func := "loop.example/belfry/laws.FnMonitorTop", spec := "fnMonitorTop", unfollowed := true, recurses := true, named := ["encoding/binary.BigEndian"], apart := false }
def FnMonitorTopSaid : Prop := fnMonitorTopRow.holds Tryz.pinned (OpenSpec.ofChange fnMonitorTopSpec)

/-- ITS FALSE NEIGHBOUR: 'it returns false'. Refute it at one input. -/
def fnMonitorTopWrong : ChangeSpec := { name := "fnMonitorTop", fn := fun _ => fun
  | [d] => { results := [.lit (.bool false)], args := [d] }
  | _ => none }
def FnMonitorTopWrongFalsely : Prop := fnMonitorTopRow.holds Tryz.pinned (OpenSpec.ofChange fnMonitorTopWrong)

/-- 'laws.FnExactMonitorHear': WHATEVER THE INPUT: true; the input reads as it did. -/
def fnExactMonitorHearSpec : ChangeSpec := { name := "fnExactMonitorHear", fn := fun _ => fun
  | [d1, d2, d3] => { results := [.lit (.bool true)], args := [d1, d2, d3] }
  | _ => none }
def fnExactMonitorHearRow : OpenClaim := { program := "ytkhemolkhegppaagreat", sum := "8da0d71985875bff3f2146dbbfd9a5ea14f40277263348d9fd12b9540563378d", func := "loop.example/belfry/laws.FnExactMonitorHear", spec := "fnExactMonitorHear", unfollowed := true, recurses := true, named := ["encoding/binary.BigEndian"], apart := false }
def FnExactMonitorHearSaid : Prop := fnExactMonitorHearRow.holds Tryz.pinned (OpenSpec.ofChange fnExactMonitorHearSpec)

/-- ITS FALSE NEIGHBOUR: 'it returns false'. Refute it at one input. -/
def fnExactMonitorHearWrong : ChangeSpec := { name := "fnExactMonitorHear", fn := fun _ => fun
  | [d1, d2, d3] => { results := [.lit (.bool false)], args := [d1, d2, d3] }
  | _ => none }
def FnExactMonitorHearWrongFalsely : Prop := fnExactMonitorHearRow.holds Tryz.pinned (OpenSpec.ofChange fnExactMonitorHearWrong)

/- THE SECOND FORM. 'bulk': how many values and letters a reading holds, each counted each time it is reached (what is shared counts as often as it is met; a slice's spare places count too). A statement '..UptoSaid' is the law's where the arguments, and the package variables that the reading takes, are together of bulk at most 1048576: NARROWER than '..Said'. Prove '..Said' where nothing that the law and all that it calls make is longer than what came in: it says more and counts as full. Else prove '..UptoSaid'. A law counts once. -/
mutual
def uptoBulk {H : Type} : DataW H → Nat
  | .lit (.string bytes) => bytes.length + 1
  | .lit _ => 1
  | .nil => 1
  | .ptr d => uptoBulk d + 1
  | .slice elems spare => uptoBulkAll elems + uptoBulkAll spare + 1
  | .agg parts => uptoBulkAll parts + 1
  | .iface _ d => uptoBulk d + 1
  | .map entries => uptoBulkEntries entries + 1
  | .held _ => 1
def uptoBulkAll {H : Type} : List (DataW H) → Nat
  | [] => 0
  | d :: r => uptoBulk d + uptoBulkAll r
def uptoBulkEntries {H : Type} : List (Lit × DataW H) → Nat
  | [] => 0
  | x :: r => uptoBulkEntry x + uptoBulkEntries r
def uptoBulkEntry {H : Type} : Lit × DataW H → Nat
  | (.string bytes, d) => bytes.length + uptoBulk d + 1
  | (_, d) => uptoBulk d + 1
 end
def uptoSmall : (H : Type) → List (DataW H) → Bool := fun _ ds => decide (uptoBulkAll ds ≤ 1048576)
def OpenSpec.upto (s : _root_.Go.ChangeSpec) : _root_.Go.OpenSpec := { _root_.Go.OpenSpec.ofChange s with cond := some uptoSmall }

/-- 'laws.FnLogFits', WHERE WHAT IT READS IS OF BULK AT MOST 1048576: true; the input reads as it did. -/
def fnLogFitsUptoRow : OpenClaim := { program := "ytkhemolkhegppaagreat", sum := "8da0d71985875bff3f2146dbbfd9a5ea14f40277263348d9fd12b9540563378d", func := "loop.example/belfry/laws.FnLogFits", spec := "fnLogFits", unfollowed := true, recurses := true, named := ["encoding/binary.BigEndian"], apart := false, narrowed := true }
def FnLogFitsUptoSaid : Prop := fnLogFitsUptoRow.holds Tryz.pinned (OpenSpec.upto fnLogFitsSpec)

/-- 'laws.FnMonitorTop', WHERE WHAT IT READS IS OF BULK AT MOST 1048576: true; the input reads as it did. -/
def fnMonitorTopUptoRow : OpenClaim := { program := "ytkhemolkhegppaagreat", sum := "8da0d71985875bff3f2146dbbfd9a5ea14f40277263348d9fd12b9540563378d", func := "loop.example/belfry/laws.FnMonitorTop", spec := "fnMonitorTop", unfollowed := true, recurses := true, named := ["encoding/binary.BigEndian"], apart := false, narrowed := true }
def FnMonitorTopUptoSaid : Prop := fnMonitorTopUptoRow.holds Tryz.pinned (OpenSpec.upto fnMonitorTopSpec)

/-- 'laws.FnExactMonitorHear', WHERE WHAT IT READS IS OF BULK AT MOST 1048576: true; the input reads as it did. -/
def fnExactMonitorHearUptoRow : OpenClaim := { program := "ytkhemolkhegppaagreat", sum := "8da0d71985875bff3f2146dbbfd9a5ea14f40277263348d9fd12b9540563378d", func := "loop.example/belfry/laws.FnExactMonitorHear", spec := "fnExactMonitorHear", unfollowed := true, recurses := true, named := ["encoding/binary.BigEndian"], apart := false, narrowed := true }
def FnExactMonitorHearUptoSaid : Prop := fnExactMonitorHearUptoRow.holds Tryz.pinned (OpenSpec.upto fnExactMonitorHearSpec)

end Rows
end Go.Proofs.YtkhemolkhegppaaGreat
