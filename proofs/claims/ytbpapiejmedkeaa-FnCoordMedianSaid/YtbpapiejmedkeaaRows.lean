/-
  No cell of these rows narrows 'for every input' (looked for: loops, veiled, ifaces, maps, wideKeys, modest, calm, conditions, laid).
  DERIVED. THE GIVEN ROWS OF THIS SEAT. 10 by the template 'for every input the law returns true; each argument reads behind the call as it read before'; 0 by the template 'total and deterministic' (their statements: YtbpapiejmedkeaaTotals.lean).
  GIVEN WITH THE SEED: the statements are not yours to turn. If you find one false, say at which input.
  Laid BY PROGRAM, IN A SANDBOX (cutbox-rows.mjs): the forced cells as the released guide's own fill.sh prints them over the translation 2c0c0ec72f9e602f… (all of the seat's roots in one cut). By AI agents, Wed Nov 11 2026. No macro, syntax, notation, axiom, sorry.
-/
import Derived.Test.YtbpapiejmedkeaaChecked
import GoSem.Claim
import GoSem.ClaimJoined
import GoSem.ClaimMapViews
import Derived.JoinedTies
import Derived.KernelRfl
namespace Go.Proofs.Ytbpapiejmedkeaa
/- THE CELL 'sum', in the pinned program and in every row, IS THE sha256 OF THE DUMP (.gsa) THAT YtbpapiejmedkeaaProg.lean LOADS. Nothing in Lean hashes anything: it is a label: what it is worth is what the hold of that sum in a sandbox is worth. -/
noncomputable def Try.pinned : Pinned := { name := "ytbpapiejmedkeaa", sum := "2c0c0ec72f9e602f91f50c8637f36d5a838c703a39fb00d863d442cc697fef8b", checked := Try.checked }
namespace Rows
def none {H : Type} : Left H := { results := [], args := [] }

/-- 'laws.FnExactCoordDist': WHATEVER THE INPUT: true; the input reads as it did. -/
def fnExactCoordDistSpec : ChangeSpec := { name := "fnExactCoordDist", fn := fun _ => fun
  | [d1, d2] => { results := [.lit (.bool true)], args := [d1, d2] }
  | _ => none }
def fnExactCoordDistRow : OpenClaim := { program := "ytbpapiejmedkeaa", sum := "2c0c0ec72f9e602f91f50c8637f36d5a838c703a39fb00d863d442cc697fef8b", func := "loop.example/lightship/laws.FnExactCoordDist", spec := "fnExactCoordDist", apart := false }
def FnExactCoordDistSaid : Prop := fnExactCoordDistRow.holds Try.pinned (OpenSpec.ofChange fnExactCoordDistSpec)

/-- ITS FALSE NEIGHBOUR: 'it returns false'. Refute it at one input. -/
def fnExactCoordDistWrong : ChangeSpec := { name := "fnExactCoordDist", fn := fun _ => fun
  | [d1, d2] => { results := [.lit (.bool false)], args := [d1, d2] }
  | _ => none }
def FnExactCoordDistWrongFalsely : Prop := fnExactCoordDistRow.holds Try.pinned (OpenSpec.ofChange fnExactCoordDistWrong)

/-- 'laws.FnCoordDist': WHATEVER THE INPUT: true; the input reads as it did. -/
def fnCoordDistSpec : ChangeSpec := { name := "fnCoordDist", fn := fun _ => fun
  | [d1, d2] => { results := [.lit (.bool true)], args := [d1, d2] }
  | _ => none }
def fnCoordDistRow : OpenClaim := { program := "ytbpapiejmedkeaa", sum := "2c0c0ec72f9e602f91f50c8637f36d5a838c703a39fb00d863d442cc697fef8b", func := "loop.example/lightship/laws.FnCoordDist", spec := "fnCoordDist", apart := false }
def FnCoordDistSaid : Prop := fnCoordDistRow.holds Try.pinned (OpenSpec.ofChange fnCoordDistSpec)

/-- ITS FALSE NEIGHBOUR: 'it returns false'. Refute it at one input. -/
def fnCoordDistWrong : ChangeSpec := { name := "fnCoordDist", fn := fun _ => fun
  | [d1, d2] => { results := [.lit (.bool false)], args := [d1, d2] }
  | _ => none }
def FnCoordDistWrongFalsely : Prop := fnCoordDistRow.holds Try.pinned (OpenSpec.ofChange fnCoordDistWrong)

/-- 'laws.FnCoordStill': WHATEVER THE INPUT: true; the input reads as it did. -/
def fnCoordStillSpec : ChangeSpec := { name := "fnCoordStill", fn := fun _ => fun
  | [d] => { results := [.lit (.bool true)], args := [d] }
  | _ => none }
def fnCoordStillRow : OpenClaim := { program := "ytbpapiejmedkeaa", sum := "2c0c0ec72f9e602f91f50c8637f36d5a838c703a39fb00d863d442cc697fef8b", func := "loop.example/lightship/laws.FnCoordStill", spec := "fnCoordStill", apart := false }
def FnCoordStillSaid : Prop := fnCoordStillRow.holds Try.pinned (OpenSpec.ofChange fnCoordStillSpec)

/-- ITS FALSE NEIGHBOUR: 'it returns false'. Refute it at one input. -/
def fnCoordStillWrong : ChangeSpec := { name := "fnCoordStill", fn := fun _ => fun
  | [d] => { results := [.lit (.bool false)], args := [d] }
  | _ => none }
def FnCoordStillWrongFalsely : Prop := fnCoordStillRow.holds Try.pinned (OpenSpec.ofChange fnCoordStillWrong)

/-- 'laws.FnExactCoordMove': WHATEVER THE INPUT: true; the input reads as it did. -/
def fnExactCoordMoveSpec : ChangeSpec := { name := "fnExactCoordMove", fn := fun _ => fun
  | [d1, d2, d3, d4] => { results := [.lit (.bool true)], args := [d1, d2, d3, d4] }
  | _ => none }
def fnExactCoordMoveRow : OpenClaim := { program := "ytbpapiejmedkeaa", sum := "2c0c0ec72f9e602f91f50c8637f36d5a838c703a39fb00d863d442cc697fef8b", func := "loop.example/lightship/laws.FnExactCoordMove", spec := "fnExactCoordMove", apart := false }
def FnExactCoordMoveSaid : Prop := fnExactCoordMoveRow.holds Try.pinned (OpenSpec.ofChange fnExactCoordMoveSpec)

/-- ITS FALSE NEIGHBOUR: 'it returns false'. Refute it at one input. -/
def fnExactCoordMoveWrong : ChangeSpec := { name := "fnExactCoordMove", fn := fun _ => fun
  | [d1, d2, d3, d4] => { results := [.lit (.bool false)], args := [d1, d2, d3, d4] }
  | _ => none }
def FnExactCoordMoveWrongFalsely : Prop := fnExactCoordMoveRow.holds Try.pinned (OpenSpec.ofChange fnExactCoordMoveWrong)

/-- 'laws.FnCoordBad': WHATEVER THE INPUT: true; the input reads as it did. -/
def fnCoordBadSpec : ChangeSpec := { name := "fnCoordBad", fn := fun _ => fun
  | [d] => { results := [.lit (.bool true)], args := [d] }
  | _ => none }
def fnCoordBadRow : OpenClaim := { program := "ytbpapiejmedkeaa", sum := "2c0c0ec72f9e602f91f50c8637f36d5a838c703a39fb00d863d442cc697fef8b", func := "loop.example/lightship/laws.FnCoordBad", spec := "fnCoordBad", apart := false }
def FnCoordBadSaid : Prop := fnCoordBadRow.holds Try.pinned (OpenSpec.ofChange fnCoordBadSpec)

/-- ITS FALSE NEIGHBOUR: 'it returns false'. Refute it at one input. -/
def fnCoordBadWrong : ChangeSpec := { name := "fnCoordBad", fn := fun _ => fun
  | [d] => { results := [.lit (.bool false)], args := [d] }
  | _ => none }
def FnCoordBadWrongFalsely : Prop := fnCoordBadRow.holds Try.pinned (OpenSpec.ofChange fnCoordBadWrong)

/-- 'laws.FnCoordTurn': WHATEVER THE INPUT: true; the input reads as it did. -/
def fnCoordTurnSpec : ChangeSpec := { name := "fnCoordTurn", fn := fun _ => fun
  | [d] => { results := [.lit (.bool true)], args := [d] }
  | _ => none }
def fnCoordTurnRow : OpenClaim := { program := "ytbpapiejmedkeaa", sum := "2c0c0ec72f9e602f91f50c8637f36d5a838c703a39fb00d863d442cc697fef8b", func := "loop.example/lightship/laws.FnCoordTurn", spec := "fnCoordTurn", apart := false }
def FnCoordTurnSaid : Prop := fnCoordTurnRow.holds Try.pinned (OpenSpec.ofChange fnCoordTurnSpec)

/-- ITS FALSE NEIGHBOUR: 'it returns false'. Refute it at one input. -/
def fnCoordTurnWrong : ChangeSpec := { name := "fnCoordTurn", fn := fun _ => fun
  | [d] => { results := [.lit (.bool false)], args := [d] }
  | _ => none }
def FnCoordTurnWrongFalsely : Prop := fnCoordTurnRow.holds Try.pinned (OpenSpec.ofChange fnCoordTurnWrong)

/-- 'laws.FnCoordBox': WHATEVER THE INPUT: true; the input reads as it did. -/
def fnCoordBoxSpec : ChangeSpec := { name := "fnCoordBox", fn := fun _ => fun
  | [d] => { results := [.lit (.bool true)], args := [d] }
  | _ => none }
def fnCoordBoxRow : OpenClaim := { program := "ytbpapiejmedkeaa", sum := "2c0c0ec72f9e602f91f50c8637f36d5a838c703a39fb00d863d442cc697fef8b", func := "loop.example/lightship/laws.FnCoordBox", spec := "fnCoordBox", apart := false }
def FnCoordBoxSaid : Prop := fnCoordBoxRow.holds Try.pinned (OpenSpec.ofChange fnCoordBoxSpec)

/-- ITS FALSE NEIGHBOUR: 'it returns false'. Refute it at one input. -/
def fnCoordBoxWrong : ChangeSpec := { name := "fnCoordBox", fn := fun _ => fun
  | [d] => { results := [.lit (.bool false)], args := [d] }
  | _ => none }
def FnCoordBoxWrongFalsely : Prop := fnCoordBoxRow.holds Try.pinned (OpenSpec.ofChange fnCoordBoxWrong)

/-- 'laws.FnCoordNear': WHATEVER THE INPUT: true; the input reads as it did. -/
def fnCoordNearSpec : ChangeSpec := { name := "fnCoordNear", fn := fun _ => fun
  | [d] => { results := [.lit (.bool true)], args := [d] }
  | _ => none }
def fnCoordNearRow : OpenClaim := { program := "ytbpapiejmedkeaa", sum := "2c0c0ec72f9e602f91f50c8637f36d5a838c703a39fb00d863d442cc697fef8b", func := "loop.example/lightship/laws.FnCoordNear", spec := "fnCoordNear", apart := false }
def FnCoordNearSaid : Prop := fnCoordNearRow.holds Try.pinned (OpenSpec.ofChange fnCoordNearSpec)

/-- ITS FALSE NEIGHBOUR: 'it returns false'. Refute it at one input. -/
def fnCoordNearWrong : ChangeSpec := { name := "fnCoordNear", fn := fun _ => fun
  | [d] => { results := [.lit (.bool false)], args := [d] }
  | _ => none }
def FnCoordNearWrongFalsely : Prop := fnCoordNearRow.holds Try.pinned (OpenSpec.ofChange fnCoordNearWrong)

/-- 'laws.FnExactCoordMedian': WHATEVER THE INPUT: true; the input reads as it did. -/
def fnExactCoordMedianSpec : ChangeSpec := { name := "fnExactCoordMedian", fn := fun _ => fun
  | [d] => { results := [.lit (.bool true)], args := [d] }
  | _ => none }
def fnExactCoordMedianRow : OpenClaim := { program := "ytbpapiejmedkeaa", sum := "2c0c0ec72f9e602f91f50c8637f36d5a838c703a39fb00d863d442cc697fef8b", func := "loop.example/lightship/laws.FnExactCoordMedian", spec := "fnExactCoordMedian", unfollowed := true, recurses := true, apart := false }
def FnExactCoordMedianSaid : Prop := fnExactCoordMedianRow.holds Try.pinned (OpenSpec.ofChange fnExactCoordMedianSpec)

/-- ITS FALSE NEIGHBOUR: 'it returns false'. Refute it at one input. -/
def fnExactCoordMedianWrong : ChangeSpec := { name := "fnExactCoordMedian", fn := fun _ => fun
  | [d] => { results := [.lit (.bool false)], args := [d] }
  | _ => none }
def FnExactCoordMedianWrongFalsely : Prop := fnExactCoordMedianRow.holds Try.pinned (OpenSpec.ofChange fnExactCoordMedianWrong)

/-- 'laws.FnCoordMedian': WHATEVER THE INPUT: true; the input reads as it did. -/
def fnCoordMedianSpec : ChangeSpec := { name := "fnCoordMedian", fn := fun _ => fun
  | [d] => { results := [.lit (.bool true)], args := [d] }
  | _ => none }
def fnCoordMedianRow : OpenClaim := { program := "ytbpapiejmedkeaa", sum := "2c0c0ec72f9e602f91f50c8637f36d5a838c703a39fb00d863d442cc697fef8b", func := "loop.example/lightship/laws.FnCoordMedian", spec := "fnCoordMedian", unfollowed := true, recurses := true, apart := false }
def FnCoordMedianSaid : Prop := fnCoordMedianRow.holds Try.pinned (OpenSpec.ofChange fnCoordMedianSpec)

/-- ITS FALSE NEIGHBOUR: 'it returns false'. Refute it at one input. -/
def fnCoordMedianWrong : ChangeSpec := { name := "fnCoordMedian", fn := fun _ => fun
  | [d] => { results := [.lit (.bool false)], args := [d] }
  | _ => none }
def FnCoordMedianWrongFalsely : Prop := fnCoordMedianRow.holds Try.pinned (OpenSpec.ofChange fnCoordMedianWrong)

/- THE SECOND FORM. 'bulk': how many values and letters a reading holds, each counted each time it is reached (what is shared counts as often as it is met; a slice's spare places count too). A statement '..UptoSaid' is the law's where the arguments, and the package variables that the reading takes, are together of bulk at most 1048576: NARROWER than '..Said'. Prove '..Said' where nothing that the law and all that it calls make is longer than what came in: it says more and counts as full. Else prove '..UptoSaid'. A law counts once. -/
mutual
def uptoBulk {H : Type} : DataW H → Nat
  | .lit (.string bytes) => bytes.length + 1
  | .lit _ => 1
  | .nil => 1
  | .ptr d => uptoBulk d + 1
  | .slice elems spare => uptoBulkAll elems + uptoBulkAll spare + 1
  | .agg parts => uptoBulkAll parts + 1
  | .iface _ d => uptoBulk d + 1
  | .map entries => uptoBulkEntries entries + 1
  | .held _ => 1
def uptoBulkAll {H : Type} : List (DataW H) → Nat
  | [] => 0
  | d :: r => uptoBulk d + uptoBulkAll r
def uptoBulkEntries {H : Type} : List (Lit × DataW H) → Nat
  | [] => 0
  | x :: r => uptoBulkEntry x + uptoBulkEntries r
def uptoBulkEntry {H : Type} : Lit × DataW H → Nat
  | (.string bytes, d) => bytes.length + uptoBulk d + 1
  | (_, d) => uptoBulk d + 1
 end
def uptoSmall : (H : Type) → List (DataW H) → Bool := fun _ ds => decide (uptoBulkAll ds ≤ 1048576)
def OpenSpec.upto (s : _root_.Go.ChangeSpec) : _root_.Go.OpenSpec := { _root_.Go.OpenSpec.ofChange s with cond := some uptoSmall }

/-- 'laws.FnExactCoordDist', WHERE WHAT IT READS IS OF BULK AT MOST 1048576: true; the input reads as it did. -/
def fnExactCoordDistUptoRow : OpenClaim := { program := "ytbpapiejmedkeaa", sum := "2c0c0ec72f9e602f91f50c8637f36d5a838c703a39fb00d863d442cc697fef8b", func := "loop.example/lightship/laws.FnExactCoordDist", spec := "fnExactCoordDist", apart := false, narrowed := true }
def FnExactCoordDistUptoSaid : Prop := fnExactCoordDistUptoRow.holds Try.pinned (OpenSpec.upto fnExactCoordDistSpec)

/-- 'laws.FnCoordDist', WHERE WHAT IT READS IS OF BULK AT MOST 1048576: true; the input reads as it did. -/
def fnCoordDistUptoRow : OpenClaim := { program := "ytbpapiejmedkeaa", sum := "2c0c0ec72f9e602f91f50c8637f36d5a838c703a39fb00d863d442cc697fef8b", func := "loop.example/lightship/laws.FnCoordDist", spec := "fnCoordDist", apart := false, narrowed := true }
def FnCoordDistUptoSaid : Prop := fnCoordDistUptoRow.holds Try.pinned (OpenSpec.upto fnCoordDistSpec)

/-- 'laws.FnCoordStill', WHERE WHAT IT READS IS OF BULK AT MOST 1048576: true; the input reads as it did. -/
def fnCoordStillUptoRow : OpenClaim := { program := "ytbpapiejmedkeaa", sum := "2c0c0ec72f9e602f91f50c8637f36d5a838c703a39fb00d863d442cc697fef8b", func := "loop.example/lightship/laws.FnCoordStill", spec := "fnCoordStill", apart := false, narrowed := true }
def FnCoordStillUptoSaid : Prop := fnCoordStillUptoRow.holds Try.pinned (OpenSpec.upto fnCoordStillSpec)

/-- 'laws.FnExactCoordMove', WHERE WHAT IT READS IS OF BULK AT MOST 1048576: true; the input reads as it did. -/
def fnExactCoordMoveUptoRow : OpenClaim := { program := "ytbpapiejmedkeaa", sum := "2c0c0ec72f9e602f91f50c8637f36d5a838c703a39fb00d863d442cc697fef8b", func := "loop.example/lightship/laws.FnExactCoordMove", spec := "fnExactCoordMove", apart := false, narrowed := true }
def FnExactCoordMoveUptoSaid : Prop := fnExactCoordMoveUptoRow.holds Try.pinned (OpenSpec.upto fnExactCoordMoveSpec)

/-- 'laws.FnCoordBad', WHERE WHAT IT READS IS OF BULK AT MOST 1048576: true; the input reads as it did. -/
def fnCoordBadUptoRow : OpenClaim := { program := "ytbpapiejmedkeaa", sum := "2c0c0ec72f9e602f91f50c8637f36d5a838c703a39fb00d863d442cc697fef8b", func := "loop.example/lightship/laws.FnCoordBad", spec := "fnCoordBad", apart := false, narrowed := true }
def FnCoordBadUptoSaid : Prop := fnCoordBadUptoRow.holds Try.pinned (OpenSpec.upto fnCoordBadSpec)

/-- 'laws.FnCoordTurn', WHERE WHAT IT READS IS OF BULK AT MOST 1048576: true; the input reads as it did. -/
def fnCoordTurnUptoRow : OpenClaim := { program := "ytbpapiejmedkeaa", sum := "2c0c0ec72f9e602f91f50c8637f36d5a838c703a39fb00d863d442cc697fef8b", func := "loop.example/lightship/laws.FnCoordTurn", spec := "fnCoordTurn", apart := false, narrowed := true }
def FnCoordTurnUptoSaid : Prop := fnCoordTurnUptoRow.holds Try.pinned (OpenSpec.upto fnCoordTurnSpec)

/-- 'laws.FnCoordBox', WHERE WHAT IT READS IS OF BULK AT MOST 1048576: true; the input reads as it did. -/
def fnCoordBoxUptoRow : OpenClaim := { program := "ytbpapiejmedkeaa", sum := "2c0c0ec72f9e602f91f50c8637f36d5a838c703a39fb00d863d442cc697fef8b", func := "loop.example/lightship/laws.FnCoordBox", spec := "fnCoordBox", apart := false, narrowed := true }
def FnCoordBoxUptoSaid : Prop := fnCoordBoxUptoRow.holds Try.pinned (OpenSpec.upto fnCoordBoxSpec)

/-- 'laws.FnCoordNear', WHERE WHAT IT READS IS OF BULK AT MOST 1048576: true; the input reads as it did. -/
def fnCoordNearUptoRow : OpenClaim := { program := "ytbpapiejmedkeaa", sum := "2c0c0ec72f9e602f91f50c8637f36d5a838c703a39fb00d863d442cc697fef8b", func := "loop.example/lightship/laws.FnCoordNear", spec := "fnCoordNear", apart := false, narrowed := true }
def FnCoordNearUptoSaid : Prop := fnCoordNearUptoRow.holds Try.pinned (OpenSpec.upto fnCoordNearSpec)

/-- 'laws.FnExactCoordMedian', WHERE WHAT IT READS IS OF BULK AT MOST 1048576: true; the input reads as it did. -/
def fnExactCoordMedianUptoRow : OpenClaim := { program := "ytbpapiejmedkeaa", sum := "2c0c0ec72f9e602f91f50c8637f36d5a838c703a39fb00d863d442cc697fef8b", func := "loop.example/lightship/laws.FnExactCoordMedian", spec := "fnExactCoordMedian", unfollowed := true, recurses := true, apart := false, narrowed := true }
def FnExactCoordMedianUptoSaid : Prop := fnExactCoordMedianUptoRow.holds Try.pinned (OpenSpec.upto fnExactCoordMedianSpec)

/-- 'laws.FnCoordMedian', WHERE WHAT IT READS IS OF BULK AT MOST 1048576: true; the input reads as it did. -/
def fnCoordMedianUptoRow : OpenClaim := { program := "ytbpapiejmedkeaa", sum := "2c0c0ec72f9e602f91f50c8637f36d5a838c703a39fb00d863d442cc697fef8b", func := "loop.example/lightship/laws.FnCoordMedian", spec := "fnCoordMedian", unfollowed := true, recurses := true, apart := false, narrowed := true }
def FnCoordMedianUptoSaid : Prop := fnCoordMedianUptoRow.holds Try.pinned (OpenSpec.upto fnCoordMedianSpec)

end Rows
end Go.Proofs.Ytbpapiejmedkeaa
