/-
  No cell of these rows narrows 'for every input' (looked for: loops, veiled, ifaces, maps, wideKeys, modest, calm, conditions, laid).
  DERIVED. THE GIVEN ROWS OF THIS SEAT. 18 by the template 'for every input the law returns true; each argument reads behind the call as it read before'; 0 by the template 'total and deterministic' (their statements: YtjgoejdjhpphnaaTotals.lean).
  GIVEN WITH THE SEED: the statements are not yours to turn. If you find one false, say at which input.
  Laid BY PROGRAM, IN A SANDBOX (cutbox-rows.mjs): the forced cells as the released guide's own fill.sh prints them over the translation 5567c536110c0f3d… (all of the seat's roots in one cut). By AI agents, Wed Nov 11 2026. No macro, syntax, notation, axiom, sorry.
-/
import Derived.Test.YtjgoejdjhpphnaaChecked
import GoSem.Claim
import GoSem.ClaimJoined
import GoSem.ClaimMapViews
import Derived.JoinedTies
import Derived.KernelRfl
namespace Go.Proofs.Ytjgoejdjhpphnaa
/- THE CELL 'sum', in the pinned program and in every row, IS THE sha256 OF THE DUMP (.gsa) THAT YtjgoejdjhpphnaaProg.lean LOADS. Nothing in Lean hashes anything: it is a label: what it is worth is what the hold of that sum in a sandbox is worth. -/
noncomputable def Try.pinned : Pinned := { name := "ytjgoejdjhpphnaa", sum := "5567c536110c0f3d5941c784020d9f4a3bdbe03e790f4ffc3e0081eef949712c", checked := Try.checked }
namespace Rows
def none {H : Type} : Left H := { results := [], args := [] }

/-- 'laws.FnExactTableOk': WHATEVER THE INPUT: true; the input reads as it did. -/
def fnExactTableOkSpec : ChangeSpec := { name := "fnExactTableOk", fn := fun _ => fun
  | [d] => { results := [.lit (.bool true)], args := [d] }
  | _ => none }
def fnExactTableOkRow : OpenClaim := { program := "ytjgoejdjhpphnaa", sum := "5567c536110c0f3d5941c784020d9f4a3bdbe03e790f4ffc3e0081eef949712c", func := "loop.example/lightship/laws.FnExactTableOk", spec := "fnExactTableOk", apart := false }
def FnExactTableOkSaid : Prop := fnExactTableOkRow.holds Try.pinned (OpenSpec.ofChange fnExactTableOkSpec)

/-- ITS FALSE NEIGHBOUR: 'it returns false'. Refute it at one input. -/
def fnExactTableOkWrong : ChangeSpec := { name := "fnExactTableOk", fn := fun _ => fun
  | [d] => { results := [.lit (.bool false)], args := [d] }
  | _ => none }
def FnExactTableOkWrongFalsely : Prop := fnExactTableOkRow.holds Try.pinned (OpenSpec.ofChange fnExactTableOkWrong)

/-- 'laws.FnExactFactOver': WHATEVER THE INPUT: true; the input reads as it did. -/
def fnExactFactOverSpec : ChangeSpec := { name := "fnExactFactOver", fn := fun _ => fun
  | [d1, d2] => { results := [.lit (.bool true)], args := [d1, d2] }
  | _ => none }
def fnExactFactOverRow : OpenClaim := { program := "ytjgoejdjhpphnaa", sum := "5567c536110c0f3d5941c784020d9f4a3bdbe03e790f4ffc3e0081eef949712c", func := "loop.example/lightship/laws.FnExactFactOver", spec := "fnExactFactOver", apart := false }
def FnExactFactOverSaid : Prop := fnExactFactOverRow.holds Try.pinned (OpenSpec.ofChange fnExactFactOverSpec)

/-- ITS FALSE NEIGHBOUR: 'it returns false'. Refute it at one input. -/
def fnExactFactOverWrong : ChangeSpec := { name := "fnExactFactOver", fn := fun _ => fun
  | [d1, d2] => { results := [.lit (.bool false)], args := [d1, d2] }
  | _ => none }
def FnExactFactOverWrongFalsely : Prop := fnExactFactOverRow.holds Try.pinned (OpenSpec.ofChange fnExactFactOverWrong)

/-- 'laws.FnExactTableVersion': WHATEVER THE INPUT: true; the input reads as it did. -/
def fnExactTableVersionSpec : ChangeSpec := { name := "fnExactTableVersion", fn := fun _ => fun
  | [d] => { results := [.lit (.bool true)], args := [d] }
  | _ => none }
def fnExactTableVersionRow : OpenClaim := { program := "ytjgoejdjhpphnaa", sum := "5567c536110c0f3d5941c784020d9f4a3bdbe03e790f4ffc3e0081eef949712c", func := "loop.example/lightship/laws.FnExactTableVersion", spec := "fnExactTableVersion", apart := false }
def FnExactTableVersionSaid : Prop := fnExactTableVersionRow.holds Try.pinned (OpenSpec.ofChange fnExactTableVersionSpec)

/-- ITS FALSE NEIGHBOUR: 'it returns false'. Refute it at one input. -/
def fnExactTableVersionWrong : ChangeSpec := { name := "fnExactTableVersion", fn := fun _ => fun
  | [d] => { results := [.lit (.bool false)], args := [d] }
  | _ => none }
def FnExactTableVersionWrongFalsely : Prop := fnExactTableVersionRow.holds Try.pinned (OpenSpec.ofChange fnExactTableVersionWrong)

/-- 'laws.FnFactOver': WHATEVER THE INPUT: true; the input reads as it did. -/
def fnFactOverSpec : ChangeSpec := { name := "fnFactOver", fn := fun _ => fun
  | [d] => { results := [.lit (.bool true)], args := [d] }
  | _ => none }
def fnFactOverRow : OpenClaim := { program := "ytjgoejdjhpphnaa", sum := "5567c536110c0f3d5941c784020d9f4a3bdbe03e790f4ffc3e0081eef949712c", func := "loop.example/lightship/laws.FnFactOver", spec := "fnFactOver", apart := false }
def FnFactOverSaid : Prop := fnFactOverRow.holds Try.pinned (OpenSpec.ofChange fnFactOverSpec)

/-- ITS FALSE NEIGHBOUR: 'it returns false'. Refute it at one input. -/
def fnFactOverWrong : ChangeSpec := { name := "fnFactOver", fn := fun _ => fun
  | [d] => { results := [.lit (.bool false)], args := [d] }
  | _ => none }
def FnFactOverWrongFalsely : Prop := fnFactOverRow.holds Try.pinned (OpenSpec.ofChange fnFactOverWrong)

/-- 'laws.FnExactTableOf': WHATEVER THE INPUT: true; the input reads as it did. -/
def fnExactTableOfSpec : ChangeSpec := { name := "fnExactTableOf", fn := fun _ => fun
  | [d1, d2] => { results := [.lit (.bool true)], args := [d1, d2] }
  | _ => none }
def fnExactTableOfRow : OpenClaim := { program := "ytjgoejdjhpphnaa", sum := "5567c536110c0f3d5941c784020d9f4a3bdbe03e790f4ffc3e0081eef949712c", func := "loop.example/lightship/laws.FnExactTableOf", spec := "fnExactTableOf", unfollowed := true, recurses := true, apart := false }
def FnExactTableOfSaid : Prop := fnExactTableOfRow.holds Try.pinned (OpenSpec.ofChange fnExactTableOfSpec)

/-- ITS FALSE NEIGHBOUR: 'it returns false'. Refute it at one input. -/
def fnExactTableOfWrong : ChangeSpec := { name := "fnExactTableOf", fn := fun _ => fun
  | [d1, d2] => { results := [.lit (.bool false)], args := [d1, d2] }
  | _ => none }
def FnExactTableOfWrongFalsely : Prop := fnExactTableOfRow.holds Try.pinned (OpenSpec.ofChange fnExactTableOfWrong)

/-- 'laws.FnExactTableGates': WHATEVER THE INPUT: true; the input reads as it did. -/
def fnExactTableGatesSpec : ChangeSpec := { name := "fnExactTableGates", fn := fun _ => fun
  | [d1, d2] => { results := [.lit (.bool true)], args := [d1, d2] }
  | _ => none }
def fnExactTableGatesRow : OpenClaim := { program := "ytjgoejdjhpphnaa", sum := "5567c536110c0f3d5941c784020d9f4a3bdbe03e790f4ffc3e0081eef949712c", func := "loop.example/lightship/laws.FnExactTableGates", spec := "fnExactTableGates", unfollowed := true, recurses := true, apart := false }
def FnExactTableGatesSaid : Prop := fnExactTableGatesRow.holds Try.pinned (OpenSpec.ofChange fnExactTableGatesSpec)

/-- ITS FALSE NEIGHBOUR: 'it returns false'. Refute it at one input. -/
def fnExactTableGatesWrong : ChangeSpec := { name := "fnExactTableGates", fn := fun _ => fun
  | [d1, d2] => { results := [.lit (.bool false)], args := [d1, d2] }
  | _ => none }
def FnExactTableGatesWrongFalsely : Prop := fnExactTableGatesRow.holds Try.pinned (OpenSpec.ofChange fnExactTableGatesWrong)

/-- 'laws.FnExactWordOk': WHATEVER THE INPUT: true; the input reads as it did. -/
def fnExactWordOkSpec : ChangeSpec := { name := "fnExactWordOk", fn := fun _ => fun
  | [d] => { results := [.lit (.bool true)], args := [d] }
  | _ => none }
def fnExactWordOkRow : OpenClaim := { program := "ytjgoejdjhpphnaa", sum := "5567c536110c0f3d5941c784020d9f4a3bdbe03e790f4ffc3e0081eef949712c", func := "loop.example/lightship/laws.FnExactWordOk", spec := "fnExactWordOk", unfollowed := true, recurses := true, apart := false }
def FnExactWordOkSaid : Prop := fnExactWordOkRow.holds Try.pinned (OpenSpec.ofChange fnExactWordOkSpec)

/-- ITS FALSE NEIGHBOUR: 'it returns false'. Refute it at one input. -/
def fnExactWordOkWrong : ChangeSpec := { name := "fnExactWordOk", fn := fun _ => fun
  | [d] => { results := [.lit (.bool false)], args := [d] }
  | _ => none }
def FnExactWordOkWrongFalsely : Prop := fnExactWordOkRow.holds Try.pinned (OpenSpec.ofChange fnExactWordOkWrong)

/-- 'laws.FnExactTablePut': WHATEVER THE INPUT: true; the input reads as it did. -/
def fnExactTablePutSpec : ChangeSpec := { name := "fnExactTablePut", fn := fun _ => fun
  | [d1, d2] => { results := [.lit (.bool true)], args := [d1, d2] }
  | _ => none }
def fnExactTablePutRow : OpenClaim := { program := "ytjgoejdjhpphnaa", sum := "5567c536110c0f3d5941c784020d9f4a3bdbe03e790f4ffc3e0081eef949712c", func := "loop.example/lightship/laws.FnExactTablePut", spec := "fnExactTablePut", inPlace := ["slices.overlaps[loop.example/lightship/impl.Fact]"], unfollowed := true, recurses := true, apart := false }
def FnExactTablePutSaid : Prop := fnExactTablePutRow.holds Try.pinned (OpenSpec.ofChange fnExactTablePutSpec)

/-- ITS FALSE NEIGHBOUR: 'it returns false'. Refute it at one input. -/
def fnExactTablePutWrong : ChangeSpec := { name := "fnExactTablePut", fn := fun _ => fun
  | [d1, d2] => { results := [.lit (.bool false)], args := [d1, d2] }
  | _ => none }
def FnExactTablePutWrongFalsely : Prop := fnExactTablePutRow.holds Try.pinned (OpenSpec.ofChange fnExactTablePutWrong)

/-- 'laws.FnExactTableJoin': WHATEVER THE INPUT: true; the input reads as it did. -/
def fnExactTableJoinSpec : ChangeSpec := { name := "fnExactTableJoin", fn := fun _ => fun
  | [d1, d2] => { results := [.lit (.bool true)], args := [d1, d2] }
  | _ => none }
def fnExactTableJoinRow : OpenClaim := { program := "ytjgoejdjhpphnaa", sum := "5567c536110c0f3d5941c784020d9f4a3bdbe03e790f4ffc3e0081eef949712c", func := "loop.example/lightship/laws.FnExactTableJoin", spec := "fnExactTableJoin", inPlace := ["slices.overlaps[loop.example/lightship/impl.Fact]"], unfollowed := true, recurses := true, apart := false }
def FnExactTableJoinSaid : Prop := fnExactTableJoinRow.holds Try.pinned (OpenSpec.ofChange fnExactTableJoinSpec)

/-- ITS FALSE NEIGHBOUR: 'it returns false'. Refute it at one input. -/
def fnExactTableJoinWrong : ChangeSpec := { name := "fnExactTableJoin", fn := fun _ => fun
  | [d1, d2] => { results := [.lit (.bool false)], args := [d1, d2] }
  | _ => none }
def FnExactTableJoinWrongFalsely : Prop := fnExactTableJoinRow.holds Try.pinned (OpenSpec.ofChange fnExactTableJoinWrong)

/-- 'laws.FnTableVersion': WHATEVER THE INPUT: true; the input reads as it did. -/
def fnTableVersionSpec : ChangeSpec := { name := "fnTableVersion", fn := fun _ => fun
  | [d] => { results := [.lit (.bool true)], args := [d] }
  | _ => none }
def fnTableVersionRow : OpenClaim := { program := "ytjgoejdjhpphnaa", sum := "5567c536110c0f3d5941c784020d9f4a3bdbe03e790f4ffc3e0081eef949712c", func := "loop.example/lightship/laws.FnTableVersion", spec := "fnTableVersion", inPlace := ["slices.overlaps[loop.example/lightship/impl.Fact]"], unfollowed := true, recurses := true, apart := false }
def FnTableVersionSaid : Prop := fnTableVersionRow.holds Try.pinned (OpenSpec.ofChange fnTableVersionSpec)

/-- ITS FALSE NEIGHBOUR: 'it returns false'. Refute it at one input. -/
def fnTableVersionWrong : ChangeSpec := { name := "fnTableVersion", fn := fun _ => fun
  | [d] => { results := [.lit (.bool false)], args := [d] }
  | _ => none }
def FnTableVersionWrongFalsely : Prop := fnTableVersionRow.holds Try.pinned (OpenSpec.ofChange fnTableVersionWrong)

/-- 'laws.FnExactCastTake': WHATEVER THE INPUT: true; the input reads as it did. -/
def fnExactCastTakeSpec : ChangeSpec := { name := "fnExactCastTake", fn := fun _ => fun
  | [d1, d2] => { results := [.lit (.bool true)], args := [d1, d2] }
  | _ => none }
def fnExactCastTakeRow : OpenClaim := { program := "ytjgoejdjhpphnaa", sum := "5567c536110c0f3d5941c784020d9f4a3bdbe03e790f4ffc3e0081eef949712c", func := "loop.example/lightship/laws.FnExactCastTake", spec := "fnExactCastTake", unfollowed := true, recurses := true, apart := false }
def FnExactCastTakeSaid : Prop := fnExactCastTakeRow.holds Try.pinned (OpenSpec.ofChange fnExactCastTakeSpec)

/-- ITS FALSE NEIGHBOUR: 'it returns false'. Refute it at one input. -/
def fnExactCastTakeWrong : ChangeSpec := { name := "fnExactCastTake", fn := fun _ => fun
  | [d1, d2] => { results := [.lit (.bool false)], args := [d1, d2] }
  | _ => none }
def FnExactCastTakeWrongFalsely : Prop := fnExactCastTakeRow.holds Try.pinned (OpenSpec.ofChange fnExactCastTakeWrong)

/-- 'laws.FnCastAll': WHATEVER THE INPUT: true; the input reads as it did. -/
def fnCastAllSpec : ChangeSpec := { name := "fnCastAll", fn := fun _ => fun
  | [d] => { results := [.lit (.bool true)], args := [d] }
  | _ => none }
def fnCastAllRow : OpenClaim := { program := "ytjgoejdjhpphnaa", sum := "5567c536110c0f3d5941c784020d9f4a3bdbe03e790f4ffc3e0081eef949712c", func := "loop.example/lightship/laws.FnCastAll", spec := "fnCastAll", unfollowed := true, recurses := true, apart := false }
def FnCastAllSaid : Prop := fnCastAllRow.holds Try.pinned (OpenSpec.ofChange fnCastAllSpec)

/-- ITS FALSE NEIGHBOUR: 'it returns false'. Refute it at one input. -/
def fnCastAllWrong : ChangeSpec := { name := "fnCastAll", fn := fun _ => fun
  | [d] => { results := [.lit (.bool false)], args := [d] }
  | _ => none }
def FnCastAllWrongFalsely : Prop := fnCastAllRow.holds Try.pinned (OpenSpec.ofChange fnCastAllWrong)

/-- 'laws.FnCastFirst': WHATEVER THE INPUT: true; the input reads as it did. -/
def fnCastFirstSpec : ChangeSpec := { name := "fnCastFirst", fn := fun _ => fun
  | [d] => { results := [.lit (.bool true)], args := [d] }
  | _ => none }
def fnCastFirstRow : OpenClaim := { program := "ytjgoejdjhpphnaa", sum := "5567c536110c0f3d5941c784020d9f4a3bdbe03e790f4ffc3e0081eef949712c", func := "loop.example/lightship/laws.FnCastFirst", spec := "fnCastFirst", unfollowed := true, recurses := true, apart := false }
def FnCastFirstSaid : Prop := fnCastFirstRow.holds Try.pinned (OpenSpec.ofChange fnCastFirstSpec)

/-- ITS FALSE NEIGHBOUR: 'it returns false'. Refute it at one input. -/
def fnCastFirstWrong : ChangeSpec := { name := "fnCastFirst", fn := fun _ => fun
  | [d] => { results := [.lit (.bool false)], args := [d] }
  | _ => none }
def FnCastFirstWrongFalsely : Prop := fnCastFirstRow.holds Try.pinned (OpenSpec.ofChange fnCastFirstWrong)

/-- 'laws.FnExactCastOk': WHATEVER THE INPUT: true; the input reads as it did. -/
def fnExactCastOkSpec : ChangeSpec := { name := "fnExactCastOk", fn := fun _ => fun
  | [d] => { results := [.lit (.bool true)], args := [d] }
  | _ => none }
def fnExactCastOkRow : OpenClaim := { program := "ytjgoejdjhpphnaa", sum := "5567c536110c0f3d5941c784020d9f4a3bdbe03e790f4ffc3e0081eef949712c", func := "loop.example/lightship/laws.FnExactCastOk", spec := "fnExactCastOk", unfollowed := true, recurses := true, apart := false }
def FnExactCastOkSaid : Prop := fnExactCastOkRow.holds Try.pinned (OpenSpec.ofChange fnExactCastOkSpec)

/-- ITS FALSE NEIGHBOUR: 'it returns false'. Refute it at one input. -/
def fnExactCastOkWrong : ChangeSpec := { name := "fnExactCastOk", fn := fun _ => fun
  | [d] => { results := [.lit (.bool false)], args := [d] }
  | _ => none }
def FnExactCastOkWrongFalsely : Prop := fnExactCastOkRow.holds Try.pinned (OpenSpec.ofChange fnExactCastOkWrong)

/-- 'laws.FnExactCastPut': WHATEVER THE INPUT: true; the input reads as it did. -/
def fnExactCastPutSpec : ChangeSpec := { name := "fnExactCastPut", fn := fun _ => fun
  | [d1, d2] => { results := [.lit (.bool true)], args := [d1, d2] }
  | _ => none }
def fnExactCastPutRow : OpenClaim := { program := "ytjgoejdjhpphnaa", sum := "5567c536110c0f3d5941c784020d9f4a3bdbe03e790f4ffc3e0081eef949712c", func := "loop.example/lightship/laws.FnExactCastPut", spec := "fnExactCastPut", inPlace := ["slices.overlaps[loop.example/lightship/impl.Item]"], unfollowed := true, recurses := true, apart := false }
def FnExactCastPutSaid : Prop := fnExactCastPutRow.holds Try.pinned (OpenSpec.ofChange fnExactCastPutSpec)

/-- ITS FALSE NEIGHBOUR: 'it returns false'. Refute it at one input. -/
def fnExactCastPutWrong : ChangeSpec := { name := "fnExactCastPut", fn := fun _ => fun
  | [d1, d2] => { results := [.lit (.bool false)], args := [d1, d2] }
  | _ => none }
def FnExactCastPutWrongFalsely : Prop := fnExactCastPutRow.holds Try.pinned (OpenSpec.ofChange fnExactCastPutWrong)

/-- 'laws.FnCastKeep': WHATEVER THE INPUT: true; the input reads as it did. -/
def fnCastKeepSpec : ChangeSpec := { name := "fnCastKeep", fn := fun _ => fun
  | [d] => { results := [.lit (.bool true)], args := [d] }
  | _ => none }
def fnCastKeepRow : OpenClaim := { program := "ytjgoejdjhpphnaa", sum := "5567c536110c0f3d5941c784020d9f4a3bdbe03e790f4ffc3e0081eef949712c", func := "loop.example/lightship/laws.FnCastKeep", spec := "fnCastKeep", inPlace := ["slices.overlaps[loop.example/lightship/impl.Item]"], unfollowed := true, recurses := true, apart := false }
def FnCastKeepSaid : Prop := fnCastKeepRow.holds Try.pinned (OpenSpec.ofChange fnCastKeepSpec)

/-- ITS FALSE NEIGHBOUR: 'it returns false'. Refute it at one input. -/
def fnCastKeepWrong : ChangeSpec := { name := "fnCastKeep", fn := fun _ => fun
  | [d] => { results := [.lit (.bool false)], args := [d] }
  | _ => none }
def FnCastKeepWrongFalsely : Prop := fnCastKeepRow.holds Try.pinned (OpenSpec.ofChange fnCastKeepWrong)

/-- 'laws.FnCastNew': WHATEVER THE INPUT: true; the input reads as it did. -/
def fnCastNewSpec : ChangeSpec := { name := "fnCastNew", fn := fun _ => fun
  | [d] => { results := [.lit (.bool true)], args := [d] }
  | _ => none }
def fnCastNewRow : OpenClaim := { program := "ytjgoejdjhpphnaa", sum := "5567c536110c0f3d5941c784020d9f4a3bdbe03e790f4ffc3e0081eef949712c", func := "loop.example/lightship/laws.FnCastNew", spec := "fnCastNew", inPlace := ["slices.overlaps[loop.example/lightship/impl.Item]"], unfollowed := true, recurses := true, apart := false }
def FnCastNewSaid : Prop := fnCastNewRow.holds Try.pinned (OpenSpec.ofChange fnCastNewSpec)

/-- ITS FALSE NEIGHBOUR: 'it returns false'. Refute it at one input. -/
def fnCastNewWrong : ChangeSpec := { name := "fnCastNew", fn := fun _ => fun
  | [d] => { results := [.lit (.bool false)], args := [d] }
  | _ => none }
def FnCastNewWrongFalsely : Prop := fnCastNewRow.holds Try.pinned (OpenSpec.ofChange fnCastNewWrong)

/-- 'laws.FnExactNodeNew': WHATEVER THE INPUT: true; the input reads as it did. -/
def fnExactNodeNewSpec : ChangeSpec := { name := "fnExactNodeNew", fn := fun _ => fun
  | [d1, d2] => { results := [.lit (.bool true)], args := [d1, d2] }
  | _ => none }
def fnExactNodeNewRow : OpenClaim := { program := "ytjgoejdjhpphnaa", sum := "5567c536110c0f3d5941c784020d9f4a3bdbe03e790f4ffc3e0081eef949712c", func := "loop.example/lightship/laws.FnExactNodeNew", spec := "fnExactNodeNew", apart := false }
def FnExactNodeNewSaid : Prop := fnExactNodeNewRow.holds Try.pinned (OpenSpec.ofChange fnExactNodeNewSpec)

/-- ITS FALSE NEIGHBOUR: 'it returns false'. Refute it at one input. -/
def fnExactNodeNewWrong : ChangeSpec := { name := "fnExactNodeNew", fn := fun _ => fun
  | [d1, d2] => { results := [.lit (.bool false)], args := [d1, d2] }
  | _ => none }
def FnExactNodeNewWrongFalsely : Prop := fnExactNodeNewRow.holds Try.pinned (OpenSpec.ofChange fnExactNodeNewWrong)

/- THE SECOND FORM. 'bulk': how many values and letters a reading holds, each counted each time it is reached (what is shared counts as often as it is met; a slice's spare places count too). A statement '..UptoSaid' is the law's where the arguments, and the package variables that the reading takes, are together of bulk at most 1048576: NARROWER than '..Said'. Prove '..Said' where nothing that the law and all that it calls make is longer than what came in: it says more and counts as full. Else prove '..UptoSaid'. A law counts once. -/
mutual
def uptoBulk {H : Type} : DataW H → Nat
  | .lit (.string bytes) => bytes.length + 1
  | .lit _ => 1
  | .nil => 1
  | .ptr d => uptoBulk d + 1
  | .slice elems spare => uptoBulkAll elems + uptoBulkAll spare + 1
  | .agg parts => uptoBulkAll parts + 1
  | .iface _ d => uptoBulk d + 1
  | .map entries => uptoBulkEntries entries + 1
  | .held _ => 1
def uptoBulkAll {H : Type} : List (DataW H) → Nat
  | [] => 0
  | d :: r => uptoBulk d + uptoBulkAll r
def uptoBulkEntries {H : Type} : List (Lit × DataW H) → Nat
  | [] => 0
  | x :: r => uptoBulkEntry x + uptoBulkEntries r
def uptoBulkEntry {H : Type} : Lit × DataW H → Nat
  | (.string bytes, d) => bytes.length + uptoBulk d + 1
  | (_, d) => uptoBulk d + 1
 end
def uptoSmall : (H : Type) → List (DataW H) → Bool := fun _ ds => decide (uptoBulkAll ds ≤ 1048576)
def OpenSpec.upto (s : _root_.Go.ChangeSpec) : _root_.Go.OpenSpec := { _root_.Go.OpenSpec.ofChange s with cond := some uptoSmall }

/-- 'laws.FnExactTableOk', WHERE WHAT IT READS IS OF BULK AT MOST 1048576: true; the input reads as it did. -/
def fnExactTableOkUptoRow : OpenClaim := { program := "ytjgoejdjhpphnaa", sum := "5567c536110c0f3d5941c784020d9f4a3bdbe03e790f4ffc3e0081eef949712c", func := "loop.example/lightship/laws.FnExactTableOk", spec := "fnExactTableOk", apart := false, narrowed := true }
def FnExactTableOkUptoSaid : Prop := fnExactTableOkUptoRow.holds Try.pinned (OpenSpec.upto fnExactTableOkSpec)

/-- 'laws.FnExactFactOver', WHERE WHAT IT READS IS OF BULK AT MOST 1048576: true; the input reads as it did. -/
def fnExactFactOverUptoRow : OpenClaim := { program := "ytjgoejdjhpphnaa", sum := "5567c536110c0f3d5941c784020d9f4a3bdbe03e790f4ffc3e0081eef949712c", func := "loop.example/lightship/laws.FnExactFactOver", spec := "fnExactFactOver", apart := false, narrowed := true }
def FnExactFactOverUptoSaid : Prop := fnExactFactOverUptoRow.holds Try.pinned (OpenSpec.upto fnExactFactOverSpec)

/-- 'laws.FnExactTableVersion', WHERE WHAT IT READS IS OF BULK AT MOST 1048576: true; the input reads as it did. -/
def fnExactTableVersionUptoRow : OpenClaim := { program := "ytjgoejdjhpphnaa", sum := "5567c536110c0f3d5941c784020d9f4a3bdbe03e790f4ffc3e0081eef949712c", func := "loop.example/lightship/laws.FnExactTableVersion", spec := "fnExactTableVersion", apart := false, narrowed := true }
def FnExactTableVersionUptoSaid : Prop := fnExactTableVersionUptoRow.holds Try.pinned (OpenSpec.upto fnExactTableVersionSpec)

/-- 'laws.FnFactOver', WHERE WHAT IT READS IS OF BULK AT MOST 1048576: true; the input reads as it did. -/
def fnFactOverUptoRow : OpenClaim := { program := "ytjgoejdjhpphnaa", sum := "5567c536110c0f3d5941c784020d9f4a3bdbe03e790f4ffc3e0081eef949712c", func := "loop.example/lightship/laws.FnFactOver", spec := "fnFactOver", apart := false, narrowed := true }
def FnFactOverUptoSaid : Prop := fnFactOverUptoRow.holds Try.pinned (OpenSpec.upto fnFactOverSpec)

/-- 'laws.FnExactTableOf', WHERE WHAT IT READS IS OF BULK AT MOST 1048576: true; the input reads as it did. -/
def fnExactTableOfUptoRow : OpenClaim := { program := "ytjgoejdjhpphnaa", sum := "5567c536110c0f3d5941c784020d9f4a3bdbe03e790f4ffc3e0081eef949712c", func := "loop.example/lightship/laws.FnExactTableOf", spec := "fnExactTableOf", unfollowed := true, recurses := true, apart := false, narrowed := true }
def FnExactTableOfUptoSaid : Prop := fnExactTableOfUptoRow.holds Try.pinned (OpenSpec.upto fnExactTableOfSpec)

/-- 'laws.FnExactTableGates', WHERE WHAT IT READS IS OF BULK AT MOST 1048576: true; the input reads as it did. -/
def fnExactTableGatesUptoRow : OpenClaim := { program := "ytjgoejdjhpphnaa", sum := "5567c536110c0f3d5941c784020d9f4a3bdbe03e790f4ffc3e0081eef949712c", func := "loop.example/lightship/laws.FnExactTableGates", spec := "fnExactTableGates", unfollowed := true, recurses := true, apart := false, narrowed := true }
def FnExactTableGatesUptoSaid : Prop := fnExactTableGatesUptoRow.holds Try.pinned (OpenSpec.upto fnExactTableGatesSpec)

/-- 'laws.FnExactWordOk', WHERE WHAT IT READS IS OF BULK AT MOST 1048576: true; the input reads as it did. -/
def fnExactWordOkUptoRow : OpenClaim := { program := "ytjgoejdjhpphnaa", sum := "5567c536110c0f3d5941c784020d9f4a3bdbe03e790f4ffc3e0081eef949712c", func := "loop.example/lightship/laws.FnExactWordOk", spec := "fnExactWordOk", unfollowed := true, recurses := true, apart := false, narrowed := true }
def FnExactWordOkUptoSaid : Prop := fnExactWordOkUptoRow.holds Try.pinned (OpenSpec.upto fnExactWordOkSpec)

/-- 'laws.FnExactTablePut', WHERE WHAT IT READS IS OF BULK AT MOST 1048576: true; the input reads as it did. -/
def fnExactTablePutUptoRow : OpenClaim := { program := "ytjgoejdjhpphnaa", sum := "5567c536110c0f3d5941c784020d9f4a3bdbe03e790f4ffc3e0081eef949712c", func := "loop.example/lightship/laws.FnExactTablePut", spec := "fnExactTablePut", inPlace := ["slices.overlaps[loop.example/lightship/impl.Fact]"], unfollowed := true, recurses := true, apart := false, narrowed := true }
def FnExactTablePutUptoSaid : Prop := fnExactTablePutUptoRow.holds Try.pinned (OpenSpec.upto fnExactTablePutSpec)

/-- 'laws.FnExactTableJoin', WHERE WHAT IT READS IS OF BULK AT MOST 1048576: true; the input reads as it did. -/
def fnExactTableJoinUptoRow : OpenClaim := { program := "ytjgoejdjhpphnaa", sum := "5567c536110c0f3d5941c784020d9f4a3bdbe03e790f4ffc3e0081eef949712c", func := "loop.example/lightship/laws.FnExactTableJoin", spec := "fnExactTableJoin", inPlace := ["slices.overlaps[loop.example/lightship/impl.Fact]"], unfollowed := true, recurses := true, apart := false, narrowed := true }
def FnExactTableJoinUptoSaid : Prop := fnExactTableJoinUptoRow.holds Try.pinned (OpenSpec.upto fnExactTableJoinSpec)

/-- 'laws.FnTableVersion', WHERE WHAT IT READS IS OF BULK AT MOST 1048576: true; the input reads as it did. -/
def fnTableVersionUptoRow : OpenClaim := { program := "ytjgoejdjhpphnaa", sum := "5567c536110c0f3d5941c784020d9f4a3bdbe03e790f4ffc3e0081eef949712c", func := "loop.example/lightship/laws.FnTableVersion", spec := "fnTableVersion", inPlace := ["slices.overlaps[loop.example/lightship/impl.Fact]"], unfollowed := true, recurses := true, apart := false, narrowed := true }
def FnTableVersionUptoSaid : Prop := fnTableVersionUptoRow.holds Try.pinned (OpenSpec.upto fnTableVersionSpec)

/-- 'laws.FnExactCastTake', WHERE WHAT IT READS IS OF BULK AT MOST 1048576: true; the input reads as it did. -/
def fnExactCastTakeUptoRow : OpenClaim := { program := "ytjgoejdjhpphnaa", sum := "5567c536110c0f3d5941c784020d9f4a3bdbe03e790f4ffc3e0081eef949712c", func := "loop.example/lightship/laws.FnExactCastTake", spec := "fnExactCastTake", unfollowed := true, recurses := true, apart := false, narrowed := true }
def FnExactCastTakeUptoSaid : Prop := fnExactCastTakeUptoRow.holds Try.pinned (OpenSpec.upto fnExactCastTakeSpec)

/-- 'laws.FnCastAll', WHERE WHAT IT READS IS OF BULK AT MOST 1048576: true; the input reads as it did. -/
def fnCastAllUptoRow : OpenClaim := { program := "ytjgoejdjhpphnaa", sum := "5567c536110c0f3d5941c784020d9f4a3bdbe03e790f4ffc3e0081eef949712c", func := "loop.example/lightship/laws.FnCastAll", spec := "fnCastAll", unfollowed := true, recurses := true, apart := false, narrowed := true }
def FnCastAllUptoSaid : Prop := fnCastAllUptoRow.holds Try.pinned (OpenSpec.upto fnCastAllSpec)

/-- 'laws.FnCastFirst', WHERE WHAT IT READS IS OF BULK AT MOST 1048576: true; the input reads as it did. -/
def fnCastFirstUptoRow : OpenClaim := { program := "ytjgoejdjhpphnaa", sum := "5567c536110c0f3d5941c784020d9f4a3bdbe03e790f4ffc3e0081eef949712c", func := "loop.example/lightship/laws.FnCastFirst", spec := "fnCastFirst", unfollowed := true, recurses := true, apart := false, narrowed := true }
def FnCastFirstUptoSaid : Prop := fnCastFirstUptoRow.holds Try.pinned (OpenSpec.upto fnCastFirstSpec)

/-- 'laws.FnExactCastOk', WHERE WHAT IT READS IS OF BULK AT MOST 1048576: true; the input reads as it did. -/
def fnExactCastOkUptoRow : OpenClaim := { program := "ytjgoejdjhpphnaa", sum := "5567c536110c0f3d5941c784020d9f4a3bdbe03e790f4ffc3e0081eef949712c", func := "loop.example/lightship/laws.FnExactCastOk", spec := "fnExactCastOk", unfollowed := true, recurses := true, apart := false, narrowed := true }
def FnExactCastOkUptoSaid : Prop := fnExactCastOkUptoRow.holds Try.pinned (OpenSpec.upto fnExactCastOkSpec)

/-- 'laws.FnExactCastPut', WHERE WHAT IT READS IS OF BULK AT MOST 1048576: true; the input reads as it did. -/
def fnExactCastPutUptoRow : OpenClaim := { program := "ytjgoejdjhpphnaa", sum := "5567c536110c0f3d5941c784020d9f4a3bdbe03e790f4ffc3e0081eef949712c", func := "loop.example/lightship/laws.FnExactCastPut", spec := "fnExactCastPut", inPlace := ["slices.overlaps[loop.example/lightship/impl.Item]"], unfollowed := true, recurses := true, apart := false, narrowed := true }
def FnExactCastPutUptoSaid : Prop := fnExactCastPutUptoRow.holds Try.pinned (OpenSpec.upto fnExactCastPutSpec)

/-- 'laws.FnCastKeep', WHERE WHAT IT READS IS OF BULK AT MOST 1048576: true; the input reads as it did. -/
def fnCastKeepUptoRow : OpenClaim := { program := "ytjgoejdjhpphnaa", sum := "5567c536110c0f3d5941c784020d9f4a3bdbe03e790f4ffc3e0081eef949712c", func := "loop.example/lightship/laws.FnCastKeep", spec := "fnCastKeep", inPlace := ["slices.overlaps[loop.example/lightship/impl.Item]"], unfollowed := true, recurses := true, apart := false, narrowed := true }
def FnCastKeepUptoSaid : Prop := fnCastKeepUptoRow.holds Try.pinned (OpenSpec.upto fnCastKeepSpec)

/-- 'laws.FnCastNew', WHERE WHAT IT READS IS OF BULK AT MOST 1048576: true; the input reads as it did. -/
def fnCastNewUptoRow : OpenClaim := { program := "ytjgoejdjhpphnaa", sum := "5567c536110c0f3d5941c784020d9f4a3bdbe03e790f4ffc3e0081eef949712c", func := "loop.example/lightship/laws.FnCastNew", spec := "fnCastNew", inPlace := ["slices.overlaps[loop.example/lightship/impl.Item]"], unfollowed := true, recurses := true, apart := false, narrowed := true }
def FnCastNewUptoSaid : Prop := fnCastNewUptoRow.holds Try.pinned (OpenSpec.upto fnCastNewSpec)

/-- 'laws.FnExactNodeNew', WHERE WHAT IT READS IS OF BULK AT MOST 1048576: true; the input reads as it did. -/
def fnExactNodeNewUptoRow : OpenClaim := { program := "ytjgoejdjhpphnaa", sum := "5567c536110c0f3d5941c784020d9f4a3bdbe03e790f4ffc3e0081eef949712c", func := "loop.example/lightship/laws.FnExactNodeNew", spec := "fnExactNodeNew", apart := false, narrowed := true }
def FnExactNodeNewUptoSaid : Prop := fnExactNodeNewUptoRow.holds Try.pinned (OpenSpec.upto fnExactNodeNewSpec)

end Rows
end Go.Proofs.Ytjgoejdjhpphnaa
