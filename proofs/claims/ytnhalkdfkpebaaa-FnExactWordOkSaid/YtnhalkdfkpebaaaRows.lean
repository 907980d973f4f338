/-
  No cell of these rows narrows 'for every input' (looked for: loops, veiled, ifaces, maps, wideKeys, modest, calm, conditions, laid).
  DERIVED. THE GIVEN ROWS OF THIS SEAT. 7 by the template 'for every input the law returns true; each argument reads behind the call as it read before'; 0 by the template 'total and deterministic' (their statements: YtnhalkdfkpebaaaTotals.lean).
  GIVEN WITH THE SEED: the statements are not yours to turn. If you find one false, say at which input.
  Laid BY PROGRAM, IN A SANDBOX (cutbox-rows.mjs): the forced cells as the released guide's own fill.sh prints them over the translation 9b8deb746623e752… (all of the seat's roots in one cut). By AI agents, Wed Nov 11 2026. No macro, syntax, notation, axiom, sorry.
-/
import Derived.Test.YtnhalkdfkpebaaaChecked
import GoSem.Claim
import GoSem.ClaimJoined
import GoSem.ClaimMapViews
import Derived.JoinedTies
import Derived.KernelRfl
namespace Go.Proofs.Ytnhalkdfkpebaaa
/- THE CELL 'sum', in the pinned program and in every row, IS THE sha256 OF THE DUMP (.gsa) THAT YtnhalkdfkpebaaaProg.lean LOADS. Nothing in Lean hashes anything: it is a label: what it is worth is what the hold of that sum in a sandbox is worth. -/
noncomputable def Try.pinned : Pinned := { name := "ytnhalkdfkpebaaa", sum := "9b8deb746623e752650420b2462ac54be4ef22aa6afef90a025524ad067a3dde", checked := Try.checked }
namespace Rows
def none {H : Type} : Left H := { results := [], args := [] }

/-- 'laws.FnExactTableOk': WHATEVER THE INPUT: true; the input reads as it did. -/
def fnExactTableOkSpec : ChangeSpec := { name := "fnExactTableOk", fn := fun _ => fun
  | [d] => { results := [.lit (.bool true)], args := [d] }
  | _ => none }
def fnExactTableOkRow : OpenClaim := { program := "ytnhalkdfkpebaaa", sum := "9b8deb746623e752650420b2462ac54be4ef22aa6afef90a025524ad067a3dde", func := "loop.example/lightship/laws.FnExactTableOk", spec := "fnExactTableOk", apart := false }
def FnExactTableOkSaid : Prop := fnExactTableOkRow.holds Try.pinned (OpenSpec.ofChange fnExactTableOkSpec)

/-- ITS FALSE NEIGHBOUR: 'it returns false'. Refute it at one input. -/
def fnExactTableOkWrong : ChangeSpec := { name := "fnExactTableOk", fn := fun _ => fun
  | [d] => { results := [.lit (.bool false)], args := [d] }
  | _ => none }
def FnExactTableOkWrongFalsely : Prop := fnExactTableOkRow.holds Try.pinned (OpenSpec.ofChange fnExactTableOkWrong)

/-- 'laws.FnExactFactOver': WHATEVER THE INPUT: true; the input reads as it did. -/
def fnExactFactOverSpec : ChangeSpec := { name := "fnExactFactOver", fn := fun _ => fun
  | [d1, d2] => { results := [.lit (.bool true)], args := [d1, d2] }
  | _ => none }
def fnExactFactOverRow : OpenClaim := { program := "ytnhalkdfkpebaaa", sum := "9b8deb746623e752650420b2462ac54be4ef22aa6afef90a025524ad067a3dde", func := "loop.example/lightship/laws.FnExactFactOver", spec := "fnExactFactOver", apart := false }
def FnExactFactOverSaid : Prop := fnExactFactOverRow.holds Try.pinned (OpenSpec.ofChange fnExactFactOverSpec)

/-- ITS FALSE NEIGHBOUR: 'it returns false'. Refute it at one input. -/
def fnExactFactOverWrong : ChangeSpec := { name := "fnExactFactOver", fn := fun _ => fun
  | [d1, d2] => { results := [.lit (.bool false)], args := [d1, d2] }
  | _ => none }
def FnExactFactOverWrongFalsely : Prop := fnExactFactOverRow.holds Try.pinned (OpenSpec.ofChange fnExactFactOverWrong)

/-- 'laws.FnExactTableVersion': WHATEVER THE INPUT: true; the input reads as it did. -/
def fnExactTableVersionSpec : ChangeSpec := { name := "fnExactTableVersion", fn := fun _ => fun
  | [d] => { results := [.lit (.bool true)], args := [d] }
  | _ => none }
def fnExactTableVersionRow : OpenClaim := { program := "ytnhalkdfkpebaaa", sum := "9b8deb746623e752650420b2462ac54be4ef22aa6afef90a025524ad067a3dde", func := "loop.example/lightship/laws.FnExactTableVersion", spec := "fnExactTableVersion", apart := false }
def FnExactTableVersionSaid : Prop := fnExactTableVersionRow.holds Try.pinned (OpenSpec.ofChange fnExactTableVersionSpec)

/-- ITS FALSE NEIGHBOUR: 'it returns false'. Refute it at one input. -/
def fnExactTableVersionWrong : ChangeSpec := { name := "fnExactTableVersion", fn := fun _ => fun
  | [d] => { results := [.lit (.bool false)], args := [d] }
  | _ => none }
def FnExactTableVersionWrongFalsely : Prop := fnExactTableVersionRow.holds Try.pinned (OpenSpec.ofChange fnExactTableVersionWrong)

/-- 'laws.FnFactOver': WHATEVER THE INPUT: true; the input reads as it did. -/
def fnFactOverSpec : ChangeSpec := { name := "fnFactOver", fn := fun _ => fun
  | [d] => { results := [.lit (.bool true)], args := [d] }
  | _ => none }
def fnFactOverRow : OpenClaim := { program := "ytnhalkdfkpebaaa", sum := "9b8deb746623e752650420b2462ac54be4ef22aa6afef90a025524ad067a3dde", func := "loop.example/lightship/laws.FnFactOver", spec := "fnFactOver", apart := false }
def FnFactOverSaid : Prop := fnFactOverRow.holds Try.pinned (OpenSpec.ofChange fnFactOverSpec)

/-- ITS FALSE NEIGHBOUR: 'it returns false'. Refute it at one input. -/
def fnFactOverWrong : ChangeSpec := { name := "fnFactOver", fn := fun _ => fun
  | [d] => { results := [.lit (.bool false)], args := [d] }
  | _ => none }
def FnFactOverWrongFalsely : Prop := fnFactOverRow.holds Try.pinned (OpenSpec.ofChange fnFactOverWrong)

/-- 'laws.FnExactTableOf': WHATEVER THE INPUT: true; the input reads as it did. -/
def fnExactTableOfSpec : ChangeSpec := { name := "fnExactTableOf", fn := fun _ => fun
  | [d1, d2] => { results := [.lit (.bool true)], args := [d1, d2] }
  | _ => none }
def fnExactTableOfRow : OpenClaim := { program := "ytnhalkdfkpebaaa", sum := "9b8deb746623e752650420b2462ac54be4ef22aa6afef90a025524ad067a3dde", func := "loop.example/lightship/laws.FnExactTableOf", spec := "fnExactTableOf", unfollowed := true, recurses := true, apart := false }
def FnExactTableOfSaid : Prop := fnExactTableOfRow.holds Try.pinned (OpenSpec.ofChange fnExactTableOfSpec)

/-- ITS FALSE NEIGHBOUR: 'it returns false'. Refute it at one input. -/
def fnExactTableOfWrong : ChangeSpec := { name := "fnExactTableOf", fn := fun _ => fun
  | [d1, d2] => { results := [.lit (.bool false)], args := [d1, d2] }
  | _ => none }
def FnExactTableOfWrongFalsely : Prop := fnExactTableOfRow.holds Try.pinned (OpenSpec.ofChange fnExactTableOfWrong)

/-- 'laws.FnExactTableGates': WHATEVER THE INPUT: true; the input reads as it did. -/
def fnExactTableGatesSpec : ChangeSpec := { name := "fnExactTableGates", fn := fun _ => fun
  | [d1, d2] => { results := [.lit (.bool true)], args := [d1, d2] }
  | _ => none }
def fnExactTableGatesRow : OpenClaim := { program := "ytnhalkdfkpebaaa", sum := "9b8deb746623e752650420b2462ac54be4ef22aa6afef90a025524ad067a3dde", func := "loop.example/lightship/laws.FnExactTableGates", spec := "fnExactTableGates", unfollowed := true, recurses := true, apart := false }
def FnExactTableGatesSaid : Prop := fnExactTableGatesRow.holds Try.pinned (OpenSpec.ofChange fnExactTableGatesSpec)

/-- ITS FALSE NEIGHBOUR: 'it returns false'. Refute it at one input. -/
def fnExactTableGatesWrong : ChangeSpec := { name := "fnExactTableGates", fn := fun _ => fun
  | [d1, d2] => { results := [.lit (.bool false)], args := [d1, d2] }
  | _ => none }
def FnExactTableGatesWrongFalsely : Prop := fnExactTableGatesRow.holds Try.pinned (OpenSpec.ofChange fnExactTableGatesWrong)

/-- 'laws.FnExactWordOk': WHATEVER THE INPUT: true; the input reads as it did. -/
def fnExactWordOkSpec : ChangeSpec := { name := "fnExactWordOk", fn := fun _ => fun
  | [d] => { results := [.lit (.bool true)], args := [d] }
  | _ => none }
def fnExactWordOkRow : OpenClaim := { program := "ytnhalkdfkpebaaa", sum := "9b8deb746623e752650420b2462ac54be4ef22aa6afef90a025524ad067a3dde", func := "loop.example/lightship/laws.FnExactWordOk", spec := "fnExactWordOk", unfollowed := true, recurses := true, apart := false }
def FnExactWordOkSaid : Prop := fnExactWordOkRow.holds Try.pinned (OpenSpec.ofChange fnExactWordOkSpec)

/-- ITS FALSE NEIGHBOUR: 'it returns false'. Refute it at one input. -/
def fnExactWordOkWrong : ChangeSpec := { name := "fnExactWordOk", fn := fun _ => fun
  | [d] => { results := [.lit (.bool false)], args := [d] }
  | _ => none }
def FnExactWordOkWrongFalsely : Prop := fnExactWordOkRow.holds Try.pinned (OpenSpec.ofChange fnExactWordOkWrong)

/- THE SECOND FORM. 'bulk': how many values and letters a reading holds, each counted each time it is reached (what is shared counts as often as it is met; a slice's spare places count too). A statement '..UptoSaid' is the law's where the arguments, and the package variables that the reading takes, are together of bulk at most 1048576: NARROWER than '..Said'. Prove '..Said' where nothing that the law and all that it calls make is longer than what came in: it says more and counts as full. Else prove '..UptoSaid'. A law counts once. -/
mutual
def uptoBulk {H : Type} : DataW H → Nat
  | .lit (.string bytes) => bytes.length + 1
  | .lit _ => 1
  | .nil => 1
  | .ptr d => uptoBulk d + 1
  | .slice elems spare => uptoBulkAll elems + uptoBulkAll spare + 1
  | .agg parts => uptoBulkAll parts + 1
  | .iface _ d => uptoBulk d + 1
  | .map entries => uptoBulkEntries entries + 1
  | .held _ => 1
def uptoBulkAll {H : Type} : List (DataW H) → Nat
  | [] => 0
  | d :: r => uptoBulk d + uptoBulkAll r
def uptoBulkEntries {H : Type} : List (Lit × DataW H) → Nat
  | [] => 0
  | x :: r => uptoBulkEntry x + uptoBulkEntries r
def uptoBulkEntry {H : Type} : Lit × DataW H → Nat
  | (.string bytes, d) => bytes.length + uptoBulk d + 1
  | (_, d) => uptoBulk d + 1
 end
def uptoSmall : (H : Type) → List (DataW H) → Bool := fun _ ds => decide (uptoBulkAll ds ≤ 1048576)
def OpenSpec.upto (s : _root_.Go.ChangeSpec) : _root_.Go.OpenSpec := { _root_.Go.OpenSpec.ofChange s with cond := some uptoSmall }

/-- 'laws.FnExactTableOk', WHERE WHAT IT READS IS OF BULK AT MOST 1048576: true; the input reads as it did. -/
def fnExactTableOkUptoRow : OpenClaim := { program := "ytnhalkdfkpebaaa", sum := "9b8deb746623e752650420b2462ac54be4ef22aa6afef90a025524ad067a3dde", func := "loop.example/lightship/laws.FnExactTableOk", spec := "fnExactTableOk", apart := false, narrowed := true }
def FnExactTableOkUptoSaid : Prop := fnExactTableOkUptoRow.holds Try.pinned (OpenSpec.upto fnExactTableOkSpec)

/-- 'laws.FnExactFactOver', WHERE WHAT IT READS IS OF BULK AT MOST 1048576: true; the input reads as it did. -/
def fnExactFactOverUptoRow : OpenClaim := { program := "ytnhalkdfkpebaaa", sum := "9b8deb746623e752650420b2462ac54be4ef22aa6afef90a025524ad067a3dde", func := "loop.example/lightship/laws.FnExactFactOver", spec := "fnExactFactOver", apart := false, narrowed := true }
def FnExactFactOverUptoSaid : Prop := fnExactFactOverUptoRow.holds Try.pinned (OpenSpec.upto fnExactFactOverSpec)

/-- 'laws.FnExactTableVersion', WHERE WHAT IT READS IS OF BULK AT MOST 1048576: true; the input reads as it did. -/
def fnExactTableVersionUptoRow : OpenClaim := { program := "ytnhalkdfkpebaaa", sum := "9b8deb746623e752650420b2462ac54be4ef22aa6afef90a025524ad067a3dde", func := "loop.example/lightship/laws.FnExactTableVersion", spec := "fnExactTableVersion", apart := false, narrowed := true }
def FnExactTableVersionUptoSaid : Prop := fnExactTableVersionUptoRow.holds Try.pinned (OpenSpec.upto fnExactTableVersionSpec)

/-- 'laws.FnFactOver', WHERE WHAT IT READS IS OF BULK AT MOST 1048576: true; the input reads as it did. -/
def fnFactOverUptoRow : OpenClaim := { program := "ytnhalkdfkpebaaa", sum := "9b8deb746623e752650420b2462ac54be4ef22aa6afef90a025524ad067a3dde", func := "loop.example/lightship/laws.FnFactOver", spec := "fnFactOver", apart := false, narrowed := true }
def FnFactOverUptoSaid : Prop := fnFactOverUptoRow.holds Try.pinned (OpenSpec.upto fnFactOverSpec)

/-- 'laws.FnExactTableOf', WHERE WHAT IT READS IS OF BULK AT MOST 1048576: true; the input reads as it did. -/
def fnExactTableOfUptoRow : OpenClaim := { program := "ytnhalkdfkpebaaa", sum := "9b8deb746623e752650420b2462ac54be4ef22aa6afef90a025524ad067a3dde", func := "loop.example/lightship/laws.FnExactTableOf", spec := "fnExactTableOf", unfollowed := true, recurses := true, apart := false, narrowed := true }
def FnExactTableOfUptoSaid : Prop := fnExactTableOfUptoRow.holds Try.pinned (OpenSpec.upto fnExactTableOfSpec)

/-- 'laws.FnExactTableGates', WHERE WHAT IT READS IS OF BULK AT MOST 1048576: true; the input reads as it did. -/
def fnExactTableGatesUptoRow : OpenClaim := { program := "ytnhalkdfkpebaaa", sum := "9b8deb746623e752650420b2462ac54be4ef22aa6afef90a025524ad067a3dde", func := "loop.example/lightship/laws.FnExactTableGates", spec := "fnExactTableGates", unfollowed := true, recurses := true, apart := false, narrowed := true }
def FnExactTableGatesUptoSaid : Prop := fnExactTableGatesUptoRow.holds Try.pinned (OpenSpec.upto fnExactTableGatesSpec)

/-- 'laws.FnExactWordOk', WHERE WHAT IT READS IS OF BULK AT MOST 1048576: true; the input reads as it did. -/
def fnExactWordOkUptoRow : OpenClaim := { program := "ytnhalkdfkpebaaa", sum := "9b8deb746623e752650420b2462ac54be4ef22aa6afef90a025524ad067a3dde", func := "loop.example/lightship/laws.FnExactWordOk", spec := "fnExactWordOk", unfollowed := true, recurses := true, apart := false, narrowed := true }
def FnExactWordOkUptoSaid : Prop := fnExactWordOkUptoRow.holds Try.pinned (OpenSpec.upto fnExactWordOkSpec)

end Rows
end Go.Proofs.Ytnhalkdfkpebaaa
