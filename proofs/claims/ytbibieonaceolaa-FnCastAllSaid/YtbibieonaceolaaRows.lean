/-
  No cell of these rows narrows 'for every input' (looked for: loops, veiled, ifaces, maps, wideKeys, modest, calm, conditions, laid).
  DERIVED. THE GIVEN ROWS OF THIS SEAT. 3 by the template 'for every input the law returns true; each argument reads behind the call as it read before'; 0 by the template 'total and deterministic' (their statements: YtbibieonaceolaaTotals.lean).
  GIVEN WITH THE SEED: the statements are not yours to turn. If you find one false, say at which input.
  Laid BY PROGRAM, IN A SANDBOX (cutbox-rows.mjs): the forced cells as the released guide's own fill.sh prints them over the translation 8bf0c8138b731195… (all of the seat's roots in one cut). By AI agents, Wed Nov 11 2026. No macro, syntax, notation, axiom, sorry.
-/
import Derived.Test.YtbibieonaceolaaChecked
import GoSem.Claim
import GoSem.ClaimJoined
import GoSem.ClaimMapViews
import Derived.JoinedTies
import Derived.KernelRfl
namespace Go.Proofs.Ytbibieonaceolaa
/- THE CELL 'sum', in the pinned program and in every row, IS THE sha256 OF THE DUMP (.gsa) THAT YtbibieonaceolaaProg.lean LOADS. Nothing in Lean hashes anything: it is a label: what it is worth is what the hold of that sum in a sandbox is worth. -/
noncomputable def Try.pinned : Pinned := { name := "ytbibieonaceolaa", sum := "8bf0c8138b731195d2b2c86ce478538d5d76527cdcff65f591f8e93ab251de9b", checked := Try.checked }
namespace Rows
def none {H : Type} : Left H := { results := [], args := [] }

/-- 'laws.FnExactCastTake': WHATEVER THE INPUT: true; the input reads as it did. -/
def fnExactCastTakeSpec : ChangeSpec := { name := "fnExactCastTake", fn := fun _ => fun
  | [d1, d2] => { results := [.lit (.bool true)], args := [d1, d2] }
  | _ => none }
def fnExactCastTakeRow : OpenClaim := { program := "ytbibieonaceolaa", sum := "8bf0c8138b731195d2b2c86ce478538d5d76527cdcff65f591f8e93ab251de9b", func := "loop.example/lightship/laws.FnExactCastTake", spec := "fnExactCastTake", unfollowed := true, recurses := true, apart := false }
def FnExactCastTakeSaid : Prop := fnExactCastTakeRow.holds Try.pinned (OpenSpec.ofChange fnExactCastTakeSpec)

/-- ITS FALSE NEIGHBOUR: 'it returns false'. Refute it at one input. -/
def fnExactCastTakeWrong : ChangeSpec := { name := "fnExactCastTake", fn := fun _ => fun
  | [d1, d2] => { results := [.lit (.bool false)], args := [d1, d2] }
  | _ => none }
def FnExactCastTakeWrongFalsely : Prop := fnExactCastTakeRow.holds Try.pinned (OpenSpec.ofChange fnExactCastTakeWrong)

/-- 'laws.FnCastAll': WHATEVER THE INPUT: true; the input reads as it did. -/
def fnCastAllSpec : ChangeSpec := { name := "fnCastAll", fn := fun _ => fun
  | [d] => { results := [.lit (.bool true)], args := [d] }
  | _ => none }
def fnCastAllRow : OpenClaim := { program := "ytbibieonaceolaa", sum := "8bf0c8138b731195d2b2c86ce478538d5d76527cdcff65f591f8e93ab251de9b", func := "loop.example/lightship/laws.FnCastAll", spec := "fnCastAll", unfollowed := true, recurses := true, apart := false }
def FnCastAllSaid : Prop := fnCastAllRow.holds Try.pinned (OpenSpec.ofChange fnCastAllSpec)

/-- ITS FALSE NEIGHBOUR: 'it returns false'. Refute it at one input. -/
def fnCastAllWrong : ChangeSpec := { name := "fnCastAll", fn := fun _ => fun
  | [d] => { results := [.lit (.bool false)], args := [d] }
  | _ => none }
def FnCastAllWrongFalsely : Prop := fnCastAllRow.holds Try.pinned (OpenSpec.ofChange fnCastAllWrong)

/-- 'laws.FnCastFirst': WHATEVER THE INPUT: true; the input reads as it did. -/
def fnCastFirstSpec : ChangeSpec := { name := "fnCastFirst", fn := fun _ => fun
  | [d] => { results := [.lit (.bool true)], args := [d] }
  | _ => none }
def fnCastFirstRow : OpenClaim := { program := "ytbibieonaceolaa", sum := "8bf0c8138b731195d2b2c86ce478538d5d76527cdcff65f591f8e93ab251de9b", func := "loop.example/lightship/laws.FnCastFirst", spec := "fnCastFirst", unfollowed := true, recurses := true, apart := false }
def FnCastFirstSaid : Prop := fnCastFirstRow.holds Try.pinned (OpenSpec.ofChange fnCastFirstSpec)

/-- ITS FALSE NEIGHBOUR: 'it returns false'. Refute it at one input. -/
def fnCastFirstWrong : ChangeSpec := { name := "fnCastFirst", fn := fun _ => fun
  | [d] => { results := [.lit (.bool false)], args := [d] }
  | _ => none }
def FnCastFirstWrongFalsely : Prop := fnCastFirstRow.holds Try.pinned (OpenSpec.ofChange fnCastFirstWrong)

/- THE SECOND FORM. 'bulk': how many values and letters a reading holds, each counted each time it is reached (what is shared counts as often as it is met; a slice's spare places count too). A statement '..UptoSaid' is the law's where the arguments, and the package variables that the reading takes, are together of bulk at most 1048576: NARROWER than '..Said'. Prove '..Said' where nothing that the law and all that it calls make is longer than what came in: it says more and counts as full. Else prove '..UptoSaid'. A law counts once. -/
mutual
def uptoBulk {H : Type} : DataW H → Nat
  | .lit (.string bytes) => bytes.length + 1
  | .lit _ => 1
  | .nil => 1
  | .ptr d => uptoBulk d + 1
  | .slice elems spare => uptoBulkAll elems + uptoBulkAll spare + 1
  | .agg parts => uptoBulkAll parts + 1
  | .iface _ d => uptoBulk d + 1
  | .map entries => uptoBulkEntries entries + 1
  | .held _ => 1
def uptoBulkAll {H : Type} : List (DataW H) → Nat
  | [] => 0
  | d :: r => uptoBulk d + uptoBulkAll r
def uptoBulkEntries {H : Type} : List (Lit × DataW H) → Nat
  | [] => 0
  | x :: r => uptoBulkEntry x + uptoBulkEntries r
def uptoBulkEntry {H : Type} : Lit × DataW H → Nat
  | (.string bytes, d) => bytes.length + uptoBulk d + 1
  | (_, d) => uptoBulk d + 1
 end
def uptoSmall : (H : Type) → List (DataW H) → Bool := fun _ ds => decide (uptoBulkAll ds ≤ 1048576)
def OpenSpec.upto (s : _root_.Go.ChangeSpec) : _root_.Go.OpenSpec := { _root_.Go.OpenSpec.ofChange s with cond := some uptoSmall }

/-- 'laws.FnExactCastTake', WHERE WHAT IT READS IS OF BULK AT MOST 1048576: true; the input reads as it did. -/
def fnExactCastTakeUptoRow : OpenClaim := { program := "ytbibieonaceolaa", sum := "8bf0c8138b731195d2b2c86ce478538d5d76527cdcff65f591f8e93ab251de9b", func := "loop.example/lightship/laws.FnExactCastTake", spec := "fnExactCastTake", unfollowed := true, recurses := true, apart := false, narrowed := true }
def FnExactCastTakeUptoSaid : Prop := fnExactCastTakeUptoRow.holds Try.pinned (OpenSpec.upto fnExactCastTakeSpec)

/-- 'laws.FnCastAll', WHERE WHAT IT READS IS OF BULK AT MOST 1048576: true; the input reads as it did. -/
def fnCastAllUptoRow : OpenClaim := { program := "ytbibieonaceolaa", sum := "8bf0c8138b731195d2b2c86ce478538d5d76527cdcff65f591f8e93ab251de9b", func := "loop.example/lightship/laws.FnCastAll", spec := "fnCastAll", unfollowed := true, recurses := true, apart := false, narrowed := true }
def FnCastAllUptoSaid : Prop := fnCastAllUptoRow.holds Try.pinned (OpenSpec.upto fnCastAllSpec)

/-- 'laws.FnCastFirst', WHERE WHAT IT READS IS OF BULK AT MOST 1048576: true; the input reads as it did. -/
def fnCastFirstUptoRow : OpenClaim := { program := "ytbibieonaceolaa", sum := "8bf0c8138b731195d2b2c86ce478538d5d76527cdcff65f591f8e93ab251de9b", func := "loop.example/lightship/laws.FnCastFirst", spec := "fnCastFirst", unfollowed := true, recurses := true, apart := false, narrowed := true }
def FnCastFirstUptoSaid : Prop := fnCastFirstUptoRow.holds Try.pinned (OpenSpec.upto fnCastFirstSpec)

end Rows
end Go.Proofs.Ytbibieonaceolaa
