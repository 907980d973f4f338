/-
  No cell of these rows narrows 'for every input' (looked for: loops, veiled, ifaces, maps, wideKeys, modest, calm, conditions, laid).
  DERIVED. THE GIVEN ROWS OF THIS SEAT. 7 by the template 'for every input the law returns true; each argument reads behind the call as it read before'; 0 by the template 'total and deterministic' (their statements: YtjaihhgkcdnhnaaTotals.lean).
  GIVEN WITH THE SEED: the statements are not yours to turn. If you find one false, say at which input.
  Laid BY PROGRAM, IN A SANDBOX (cutbox-rows.mjs): the forced cells as the released guide's own fill.sh prints them over the translation e984631d776d57fc… (all of the seat's roots in one cut). By AI agents, Wed Nov 11 2026. No macro, syntax, notation, axiom, sorry.
-/
import Derived.Test.YtjaihhgkcdnhnaaChecked
import GoSem.Claim
import GoSem.ClaimJoined
import GoSem.ClaimMapViews
import Derived.JoinedTies
import Derived.KernelRfl
namespace Go.Proofs.Ytjaihhgkcdnhnaa
/- THE CELL 'sum', in the pinned program and in every row, IS THE sha256 OF THE DUMP (.gsa) THAT YtjaihhgkcdnhnaaProg.lean LOADS. Nothing in Lean hashes anything: it is a label: what it is worth is what the hold of that sum in a sandbox is worth. -/
noncomputable def Try.pinned : Pinned := { name := "ytjaihhgkcdnhnaa", sum := "e984631d776d57fc28ff63e2f8c6cc457fd5543f51330085c439ca2870ea730d", checked := Try.checked }
namespace Rows
def none {H : Type} : Left H := { results := [], args := [] }

/-- 'laws.FnExactTablePut': WHATEVER THE INPUT: true; the input reads as it did. -/
def fnExactTablePutSpec : ChangeSpec := { name := "fnExactTablePut", fn := fun _ => fun
  | [d1, d2] => { results := [.lit (.bool true)], args := [d1, d2] }
  | _ => none }
def fnExactTablePutRow : OpenClaim := { program := "ytjaihhgkcdnhnaa", sum := "e984631d776d57fc28ff63e2f8c6cc457fd5543f51330085c439ca2870ea730d", func := "loop.example/lightship/laws.FnExactTablePut", spec := "fnExactTablePut", inPlace := ["slices.overlaps[loop.example/lightship/impl.Fact]"], unfollowed := true, recurses := true, apart := false }
def FnExactTablePutSaid : Prop := fnExactTablePutRow.holds Try.pinned (OpenSpec.ofChange fnExactTablePutSpec)

/-- ITS FALSE NEIGHBOUR: 'it returns false'. Refute it at one input. -/
def fnExactTablePutWrong : ChangeSpec := { name := "fnExactTablePut", fn := fun _ => fun
  | [d1, d2] => { results := [.lit (.bool false)], args := [d1, d2] }
  | _ => none }
def FnExactTablePutWrongFalsely : Prop := fnExactTablePutRow.holds Try.pinned (OpenSpec.ofChange fnExactTablePutWrong)

/-- 'laws.FnExactTableJoin': WHATEVER THE INPUT: true; the input reads as it did. -/
def fnExactTableJoinSpec : ChangeSpec := { name := "fnExactTableJoin", fn := fun _ => fun
  | [d1, d2] => { results := [.lit (.bool true)], args := [d1, d2] }
  | _ => none }
def fnExactTableJoinRow : OpenClaim := { program := "ytjaihhgkcdnhnaa", sum := "e984631d776d57fc28ff63e2f8c6cc457fd5543f51330085c439ca2870ea730d", func := "loop.example/lightship/laws.FnExactTableJoin", spec := "fnExactTableJoin", inPlace := ["slices.overlaps[loop.example/lightship/impl.Fact]"], unfollowed := true, recurses := true, apart := false }
def FnExactTableJoinSaid : Prop := fnExactTableJoinRow.holds Try.pinned (OpenSpec.ofChange fnExactTableJoinSpec)

/-- ITS FALSE NEIGHBOUR: 'it returns false'. Refute it at one input. -/
def fnExactTableJoinWrong : ChangeSpec := { name := "fnExactTableJoin", fn := fun _ => fun
  | [d1, d2] => { results := [.lit (.bool false)], args := [d1, d2] }
  | _ => none }
def FnExactTableJoinWrongFalsely : Prop := fnExactTableJoinRow.holds Try.pinned (OpenSpec.ofChange fnExactTableJoinWrong)

/-- 'laws.FnTableVersion': WHATEVER THE INPUT: true; the input reads as it did. -/
def fnTableVersionSpec : ChangeSpec := { name := "fnTableVersion", fn := fun _ => fun
  | [d] => { results := [.lit (.bool true)], args := [d] }
  | _ => none }
def fnTableVersionRow : OpenClaim := { program := "ytjaihhgkcdnhnaa", sum := "e984631d776d57fc28ff63e2f8c6cc457fd5543f51330085c439ca2870ea730d", func := "loop.example/lightship/laws.FnTableVersion", spec := "fnTableVersion", inPlace := ["slices.overlaps[loop.example/lightship/impl.Fact]"], unfollowed := true, recurses := true, apart := false }
def FnTableVersionSaid : Prop := fnTableVersionRow.holds Try.pinned (OpenSpec.ofChange fnTableVersionSpec)

/-- ITS FALSE NEIGHBOUR: 'it returns false'. Refute it at one input. -/
def fnTableVersionWrong : ChangeSpec := { name := "fnTableVersion", fn := fun _ => fun
  | [d] => { results := [.lit (.bool false)], args := [d] }
  | _ => none }
def FnTableVersionWrongFalsely : Prop := fnTableVersionRow.holds Try.pinned (OpenSpec.ofChange fnTableVersionWrong)

/-- 'laws.FnExactCastOk': WHATEVER THE INPUT: true; the input reads as it did. -/
def fnExactCastOkSpec : ChangeSpec := { name := "fnExactCastOk", fn := fun _ => fun
  | [d] => { results := [.lit (.bool true)], args := [d] }
  | _ => none }
def fnExactCastOkRow : OpenClaim := { program := "ytjaihhgkcdnhnaa", sum := "e984631d776d57fc28ff63e2f8c6cc457fd5543f51330085c439ca2870ea730d", func := "loop.example/lightship/laws.FnExactCastOk", spec := "fnExactCastOk", unfollowed := true, recurses := true, apart := false }
def FnExactCastOkSaid : Prop := fnExactCastOkRow.holds Try.pinned (OpenSpec.ofChange fnExactCastOkSpec)

/-- ITS FALSE NEIGHBOUR: 'it returns false'. Refute it at one input. -/
def fnExactCastOkWrong : ChangeSpec := { name := "fnExactCastOk", fn := fun _ => fun
  | [d] => { results := [.lit (.bool false)], args := [d] }
  | _ => none }
def FnExactCastOkWrongFalsely : Prop := fnExactCastOkRow.holds Try.pinned (OpenSpec.ofChange fnExactCastOkWrong)

/-- 'laws.FnExactCastPut': WHATEVER THE INPUT: true; the input reads as it did. -/
def fnExactCastPutSpec : ChangeSpec := { name := "fnExactCastPut", fn := fun _ => fun
  | [d1, d2] => { results := [.lit (.bool true)], args := [d1, d2] }
  | _ => none }
def fnExactCastPutRow : OpenClaim := { program := "ytjaihhgkcdnhnaa", sum := "e984631d776d57fc28ff63e2f8c6cc457fd5543f51330085c439ca2870ea730d", func := "loop.example/lightship/laws.FnExactCastPut", spec := "fnExactCastPut", inPlace := ["slices.overlaps[loop.example/lightship/impl.Item]"], unfollowed := true, recurses := true, apart := false }
def FnExactCastPutSaid : Prop := fnExactCastPutRow.holds Try.pinned (OpenSpec.ofChange fnExactCastPutSpec)

/-- ITS FALSE NEIGHBOUR: 'it returns false'. Refute it at one input. -/
def fnExactCastPutWrong : ChangeSpec := { name := "fnExactCastPut", fn := fun _ => fun
  | [d1, d2] => { results := [.lit (.bool false)], args := [d1, d2] }
  | _ => none }
def FnExactCastPutWrongFalsely : Prop := fnExactCastPutRow.holds Try.pinned (OpenSpec.ofChange fnExactCastPutWrong)

/-- 'laws.FnCastKeep': WHATEVER THE INPUT: true; the input reads as it did. -/
def fnCastKeepSpec : ChangeSpec := { name := "fnCastKeep", fn := fun _ => fun
  | [d] => { results := [.lit (.bool true)], args := [d] }
  | _ => none }
def fnCastKeepRow : OpenClaim := { program := "ytjaihhgkcdnhnaa", sum := "e984631d776d57fc28ff63e2f8c6cc457fd5543f51330085c439ca2870ea730d", func := "loop.example/lightship/laws.FnCastKeep", spec := "fnCastKeep", inPlace := ["slices.overlaps[loop.example/lightship/impl.Item]"], unfollowed := true, recurses := true, apart := false }
def FnCastKeepSaid : Prop := fnCastKeepRow.holds Try.pinned (OpenSpec.ofChange fnCastKeepSpec)

/-- ITS FALSE NEIGHBOUR: 'it returns false'. Refute it at one input. -/
def fnCastKeepWrong : ChangeSpec := { name := "fnCastKeep", fn := fun _ => fun
  | [d] => { results := [.lit (.bool false)], args := [d] }
  | _ => none }
def FnCastKeepWrongFalsely : Prop := fnCastKeepRow.holds Try.pinned (OpenSpec.ofChange fnCastKeepWrong)

/-- 'laws.FnCastNew': WHATEVER THE INPUT: true; the input reads as it did. -/
def fnCastNewSpec : ChangeSpec := { name := "fnCastNew", fn := fun _ => fun
  | [d] => { results := [.lit (.bool true)], args := [d] }
  | _ => none }
def fnCastNewRow : OpenClaim := { program := "ytjaihhgkcdnhnaa", sum := "e984631d776d57fc28ff63e2f8c6cc457fd5543f51330085c439ca2870ea730d", func := "loop.example/lightship/laws.FnCastNew", spec := "fnCastNew", inPlace := ["slices.overlaps[loop.example/lightship/impl.Item]"], unfollowed := true, recurses := true, apart := false }
def FnCastNewSaid : Prop := fnCastNewRow.holds Try.pinned (OpenSpec.ofChange fnCastNewSpec)

/-- ITS FALSE NEIGHBOUR: 'it returns false'. Refute it at one input. -/
def fnCastNewWrong : ChangeSpec := { name := "fnCastNew", fn := fun _ => fun
  | [d] => { results := [.lit (.bool false)], args := [d] }
  | _ => none }
def FnCastNewWrongFalsely : Prop := fnCastNewRow.holds Try.pinned (OpenSpec.ofChange fnCastNewWrong)

/- THE SECOND FORM. 'bulk': how many values and letters a reading holds, each counted each time it is reached (what is shared counts as often as it is met; a slice's spare places count too). A statement '..UptoSaid' is the law's where the arguments, and the package variables that the reading takes, are together of bulk at most 1048576: NARROWER than '..Said'. Prove '..Said' where nothing that the law and all that it calls make is longer than what came in: it says more and counts as full. Else prove '..UptoSaid'. A law counts once. -/
mutual
def uptoBulk {H : Type} : DataW H → Nat
  | .lit (.string bytes) => bytes.length + 1
  | .lit _ => 1
  | .nil => 1
  | .ptr d => uptoBulk d + 1
  | .slice elems spare => uptoBulkAll elems + uptoBulkAll spare + 1
  | .agg parts => uptoBulkAll parts + 1
  | .iface _ d => uptoBulk d + 1
  | .map entries => uptoBulkEntries entries + 1
  | .held _ => 1
def uptoBulkAll {H : Type} : List (DataW H) → Nat
  | [] => 0
  | d :: r => uptoBulk d + uptoBulkAll r
def uptoBulkEntries {H : Type} : List (Lit × DataW H) → Nat
  | [] => 0
  | x :: r => uptoBulkEntry x + uptoBulkEntries r
def uptoBulkEntry {H : Type} : Lit × DataW H → Nat
  | (.string bytes, d) => bytes.length + uptoBulk d + 1
  | (_, d) => uptoBulk d + 1
 end
def uptoSmall : (H : Type) → List (DataW H) → Bool := fun _ ds => decide (uptoBulkAll ds ≤ 1048576)
def OpenSpec.upto (s : _root_.Go.ChangeSpec) : _root_.Go.OpenSpec := { _root_.Go.OpenSpec.ofChange s with cond := some uptoSmall }

/-- 'laws.FnExactTablePut', WHERE WHAT IT READS IS OF BULK AT MOST 1048576: true; the input reads as it did. -/
def fnExactTablePutUptoRow : OpenClaim := { program := "ytjaihhgkcdnhnaa", sum := "e984631d776d57fc28ff63e2f8c6cc457fd5543f51330085c439ca2870ea730d", func := "loop.example/lightship/laws.FnExactTablePut", spec := "fnExactTablePut", inPlace := ["slices.overlaps[loop.example/lightship/impl.Fact]"], unfollowed := true, recurses := true, apart := false, narrowed := true }
def FnExactTablePutUptoSaid : Prop := fnExactTablePutUptoRow.holds Try.pinned (OpenSpec.upto fnExactTablePutSpec)

/-- 'laws.FnExactTableJoin', WHERE WHAT IT READS IS OF BULK AT MOST 1048576: true; the input reads as it did. -/
def fnExactTableJoinUptoRow : OpenClaim := { program := "ytjaihhgkcdnhnaa", sum := "e984631d776d57fc28ff63e2f8c6cc457fd5543f51330085c439ca2870ea730d", func := "loop.example/lightship/laws.FnExactTableJoin", spec := "fnExactTableJoin", inPlace := ["slices.overlaps[loop.example/lightship/impl.Fact]"], unfollowed := true, recurses := true, apart := false, narrowed := true }
def FnExactTableJoinUptoSaid : Prop := fnExactTableJoinUptoRow.holds Try.pinned (OpenSpec.upto fnExactTableJoinSpec)

/-- 'laws.FnTableVersion', WHERE WHAT IT READS IS OF BULK AT MOST 1048576: true; the input reads as it did. -/
def fnTableVersionUptoRow : OpenClaim := { program := "ytjaihhgkcdnhnaa", sum := "e984631d776d57fc28ff63e2f8c6cc457fd5543f51330085c439ca2870ea730d", func := "loop.example/lightship/laws.FnTableVersion", spec := "fnTableVersion", inPlace := ["slices.overlaps[loop.example/lightship/impl.Fact]"], unfollowed := true, recurses := true, apart := false, narrowed := true }
def FnTableVersionUptoSaid : Prop := fnTableVersionUptoRow.holds Try.pinned (OpenSpec.upto fnTableVersionSpec)

/-- 'laws.FnExactCastOk', WHERE WHAT IT READS IS OF BULK AT MOST 1048576: true; the input reads as it did. -/
def fnExactCastOkUptoRow : OpenClaim := { program := "ytjaihhgkcdnhnaa", sum := "e984631d776d57fc28ff63e2f8c6cc457fd5543f51330085c439ca2870ea730d", func := "loop.example/lightship/laws.FnExactCastOk", spec := "fnExactCastOk", unfollowed := true, recurses := true, apart := false, narrowed := true }
def FnExactCastOkUptoSaid : Prop := fnExactCastOkUptoRow.holds Try.pinned (OpenSpec.upto fnExactCastOkSpec)

/-- 'laws.FnExactCastPut', WHERE WHAT IT READS IS OF BULK AT MOST 1048576: true; the input reads as it did. -/
def fnExactCastPutUptoRow : OpenClaim := { program := "ytjaihhgkcdnhnaa", sum := "e984631d776d57fc28ff63e2f8c6cc457fd5543f51330085c439ca2870ea730d", func := "loop.example/lightship/laws.FnExactCastPut", spec := "fnExactCastPut", inPlace := ["slices.overlaps[loop.example/lightship/impl.Item]"], unfollowed := true, recurses := true, apart := false, narrowed := true }
def FnExactCastPutUptoSaid : Prop := fnExactCastPutUptoRow.holds Try.pinned (OpenSpec.upto fnExactCastPutSpec)

/-- 'laws.FnCastKeep', WHERE WHAT IT READS IS OF BULK AT MOST 1048576: true; the input reads as it did. -/
def fnCastKeepUptoRow : OpenClaim := { program := "ytjaihhgkcdnhnaa", sum := "e984631d776d57fc28ff63e2f8c6cc457fd5543f51330085c439ca2870ea730d", func := "loop.example/lightship/laws.FnCastKeep", spec := "fnCastKeep", inPlace := ["slices.overlaps[loop.example/lightship/impl.Item]"], unfollowed := true, recurses := true, apart := false, narrowed := true }
def FnCastKeepUptoSaid : Prop := fnCastKeepUptoRow.holds Try.pinned (OpenSpec.upto fnCastKeepSpec)

/-- 'laws.FnCastNew', WHERE WHAT IT READS IS OF BULK AT MOST 1048576: true; the input reads as it did. -/
def fnCastNewUptoRow : OpenClaim := { program := "ytjaihhgkcdnhnaa", sum := "e984631d776d57fc28ff63e2f8c6cc457fd5543f51330085c439ca2870ea730d", func := "loop.example/lightship/laws.FnCastNew", spec := "fnCastNew", inPlace := ["slices.overlaps[loop.example/lightship/impl.Item]"], unfollowed := true, recurses := true, apart := false, narrowed := true }
def FnCastNewUptoSaid : Prop := fnCastNewUptoRow.holds Try.pinned (OpenSpec.upto fnCastNewSpec)

end Rows
end Go.Proofs.Ytjaihhgkcdnhnaa
