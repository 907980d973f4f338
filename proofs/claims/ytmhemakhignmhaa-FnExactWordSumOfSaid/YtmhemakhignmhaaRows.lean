/-
  No cell of these rows narrows 'for every input' (looked for: loops, veiled, ifaces, maps, wideKeys, modest, calm, conditions, laid).
  DERIVED. THE GIVEN ROWS OF THIS SEAT. 12 by the template 'for every input the law returns true; each argument reads behind the call as it read before'; 0 by the template 'total and deterministic' (their statements: YtmhemakhignmhaaTotals.lean).
  GIVEN WITH THE SEED: the statements are not yours to turn. If you find one false, say at which input.
  Laid BY PROGRAM, IN A SANDBOX (cutbox-rows.mjs): the forced cells as the released guide's own fill.sh prints them over the translation 222bb1aa77b532d9… (all of the seat's roots in one cut). By AI agents, Wed Nov 11 2026. No macro, syntax, notation, axiom, sorry.
-/
import Derived.Test.YtmhemakhignmhaaChecked
import GoSem.Claim
import GoSem.ClaimJoined
import GoSem.ClaimMapViews
import Derived.JoinedTies
import Derived.KernelRfl
namespace Go.Proofs.Ytmhemakhignmhaa
/- THE CELL 'sum', in the pinned program and in every row, IS THE sha256 OF THE DUMP (.gsa) THAT YtmhemakhignmhaaProg.lean LOADS. Nothing in Lean hashes anything: it is a label: what it is worth is what the hold of that sum in a sandbox is worth. -/
noncomputable def Try.pinned : Pinned := { name := "ytmhemakhignmhaa", sum := "222bb1aa77b532d92b49c48ad8356fd2905bd8c647c07dbd00a0da142394136f", checked := Try.checked }
namespace Rows
def none {H : Type} : Left H := { results := [], args := [] }

/-- 'laws.FnExactConstants': WHATEVER THE INPUT: true; the input reads as it did. -/
def fnExactConstantsSpec : ChangeSpec := { name := "fnExactConstants", fn := fun _ => fun
  | [] => { results := [.lit (.bool true)], args := [] }
  | _ => none }
def fnExactConstantsRow : OpenClaim := { program := "ytmhemakhignmhaa", sum := "222bb1aa77b532d92b49c48ad8356fd2905bd8c647c07dbd00a0da142394136f", func := "loop.example/lightship/laws.FnExactConstants", spec := "fnExactConstants", apart := false }
def FnExactConstantsSaid : Prop := fnExactConstantsRow.holds Try.pinned (OpenSpec.ofChange fnExactConstantsSpec)

/-- ITS FALSE NEIGHBOUR: 'it returns false'. Refute it at one input. -/
def fnExactConstantsWrong : ChangeSpec := { name := "fnExactConstants", fn := fun _ => fun
  | [] => { results := [.lit (.bool false)], args := [] }
  | _ => none }
def FnExactConstantsWrongFalsely : Prop := fnExactConstantsRow.holds Try.pinned (OpenSpec.ofChange fnExactConstantsWrong)

/-- 'laws.FnExactFixClamp': WHATEVER THE INPUT: true; the input reads as it did. -/
def fnExactFixClampSpec : ChangeSpec := { name := "fnExactFixClamp", fn := fun _ => fun
  | [d] => { results := [.lit (.bool true)], args := [d] }
  | _ => none }
def fnExactFixClampRow : OpenClaim := { program := "ytmhemakhignmhaa", sum := "222bb1aa77b532d92b49c48ad8356fd2905bd8c647c07dbd00a0da142394136f", func := "loop.example/lightship/laws.FnExactFixClamp", spec := "fnExactFixClamp", apart := false }
def FnExactFixClampSaid : Prop := fnExactFixClampRow.holds Try.pinned (OpenSpec.ofChange fnExactFixClampSpec)

/-- ITS FALSE NEIGHBOUR: 'it returns false'. Refute it at one input. -/
def fnExactFixClampWrong : ChangeSpec := { name := "fnExactFixClamp", fn := fun _ => fun
  | [d] => { results := [.lit (.bool false)], args := [d] }
  | _ => none }
def FnExactFixClampWrongFalsely : Prop := fnExactFixClampRow.holds Try.pinned (OpenSpec.ofChange fnExactFixClampWrong)

/-- 'laws.FnExactFactOk': WHATEVER THE INPUT: true; the input reads as it did. -/
def fnExactFactOkSpec : ChangeSpec := { name := "fnExactFactOk", fn := fun _ => fun
  | [d] => { results := [.lit (.bool true)], args := [d] }
  | _ => none }
def fnExactFactOkRow : OpenClaim := { program := "ytmhemakhignmhaa", sum := "222bb1aa77b532d92b49c48ad8356fd2905bd8c647c07dbd00a0da142394136f", func := "loop.example/lightship/laws.FnExactFactOk", spec := "fnExactFactOk", apart := false }
def FnExactFactOkSaid : Prop := fnExactFactOkRow.holds Try.pinned (OpenSpec.ofChange fnExactFactOkSpec)

/-- ITS FALSE NEIGHBOUR: 'it returns false'. Refute it at one input. -/
def fnExactFactOkWrong : ChangeSpec := { name := "fnExactFactOk", fn := fun _ => fun
  | [d] => { results := [.lit (.bool false)], args := [d] }
  | _ => none }
def FnExactFactOkWrongFalsely : Prop := fnExactFactOkRow.holds Try.pinned (OpenSpec.ofChange fnExactFactOkWrong)

/-- 'laws.FnExactCoordOk': WHATEVER THE INPUT: true; the input reads as it did. -/
def fnExactCoordOkSpec : ChangeSpec := { name := "fnExactCoordOk", fn := fun _ => fun
  | [d] => { results := [.lit (.bool true)], args := [d] }
  | _ => none }
def fnExactCoordOkRow : OpenClaim := { program := "ytmhemakhignmhaa", sum := "222bb1aa77b532d92b49c48ad8356fd2905bd8c647c07dbd00a0da142394136f", func := "loop.example/lightship/laws.FnExactCoordOk", spec := "fnExactCoordOk", apart := false }
def FnExactCoordOkSaid : Prop := fnExactCoordOkRow.holds Try.pinned (OpenSpec.ofChange fnExactCoordOkSpec)

/-- ITS FALSE NEIGHBOUR: 'it returns false'. Refute it at one input. -/
def fnExactCoordOkWrong : ChangeSpec := { name := "fnExactCoordOk", fn := fun _ => fun
  | [d] => { results := [.lit (.bool false)], args := [d] }
  | _ => none }
def FnExactCoordOkWrongFalsely : Prop := fnExactCoordOkRow.holds Try.pinned (OpenSpec.ofChange fnExactCoordOkWrong)

/-- 'laws.FnExactFixAdd': WHATEVER THE INPUT: true; the input reads as it did. -/
def fnExactFixAddSpec : ChangeSpec := { name := "fnExactFixAdd", fn := fun _ => fun
  | [d1, d2] => { results := [.lit (.bool true)], args := [d1, d2] }
  | _ => none }
def fnExactFixAddRow : OpenClaim := { program := "ytmhemakhignmhaa", sum := "222bb1aa77b532d92b49c48ad8356fd2905bd8c647c07dbd00a0da142394136f", func := "loop.example/lightship/laws.FnExactFixAdd", spec := "fnExactFixAdd", apart := false }
def FnExactFixAddSaid : Prop := fnExactFixAddRow.holds Try.pinned (OpenSpec.ofChange fnExactFixAddSpec)

/-- ITS FALSE NEIGHBOUR: 'it returns false'. Refute it at one input. -/
def fnExactFixAddWrong : ChangeSpec := { name := "fnExactFixAdd", fn := fun _ => fun
  | [d1, d2] => { results := [.lit (.bool false)], args := [d1, d2] }
  | _ => none }
def FnExactFixAddWrongFalsely : Prop := fnExactFixAddRow.holds Try.pinned (OpenSpec.ofChange fnExactFixAddWrong)

/-- 'laws.FnExactFixMul': WHATEVER THE INPUT: true; the input reads as it did. -/
def fnExactFixMulSpec : ChangeSpec := { name := "fnExactFixMul", fn := fun _ => fun
  | [d1, d2] => { results := [.lit (.bool true)], args := [d1, d2] }
  | _ => none }
def fnExactFixMulRow : OpenClaim := { program := "ytmhemakhignmhaa", sum := "222bb1aa77b532d92b49c48ad8356fd2905bd8c647c07dbd00a0da142394136f", func := "loop.example/lightship/laws.FnExactFixMul", spec := "fnExactFixMul", apart := false }
def FnExactFixMulSaid : Prop := fnExactFixMulRow.holds Try.pinned (OpenSpec.ofChange fnExactFixMulSpec)

/-- ITS FALSE NEIGHBOUR: 'it returns false'. Refute it at one input. -/
def fnExactFixMulWrong : ChangeSpec := { name := "fnExactFixMul", fn := fun _ => fun
  | [d1, d2] => { results := [.lit (.bool false)], args := [d1, d2] }
  | _ => none }
def FnExactFixMulWrongFalsely : Prop := fnExactFixMulRow.holds Try.pinned (OpenSpec.ofChange fnExactFixMulWrong)

/-- 'laws.FnExactCoordNew': WHATEVER THE INPUT: true; the input reads as it did. -/
def fnExactCoordNewSpec : ChangeSpec := { name := "fnExactCoordNew", fn := fun _ => fun
  | [] => { results := [.lit (.bool true)], args := [] }
  | _ => none }
def fnExactCoordNewRow : OpenClaim := { program := "ytmhemakhignmhaa", sum := "222bb1aa77b532d92b49c48ad8356fd2905bd8c647c07dbd00a0da142394136f", func := "loop.example/lightship/laws.FnExactCoordNew", spec := "fnExactCoordNew", apart := false }
def FnExactCoordNewSaid : Prop := fnExactCoordNewRow.holds Try.pinned (OpenSpec.ofChange fnExactCoordNewSpec)

/-- ITS FALSE NEIGHBOUR: 'it returns false'. Refute it at one input. -/
def fnExactCoordNewWrong : ChangeSpec := { name := "fnExactCoordNew", fn := fun _ => fun
  | [] => { results := [.lit (.bool false)], args := [] }
  | _ => none }
def FnExactCoordNewWrongFalsely : Prop := fnExactCoordNewRow.holds Try.pinned (OpenSpec.ofChange fnExactCoordNewWrong)

/-- 'laws.FnExactWordSumOf': WHATEVER THE INPUT: true; the input reads as it did. -/
def fnExactWordSumOfSpec : ChangeSpec := { name := "fnExactWordSumOf", fn := fun _ => fun
  | [d] => { results := [.lit (.bool true)], args := [d] }
  | _ => none }
def fnExactWordSumOfRow : OpenClaim := { program := "ytmhemakhignmhaa", sum := "222bb1aa77b532d92b49c48ad8356fd2905bd8c647c07dbd00a0da142394136f", func := "loop.example/lightship/laws.FnExactWordSumOf", spec := "fnExactWordSumOf", apart := false }
def FnExactWordSumOfSaid : Prop := fnExactWordSumOfRow.holds Try.pinned (OpenSpec.ofChange fnExactWordSumOfSpec)

/-- ITS FALSE NEIGHBOUR: 'it returns false'. Refute it at one input. -/
def fnExactWordSumOfWrong : ChangeSpec := { name := "fnExactWordSumOf", fn := fun _ => fun
  | [d] => { results := [.lit (.bool false)], args := [d] }
  | _ => none }
def FnExactWordSumOfWrongFalsely : Prop := fnExactWordSumOfRow.holds Try.pinned (OpenSpec.ofChange fnExactWordSumOfWrong)

/-- 'laws.FnExactFixDiv': WHATEVER THE INPUT: true; the input reads as it did. -/
def fnExactFixDivSpec : ChangeSpec := { name := "fnExactFixDiv", fn := fun _ => fun
  | [d1, d2] => { results := [.lit (.bool true)], args := [d1, d2] }
  | _ => none }
def fnExactFixDivRow : OpenClaim := { program := "ytmhemakhignmhaa", sum := "222bb1aa77b532d92b49c48ad8356fd2905bd8c647c07dbd00a0da142394136f", func := "loop.example/lightship/laws.FnExactFixDiv", spec := "fnExactFixDiv", apart := false }
def FnExactFixDivSaid : Prop := fnExactFixDivRow.holds Try.pinned (OpenSpec.ofChange fnExactFixDivSpec)

/-- ITS FALSE NEIGHBOUR: 'it returns false'. Refute it at one input. -/
def fnExactFixDivWrong : ChangeSpec := { name := "fnExactFixDiv", fn := fun _ => fun
  | [d1, d2] => { results := [.lit (.bool false)], args := [d1, d2] }
  | _ => none }
def FnExactFixDivWrongFalsely : Prop := fnExactFixDivRow.holds Try.pinned (OpenSpec.ofChange fnExactFixDivWrong)

/-- 'laws.FnExactFixRoot': WHATEVER THE INPUT: true; the input reads as it did. -/
def fnExactFixRootSpec : ChangeSpec := { name := "fnExactFixRoot", fn := fun _ => fun
  | [d] => { results := [.lit (.bool true)], args := [d] }
  | _ => none }
def fnExactFixRootRow : OpenClaim := { program := "ytmhemakhignmhaa", sum := "222bb1aa77b532d92b49c48ad8356fd2905bd8c647c07dbd00a0da142394136f", func := "loop.example/lightship/laws.FnExactFixRoot", spec := "fnExactFixRoot", apart := false }
def FnExactFixRootSaid : Prop := fnExactFixRootRow.holds Try.pinned (OpenSpec.ofChange fnExactFixRootSpec)

/-- ITS FALSE NEIGHBOUR: 'it returns false'. Refute it at one input. -/
def fnExactFixRootWrong : ChangeSpec := { name := "fnExactFixRoot", fn := fun _ => fun
  | [d] => { results := [.lit (.bool false)], args := [d] }
  | _ => none }
def FnExactFixRootWrongFalsely : Prop := fnExactFixRootRow.holds Try.pinned (OpenSpec.ofChange fnExactFixRootWrong)

/-- 'laws.FnExactFixNorm': WHATEVER THE INPUT: true; the input reads as it did. -/
def fnExactFixNormSpec : ChangeSpec := { name := "fnExactFixNorm", fn := fun _ => fun
  | [d1, d2] => { results := [.lit (.bool true)], args := [d1, d2] }
  | _ => none }
def fnExactFixNormRow : OpenClaim := { program := "ytmhemakhignmhaa", sum := "222bb1aa77b532d92b49c48ad8356fd2905bd8c647c07dbd00a0da142394136f", func := "loop.example/lightship/laws.FnExactFixNorm", spec := "fnExactFixNorm", apart := false }
def FnExactFixNormSaid : Prop := fnExactFixNormRow.holds Try.pinned (OpenSpec.ofChange fnExactFixNormSpec)

/-- ITS FALSE NEIGHBOUR: 'it returns false'. Refute it at one input. -/
def fnExactFixNormWrong : ChangeSpec := { name := "fnExactFixNorm", fn := fun _ => fun
  | [d1, d2] => { results := [.lit (.bool false)], args := [d1, d2] }
  | _ => none }
def FnExactFixNormWrongFalsely : Prop := fnExactFixNormRow.holds Try.pinned (OpenSpec.ofChange fnExactFixNormWrong)

/-- 'laws.FnFixAdd': WHATEVER THE INPUT: true; the input reads as it did. -/
def fnFixAddSpec : ChangeSpec := { name := "fnFixAdd", fn := fun _ => fun
  | [d] => { results := [.lit (.bool true)], args := [d] }
  | _ => none }
def fnFixAddRow : OpenClaim := { program := "ytmhemakhignmhaa", sum := "222bb1aa77b532d92b49c48ad8356fd2905bd8c647c07dbd00a0da142394136f", func := "loop.example/lightship/laws.FnFixAdd", spec := "fnFixAdd", apart := false }
def FnFixAddSaid : Prop := fnFixAddRow.holds Try.pinned (OpenSpec.ofChange fnFixAddSpec)

/-- ITS FALSE NEIGHBOUR: 'it returns false'. Refute it at one input. -/
def fnFixAddWrong : ChangeSpec := { name := "fnFixAdd", fn := fun _ => fun
  | [d] => { results := [.lit (.bool false)], args := [d] }
  | _ => none }
def FnFixAddWrongFalsely : Prop := fnFixAddRow.holds Try.pinned (OpenSpec.ofChange fnFixAddWrong)

/- THE SECOND FORM. 'bulk': how many values and letters a reading holds, each counted each time it is reached (what is shared counts as often as it is met; a slice's spare places count too). A statement '..UptoSaid' is the law's where the arguments, and the package variables that the reading takes, are together of bulk at most 1048576: NARROWER than '..Said'. Prove '..Said' where nothing that the law and all that it calls make is longer than what came in: it says more and counts as full. Else prove '..UptoSaid'. A law counts once. -/
mutual
def uptoBulk {H : Type} : DataW H → Nat
  | .lit (.string bytes) => bytes.length + 1
  | .lit _ => 1
  | .nil => 1
  | .ptr d => uptoBulk d + 1
  | .slice elems spare => uptoBulkAll elems + uptoBulkAll spare + 1
  | .agg parts => uptoBulkAll parts + 1
  | .iface _ d => uptoBulk d + 1
  | .map entries => uptoBulkEntries entries + 1
  | .held _ => 1
def uptoBulkAll {H : Type} : List (DataW H) → Nat
  | [] => 0
  | d :: r => uptoBulk d + uptoBulkAll r
def uptoBulkEntries {H : Type} : List (Lit × DataW H) → Nat
  | [] => 0
  | x :: r => uptoBulkEntry x + uptoBulkEntries r
def uptoBulkEntry {H : Type} : Lit × DataW H → Nat
  | (.string bytes, d) => bytes.length + uptoBulk d + 1
  | (_, d) => uptoBulk d + 1
 end
def uptoSmall : (H : Type) → List (DataW H) → Bool := fun _ ds => decide (uptoBulkAll ds ≤ 1048576)
def OpenSpec.upto (s : _root_.Go.ChangeSpec) : _root_.Go.OpenSpec := { _root_.Go.OpenSpec.ofChange s with cond := some uptoSmall }

/-- 'laws.FnExactConstants', WHERE WHAT IT READS IS OF BULK AT MOST 1048576: true; the input reads as it did. -/
def fnExactConstantsUptoRow : OpenClaim := { program := "ytmhemakhignmhaa", sum := "222bb1aa77b532d92b49c48ad8356fd2905bd8c647c07dbd00a0da142394136f", func := "loop.example/lightship/laws.FnExactConstants", spec := "fnExactConstants", apart := false, narrowed := true }
def FnExactConstantsUptoSaid : Prop := fnExactConstantsUptoRow.holds Try.pinned (OpenSpec.upto fnExactConstantsSpec)

/-- 'laws.FnExactFixClamp', WHERE WHAT IT READS IS OF BULK AT MOST 1048576: true; the input reads as it did. -/
def fnExactFixClampUptoRow : OpenClaim := { program := "ytmhemakhignmhaa", sum := "222bb1aa77b532d92b49c48ad8356fd2905bd8c647c07dbd00a0da142394136f", func := "loop.example/lightship/laws.FnExactFixClamp", spec := "fnExactFixClamp", apart := false, narrowed := true }
def FnExactFixClampUptoSaid : Prop := fnExactFixClampUptoRow.holds Try.pinned (OpenSpec.upto fnExactFixClampSpec)

/-- 'laws.FnExactFactOk', WHERE WHAT IT READS IS OF BULK AT MOST 1048576: true; the input reads as it did. -/
def fnExactFactOkUptoRow : OpenClaim := { program := "ytmhemakhignmhaa", sum := "222bb1aa77b532d92b49c48ad8356fd2905bd8c647c07dbd00a0da142394136f", func := "loop.example/lightship/laws.FnExactFactOk", spec := "fnExactFactOk", apart := false, narrowed := true }
def FnExactFactOkUptoSaid : Prop := fnExactFactOkUptoRow.holds Try.pinned (OpenSpec.upto fnExactFactOkSpec)

/-- 'laws.FnExactCoordOk', WHERE WHAT IT READS IS OF BULK AT MOST 1048576: true; the input reads as it did. -/
def fnExactCoordOkUptoRow : OpenClaim := { program := "ytmhemakhignmhaa", sum := "222bb1aa77b532d92b49c48ad8356fd2905bd8c647c07dbd00a0da142394136f", func := "loop.example/lightship/laws.FnExactCoordOk", spec := "fnExactCoordOk", apart := false, narrowed := true }
def FnExactCoordOkUptoSaid : Prop := fnExactCoordOkUptoRow.holds Try.pinned (OpenSpec.upto fnExactCoordOkSpec)

/-- 'laws.FnExactFixAdd', WHERE WHAT IT READS IS OF BULK AT MOST 1048576: true; the input reads as it did. -/
def fnExactFixAddUptoRow : OpenClaim := { program := "ytmhemakhignmhaa", sum := "222bb1aa77b532d92b49c48ad8356fd2905bd8c647c07dbd00a0da142394136f", func := "loop.example/lightship/laws.FnExactFixAdd", spec := "fnExactFixAdd", apart := false, narrowed := true }
def FnExactFixAddUptoSaid : Prop := fnExactFixAddUptoRow.holds Try.pinned (OpenSpec.upto fnExactFixAddSpec)

/-- 'laws.FnExactFixMul', WHERE WHAT IT READS IS OF BULK AT MOST 1048576: true; the input reads as it did. -/
def fnExactFixMulUptoRow : OpenClaim := { program := "ytmhemakhignmhaa", sum := "222bb1aa77b532d92b49c48ad8356fd2905bd8c647c07dbd00a0da142394136f", func := "loop.example/lightship/laws.FnExactFixMul", spec := "fnExactFixMul", apart := false, narrowed := true }
def FnExactFixMulUptoSaid : Prop := fnExactFixMulUptoRow.holds Try.pinned (OpenSpec.upto fnExactFixMulSpec)

/-- 'laws.FnExactCoordNew', WHERE WHAT IT READS IS OF BULK AT MOST 1048576: true; the input reads as it did. -/
def fnExactCoordNewUptoRow : OpenClaim := { program := "ytmhemakhignmhaa", sum := "222bb1aa77b532d92b49c48ad8356fd2905bd8c647c07dbd00a0da142394136f", func := "loop.example/lightship/laws.FnExactCoordNew", spec := "fnExactCoordNew", apart := false, narrowed := true }
def FnExactCoordNewUptoSaid : Prop := fnExactCoordNewUptoRow.holds Try.pinned (OpenSpec.upto fnExactCoordNewSpec)

/-- 'laws.FnExactWordSumOf', WHERE WHAT IT READS IS OF BULK AT MOST 1048576: true; the input reads as it did. -/
def fnExactWordSumOfUptoRow : OpenClaim := { program := "ytmhemakhignmhaa", sum := "222bb1aa77b532d92b49c48ad8356fd2905bd8c647c07dbd00a0da142394136f", func := "loop.example/lightship/laws.FnExactWordSumOf", spec := "fnExactWordSumOf", apart := false, narrowed := true }
def FnExactWordSumOfUptoSaid : Prop := fnExactWordSumOfUptoRow.holds Try.pinned (OpenSpec.upto fnExactWordSumOfSpec)

/-- 'laws.FnExactFixDiv', WHERE WHAT IT READS IS OF BULK AT MOST 1048576: true; the input reads as it did. -/
def fnExactFixDivUptoRow : OpenClaim := { program := "ytmhemakhignmhaa", sum := "222bb1aa77b532d92b49c48ad8356fd2905bd8c647c07dbd00a0da142394136f", func := "loop.example/lightship/laws.FnExactFixDiv", spec := "fnExactFixDiv", apart := false, narrowed := true }
def FnExactFixDivUptoSaid : Prop := fnExactFixDivUptoRow.holds Try.pinned (OpenSpec.upto fnExactFixDivSpec)

/-- 'laws.FnExactFixRoot', WHERE WHAT IT READS IS OF BULK AT MOST 1048576: true; the input reads as it did. -/
def fnExactFixRootUptoRow : OpenClaim := { program := "ytmhemakhignmhaa", sum := "222bb1aa77b532d92b49c48ad8356fd2905bd8c647c07dbd00a0da142394136f", func := "loop.example/lightship/laws.FnExactFixRoot", spec := "fnExactFixRoot", apart := false, narrowed := true }
def FnExactFixRootUptoSaid : Prop := fnExactFixRootUptoRow.holds Try.pinned (OpenSpec.upto fnExactFixRootSpec)

/-- 'laws.FnExactFixNorm', WHERE WHAT IT READS IS OF BULK AT MOST 1048576: true; the input reads as it did. -/
def fnExactFixNormUptoRow : OpenClaim := { program := "ytmhemakhignmhaa", sum := "222bb1aa77b532d92b49c48ad8356fd2905bd8c647c07dbd00a0da142394136f", func := "loop.example/lightship/laws.FnExactFixNorm", spec := "fnExactFixNorm", apart := false, narrowed := true }
def FnExactFixNormUptoSaid : Prop := fnExactFixNormUptoRow.holds Try.pinned (OpenSpec.upto fnExactFixNormSpec)

/-- 'laws.FnFixAdd', WHERE WHAT IT READS IS OF BULK AT MOST 1048576: true; the input reads as it did. -/
def fnFixAddUptoRow : OpenClaim := { program := "ytmhemakhignmhaa", sum := "222bb1aa77b532d92b49c48ad8356fd2905bd8c647c07dbd00a0da142394136f", func := "loop.example/lightship/laws.FnFixAdd", spec := "fnFixAdd", apart := false, narrowed := true }
def FnFixAddUptoSaid : Prop := fnFixAddUptoRow.holds Try.pinned (OpenSpec.upto fnFixAddSpec)

end Rows
end Go.Proofs.Ytmhemakhignmhaa
