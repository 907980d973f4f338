/-
  No cell of these rows narrows 'for every input' (looked for: loops, veiled, ifaces, maps, wideKeys, modest, calm, conditions, laid).
  DERIVED. THE GIVEN ROWS OF THIS SEAT. 7 by the template 'for every input the law returns true; each argument reads behind the call as it read before'; 0 by the template 'total and deterministic' (their statements: YtacbmhkdeceomaaTotals.lean).
  GIVEN WITH THE SEED: the statements are not yours to turn. If you find one false, say at which input.
  Laid BY PROGRAM, IN A SANDBOX (cutbox-rows.mjs): the forced cells as the released guide's own fill.sh prints them over the translation 0f020f855ec50702… (all of the seat's roots in one cut). By AI agents, Wed Nov 11 2026. No macro, syntax, notation, axiom, sorry.
-/
import Derived.Test.YtacbmhkdeceomaaChecked
import GoSem.Claim
import GoSem.ClaimJoined
import GoSem.ClaimMapViews
import Derived.JoinedTies
import Derived.KernelRfl
namespace Go.Proofs.Ytacbmhkdeceomaa
/- THE CELL 'sum', in the pinned program and in every row, IS THE sha256 OF THE DUMP (.gsa) THAT YtacbmhkdeceomaaProg.lean LOADS. Nothing in Lean hashes anything: it is a label: what it is worth is what the hold of that sum in a sandbox is worth. -/
noncomputable def Try.pinned : Pinned := { name := "ytacbmhkdeceomaa", sum := "0f020f855ec5070283eb9551a997ecd953b271fc59adf32896c168a036dcb49b", checked := Try.checked }
namespace Rows
def none {H : Type} : Left H := { results := [], args := [] }

/-- 'laws.FnFixGrow': WHATEVER THE INPUT: true; the input reads as it did. -/
def fnFixGrowSpec : ChangeSpec := { name := "fnFixGrow", fn := fun _ => fun
  | [d1, d2] => { results := [.lit (.bool true)], args := [d1, d2] }
  | _ => none }
def fnFixGrowRow : OpenClaim := { program := "ytacbmhkdeceomaa", sum := "0f020f855ec5070283eb9551a997ecd953b271fc59adf32896c168a036dcb49b", func := "loop.example/lightship/laws.FnFixGrow", spec := "fnFixGrow", apart := false }
def FnFixGrowSaid : Prop := fnFixGrowRow.holds Try.pinned (OpenSpec.ofChange fnFixGrowSpec)

/-- ITS FALSE NEIGHBOUR: 'it returns false'. Refute it at one input. -/
def fnFixGrowWrong : ChangeSpec := { name := "fnFixGrow", fn := fun _ => fun
  | [d1, d2] => { results := [.lit (.bool false)], args := [d1, d2] }
  | _ => none }
def FnFixGrowWrongFalsely : Prop := fnFixGrowRow.holds Try.pinned (OpenSpec.ofChange fnFixGrowWrong)

/-- 'laws.FnFixMul': WHATEVER THE INPUT: true; the input reads as it did. -/
def fnFixMulSpec : ChangeSpec := { name := "fnFixMul", fn := fun _ => fun
  | [d] => { results := [.lit (.bool true)], args := [d] }
  | _ => none }
def fnFixMulRow : OpenClaim := { program := "ytacbmhkdeceomaa", sum := "0f020f855ec5070283eb9551a997ecd953b271fc59adf32896c168a036dcb49b", func := "loop.example/lightship/laws.FnFixMul", spec := "fnFixMul", apart := false }
def FnFixMulSaid : Prop := fnFixMulRow.holds Try.pinned (OpenSpec.ofChange fnFixMulSpec)

/-- ITS FALSE NEIGHBOUR: 'it returns false'. Refute it at one input. -/
def fnFixMulWrong : ChangeSpec := { name := "fnFixMul", fn := fun _ => fun
  | [d] => { results := [.lit (.bool false)], args := [d] }
  | _ => none }
def FnFixMulWrongFalsely : Prop := fnFixMulRow.holds Try.pinned (OpenSpec.ofChange fnFixMulWrong)

/-- 'laws.FnFixRoot': WHATEVER THE INPUT: true; the input reads as it did. -/
def fnFixRootSpec : ChangeSpec := { name := "fnFixRoot", fn := fun _ => fun
  | [d] => { results := [.lit (.bool true)], args := [d] }
  | _ => none }
def fnFixRootRow : OpenClaim := { program := "ytacbmhkdeceomaa", sum := "0f020f855ec5070283eb9551a997ecd953b271fc59adf32896c168a036dcb49b", func := "loop.example/lightship/laws.FnFixRoot", spec := "fnFixRoot", apart := false }
def FnFixRootSaid : Prop := fnFixRootRow.holds Try.pinned (OpenSpec.ofChange fnFixRootSpec)

/-- ITS FALSE NEIGHBOUR: 'it returns false'. Refute it at one input. -/
def fnFixRootWrong : ChangeSpec := { name := "fnFixRoot", fn := fun _ => fun
  | [d] => { results := [.lit (.bool false)], args := [d] }
  | _ => none }
def FnFixRootWrongFalsely : Prop := fnFixRootRow.holds Try.pinned (OpenSpec.ofChange fnFixRootWrong)

/-- 'laws.FnWordSum': WHATEVER THE INPUT: true; the input reads as it did. -/
def fnWordSumSpec : ChangeSpec := { name := "fnWordSum", fn := fun _ => fun
  | [d] => { results := [.lit (.bool true)], args := [d] }
  | _ => none }
def fnWordSumRow : OpenClaim := { program := "ytacbmhkdeceomaa", sum := "0f020f855ec5070283eb9551a997ecd953b271fc59adf32896c168a036dcb49b", func := "loop.example/lightship/laws.FnWordSum", spec := "fnWordSum", apart := false }
def FnWordSumSaid : Prop := fnWordSumRow.holds Try.pinned (OpenSpec.ofChange fnWordSumSpec)

/-- ITS FALSE NEIGHBOUR: 'it returns false'. Refute it at one input. -/
def fnWordSumWrong : ChangeSpec := { name := "fnWordSum", fn := fun _ => fun
  | [d] => { results := [.lit (.bool false)], args := [d] }
  | _ => none }
def FnWordSumWrongFalsely : Prop := fnWordSumRow.holds Try.pinned (OpenSpec.ofChange fnWordSumWrong)

/-- 'laws.FnFixDiv': WHATEVER THE INPUT: true; the input reads as it did. -/
def fnFixDivSpec : ChangeSpec := { name := "fnFixDiv", fn := fun _ => fun
  | [d] => { results := [.lit (.bool true)], args := [d] }
  | _ => none }
def fnFixDivRow : OpenClaim := { program := "ytacbmhkdeceomaa", sum := "0f020f855ec5070283eb9551a997ecd953b271fc59adf32896c168a036dcb49b", func := "loop.example/lightship/laws.FnFixDiv", spec := "fnFixDiv", apart := false }
def FnFixDivSaid : Prop := fnFixDivRow.holds Try.pinned (OpenSpec.ofChange fnFixDivSpec)

/-- ITS FALSE NEIGHBOUR: 'it returns false'. Refute it at one input. -/
def fnFixDivWrong : ChangeSpec := { name := "fnFixDiv", fn := fun _ => fun
  | [d] => { results := [.lit (.bool false)], args := [d] }
  | _ => none }
def FnFixDivWrongFalsely : Prop := fnFixDivRow.holds Try.pinned (OpenSpec.ofChange fnFixDivWrong)

/-- 'laws.FnFixNorm': WHATEVER THE INPUT: true; the input reads as it did. -/
def fnFixNormSpec : ChangeSpec := { name := "fnFixNorm", fn := fun _ => fun
  | [d] => { results := [.lit (.bool true)], args := [d] }
  | _ => none }
def fnFixNormRow : OpenClaim := { program := "ytacbmhkdeceomaa", sum := "0f020f855ec5070283eb9551a997ecd953b271fc59adf32896c168a036dcb49b", func := "loop.example/lightship/laws.FnFixNorm", spec := "fnFixNorm", apart := false }
def FnFixNormSaid : Prop := fnFixNormRow.holds Try.pinned (OpenSpec.ofChange fnFixNormSpec)

/-- ITS FALSE NEIGHBOUR: 'it returns false'. Refute it at one input. -/
def fnFixNormWrong : ChangeSpec := { name := "fnFixNorm", fn := fun _ => fun
  | [d] => { results := [.lit (.bool false)], args := [d] }
  | _ => none }
def FnFixNormWrongFalsely : Prop := fnFixNormRow.holds Try.pinned (OpenSpec.ofChange fnFixNormWrong)

/-- 'laws.FnFixBox': WHATEVER THE INPUT: true; the input reads as it did. -/
def fnFixBoxSpec : ChangeSpec := { name := "fnFixBox", fn := fun _ => fun
  | [d] => { results := [.lit (.bool true)], args := [d] }
  | _ => none }
def fnFixBoxRow : OpenClaim := { program := "ytacbmhkdeceomaa", sum := "0f020f855ec5070283eb9551a997ecd953b271fc59adf32896c168a036dcb49b", func := "loop.example/lightship/laws.FnFixBox", spec := "fnFixBox", apart := false }
def FnFixBoxSaid : Prop := fnFixBoxRow.holds Try.pinned (OpenSpec.ofChange fnFixBoxSpec)

/-- ITS FALSE NEIGHBOUR: 'it returns false'. Refute it at one input. -/
def fnFixBoxWrong : ChangeSpec := { name := "fnFixBox", fn := fun _ => fun
  | [d] => { results := [.lit (.bool false)], args := [d] }
  | _ => none }
def FnFixBoxWrongFalsely : Prop := fnFixBoxRow.holds Try.pinned (OpenSpec.ofChange fnFixBoxWrong)

/- THE SECOND FORM. 'bulk': how many values and letters a reading holds, each counted each time it is reached (what is shared counts as often as it is met; a slice's spare places count too). A statement '..UptoSaid' is the law's where the arguments, and the package variables that the reading takes, are together of bulk at most 1048576: NARROWER than '..Said'. Prove '..Said' where nothing that the law and all that it calls make is longer than what came in: it says more and counts as full. Else prove '..UptoSaid'. A law counts once. -/
mutual
def uptoBulk {H : Type} : DataW H → Nat
  | .lit (.string bytes) => bytes.length + 1
  | .lit _ => 1
  | .nil => 1
  | .ptr d => uptoBulk d + 1
  | .slice elems spare => uptoBulkAll elems + uptoBulkAll spare + 1
  | .agg parts => uptoBulkAll parts + 1
  | .iface _ d => uptoBulk d + 1
  | .map entries => uptoBulkEntries entries + 1
  | .held _ => 1
def uptoBulkAll {H : Type} : List (DataW H) → Nat
  | [] => 0
  | d :: r => uptoBulk d + uptoBulkAll r
def uptoBulkEntries {H : Type} : List (Lit × DataW H) → Nat
  | [] => 0
  | x :: r => uptoBulkEntry x + uptoBulkEntries r
def uptoBulkEntry {H : Type} : Lit × DataW H → Nat
  | (.string bytes, d) => bytes.length + uptoBulk d + 1
  | (_, d) => uptoBulk d + 1
 end
def uptoSmall : (H : Type) → List (DataW H) → Bool := fun _ ds => decide (uptoBulkAll ds ≤ 1048576)
def OpenSpec.upto (s : _root_.Go.ChangeSpec) : _root_.Go.OpenSpec := { _root_.Go.OpenSpec.ofChange s with cond := some uptoSmall }

/-- 'laws.FnFixGrow', WHERE WHAT IT READS IS OF BULK AT MOST 1048576: true; the input reads as it did. -/
def fnFixGrowUptoRow : OpenClaim := { program := "ytacbmhkdeceomaa", sum := "0f020f855ec5070283eb9551a997ecd953b271fc59adf32896c168a036dcb49b", func := "loop.example/lightship/laws.FnFixGrow", spec := "fnFixGrow", apart := false, narrowed := true }
def FnFixGrowUptoSaid : Prop := fnFixGrowUptoRow.holds Try.pinned (OpenSpec.upto fnFixGrowSpec)

/-- 'laws.FnFixMul', WHERE WHAT IT READS IS OF BULK AT MOST 1048576: true; the input reads as it did. -/
def fnFixMulUptoRow : OpenClaim := { program := "ytacbmhkdeceomaa", sum := "0f020f855ec5070283eb9551a997ecd953b271fc59adf32896c168a036dcb49b", func := "loop.example/lightship/laws.FnFixMul", spec := "fnFixMul", apart := false, narrowed := true }
def FnFixMulUptoSaid : Prop := fnFixMulUptoRow.holds Try.pinned (OpenSpec.upto fnFixMulSpec)

/-- 'laws.FnFixRoot', WHERE WHAT IT READS IS OF BULK AT MOST 1048576: true; the input reads as it did. -/
def fnFixRootUptoRow : OpenClaim := { program := "ytacbmhkdeceomaa", sum := "0f020f855ec5070283eb9551a997ecd953b271fc59adf32896c168a036dcb49b", func := "loop.example/lightship/laws.FnFixRoot", spec := "fnFixRoot", apart := false, narrowed := true }
def FnFixRootUptoSaid : Prop := fnFixRootUptoRow.holds Try.pinned (OpenSpec.upto fnFixRootSpec)

/-- 'laws.FnWordSum', WHERE WHAT IT READS IS OF BULK AT MOST 1048576: true; the input reads as it did. -/
def fnWordSumUptoRow : OpenClaim := { program := "ytacbmhkdeceomaa", sum := "0f020f855ec5070283eb9551a997ecd953b271fc59adf32896c168a036dcb49b", func := "loop.example/lightship/laws.FnWordSum", spec := "fnWordSum", apart := false, narrowed := true }
def FnWordSumUptoSaid : Prop := fnWordSumUptoRow.holds Try.pinned (OpenSpec.upto fnWordSumSpec)

/-- 'laws.FnFixDiv', WHERE WHAT IT READS IS OF BULK AT MOST 1048576: true; the input reads as it did. -/
def fnFixDivUptoRow : OpenClaim := { program := "ytacbmhkdeceomaa", sum := "0f020f855ec5070283eb9551a997ecd953b271fc59adf32896c168a036dcb49b", func := "loop.example/lightship/laws.FnFixDiv", spec := "fnFixDiv", apart := false, narrowed := true }
def FnFixDivUptoSaid : Prop := fnFixDivUptoRow.holds Try.pinned (OpenSpec.upto fnFixDivSpec)

/-- 'laws.FnFixNorm', WHERE WHAT IT READS IS OF BULK AT MOST 1048576: true; the input reads as it did. -/
def fnFixNormUptoRow : OpenClaim := { program := "ytacbmhkdeceomaa", sum := "0f020f855ec5070283eb9551a997ecd953b271fc59adf32896c168a036dcb49b", func := "loop.example/lightship/laws.FnFixNorm", spec := "fnFixNorm", apart := false, narrowed := true }
def FnFixNormUptoSaid : Prop := fnFixNormUptoRow.holds Try.pinned (OpenSpec.upto fnFixNormSpec)

/-- 'laws.FnFixBox', WHERE WHAT IT READS IS OF BULK AT MOST 1048576: true; the input reads as it did. -/
def fnFixBoxUptoRow : OpenClaim := { program := "ytacbmhkdeceomaa", sum := "0f020f855ec5070283eb9551a997ecd953b271fc59adf32896c168a036dcb49b", func := "loop.example/lightship/laws.FnFixBox", spec := "fnFixBox", apart := false, narrowed := true }
def FnFixBoxUptoSaid : Prop := fnFixBoxUptoRow.holds Try.pinned (OpenSpec.upto fnFixBoxSpec)

end Rows
end Go.Proofs.Ytacbmhkdeceomaa
