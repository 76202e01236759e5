/-
  No cell of these rows narrows 'for every input' (looked for: loops, veiled, ifaces, maps, wideKeys, modest, calm, conditions, laid).
  DERIVED. THE GIVEN ROWS OF THIS SEAT. 12 by the template 'for every input the law returns true; each argument reads behind the call as it read before'; 0 by the template 'total and deterministic' (their statements: YtbiamhmjcnmjgaaTotals.lean).
  GIVEN WITH THE SEED: the statements are not yours to turn. If you find one false, say at which input.
  Laid BY PROGRAM, IN A SANDBOX (cutbox-rows.mjs): the forced cells as the released guide's own fill.sh prints them over the translation fdffaaed4e595b4d… (all of the seat's roots in one cut). By AI agents, Wed Nov 11 2026. No macro, syntax, notation, axiom, sorry.
-/
import Derived.Test.YtbiamhmjcnmjgaaChecked
import GoSem.Claim
import GoSem.ClaimJoined
import GoSem.ClaimMapViews
import Derived.JoinedTies
import Derived.KernelRfl
namespace Go.Proofs.Ytbiamhmjcnmjgaa
/- THE CELL 'sum', in the pinned program and in every row, IS THE sha256 OF THE DUMP (.gsa) THAT YtbiamhmjcnmjgaaProg.lean LOADS. Nothing in Lean hashes anything: it is a label: what it is worth is what the hold of that sum in a sandbox is worth. -/
noncomputable def Try.pinned : Pinned := { name := "ytbiamhmjcnmjgaa", sum := "fdffaaed4e595b4dcb505ed4d4112432e602f953a8469a26c09041d2fa848217", checked := Try.checked }
namespace Rows
def none {H : Type} : Left H := { results := [], args := [] }

/-- 'laws.FnExactBasis': WHATEVER THE INPUT: true; the input reads as it did. -/
def fnExactBasisSpec : ChangeSpec := { name := "fnExactBasis", fn := fun _ => fun
  | [] => { results := [.lit (.bool true)], args := [] }
  | _ => none }
def fnExactBasisRow : OpenClaim := { program := "ytbiamhmjcnmjgaa", sum := "fdffaaed4e595b4dcb505ed4d4112432e602f953a8469a26c09041d2fa848217", func := "loop.example/g00139/laws.FnExactBasis", spec := "fnExactBasis", apart := false }
def FnExactBasisSaid : Prop := fnExactBasisRow.holds Try.pinned (OpenSpec.ofChange fnExactBasisSpec)

/-- ITS FALSE NEIGHBOUR: 'it returns false'. Refute it at one input. -/
def fnExactBasisWrong : ChangeSpec := { name := "fnExactBasis", fn := fun _ => fun
  | [] => { results := [.lit (.bool false)], args := [] }
  | _ => none }
def FnExactBasisWrongFalsely : Prop := fnExactBasisRow.holds Try.pinned (OpenSpec.ofChange fnExactBasisWrong)

/-- 'laws.FnExactBitsOf': WHATEVER THE INPUT: true; the input reads as it did. -/
def fnExactBitsOfSpec : ChangeSpec := { name := "fnExactBitsOf", fn := fun _ => fun
  | [d] => { results := [.lit (.bool true)], args := [d] }
  | _ => none }
def fnExactBitsOfRow : OpenClaim := { program := "ytbiamhmjcnmjgaa", sum := "fdffaaed4e595b4dcb505ed4d4112432e602f953a8469a26c09041d2fa848217", func := "loop.example/g00139/laws.FnExactBitsOf", spec := "fnExactBitsOf", apart := false }
def FnExactBitsOfSaid : Prop := fnExactBitsOfRow.holds Try.pinned (OpenSpec.ofChange fnExactBitsOfSpec)

/-- ITS FALSE NEIGHBOUR: 'it returns false'. Refute it at one input. -/
def fnExactBitsOfWrong : ChangeSpec := { name := "fnExactBitsOf", fn := fun _ => fun
  | [d] => { results := [.lit (.bool false)], args := [d] }
  | _ => none }
def FnExactBitsOfWrongFalsely : Prop := fnExactBitsOfRow.holds Try.pinned (OpenSpec.ofChange fnExactBitsOfWrong)

/-- 'laws.FnExactDequantize': WHATEVER THE INPUT: true; the input reads as it did. -/
def fnExactDequantizeSpec : ChangeSpec := { name := "fnExactDequantize", fn := fun _ => fun
  | [d1, d2] => { results := [.lit (.bool true)], args := [d1, d2] }
  | _ => none }
def fnExactDequantizeRow : OpenClaim := { program := "ytbiamhmjcnmjgaa", sum := "fdffaaed4e595b4dcb505ed4d4112432e602f953a8469a26c09041d2fa848217", func := "loop.example/g00139/laws.FnExactDequantize", spec := "fnExactDequantize", apart := false }
def FnExactDequantizeSaid : Prop := fnExactDequantizeRow.holds Try.pinned (OpenSpec.ofChange fnExactDequantizeSpec)

/-- ITS FALSE NEIGHBOUR: 'it returns false'. Refute it at one input. -/
def fnExactDequantizeWrong : ChangeSpec := { name := "fnExactDequantize", fn := fun _ => fun
  | [d1, d2] => { results := [.lit (.bool false)], args := [d1, d2] }
  | _ => none }
def FnExactDequantizeWrongFalsely : Prop := fnExactDequantizeRow.holds Try.pinned (OpenSpec.ofChange fnExactDequantizeWrong)

/-- 'laws.FnExactQuantize': WHATEVER THE INPUT: true; the input reads as it did. -/
def fnExactQuantizeSpec : ChangeSpec := { name := "fnExactQuantize", fn := fun _ => fun
  | [d1, d2] => { results := [.lit (.bool true)], args := [d1, d2] }
  | _ => none }
def fnExactQuantizeRow : OpenClaim := { program := "ytbiamhmjcnmjgaa", sum := "fdffaaed4e595b4dcb505ed4d4112432e602f953a8469a26c09041d2fa848217", func := "loop.example/g00139/laws.FnExactQuantize", spec := "fnExactQuantize", apart := false }
def FnExactQuantizeSaid : Prop := fnExactQuantizeRow.holds Try.pinned (OpenSpec.ofChange fnExactQuantizeSpec)

/-- ITS FALSE NEIGHBOUR: 'it returns false'. Refute it at one input. -/
def fnExactQuantizeWrong : ChangeSpec := { name := "fnExactQuantize", fn := fun _ => fun
  | [d1, d2] => { results := [.lit (.bool false)], args := [d1, d2] }
  | _ => none }
def FnExactQuantizeWrongFalsely : Prop := fnExactQuantizeRow.holds Try.pinned (OpenSpec.ofChange fnExactQuantizeWrong)

/-- 'laws.FnExactScale': WHATEVER THE INPUT: true; the input reads as it did. -/
def fnExactScaleSpec : ChangeSpec := { name := "fnExactScale", fn := fun _ => fun
  | [d1, d2] => { results := [.lit (.bool true)], args := [d1, d2] }
  | _ => none }
def fnExactScaleRow : OpenClaim := { program := "ytbiamhmjcnmjgaa", sum := "fdffaaed4e595b4dcb505ed4d4112432e602f953a8469a26c09041d2fa848217", func := "loop.example/g00139/laws.FnExactScale", spec := "fnExactScale", apart := false }
def FnExactScaleSaid : Prop := fnExactScaleRow.holds Try.pinned (OpenSpec.ofChange fnExactScaleSpec)

/-- ITS FALSE NEIGHBOUR: 'it returns false'. Refute it at one input. -/
def fnExactScaleWrong : ChangeSpec := { name := "fnExactScale", fn := fun _ => fun
  | [d1, d2] => { results := [.lit (.bool false)], args := [d1, d2] }
  | _ => none }
def FnExactScaleWrongFalsely : Prop := fnExactScaleRow.holds Try.pinned (OpenSpec.ofChange fnExactScaleWrong)

/-- 'laws.FnStuffed': WHATEVER THE INPUT: true; the input reads as it did. -/
def fnStuffedSpec : ChangeSpec := { name := "fnStuffed", fn := fun _ => fun
  | [d] => { results := [.lit (.bool true)], args := [d] }
  | _ => none }
def fnStuffedRow : OpenClaim := { program := "ytbiamhmjcnmjgaa", sum := "fdffaaed4e595b4dcb505ed4d4112432e602f953a8469a26c09041d2fa848217", func := "loop.example/g00139/laws.FnStuffed", spec := "fnStuffed", apart := false }
def FnStuffedSaid : Prop := fnStuffedRow.holds Try.pinned (OpenSpec.ofChange fnStuffedSpec)

/-- ITS FALSE NEIGHBOUR: 'it returns false'. Refute it at one input. -/
def fnStuffedWrong : ChangeSpec := { name := "fnStuffed", fn := fun _ => fun
  | [d] => { results := [.lit (.bool false)], args := [d] }
  | _ => none }
def FnStuffedWrongFalsely : Prop := fnStuffedRow.holds Try.pinned (OpenSpec.ofChange fnStuffedWrong)

/-- 'laws.FnExactFromZig': WHATEVER THE INPUT: true; the input reads as it did. -/
def fnExactFromZigSpec : ChangeSpec := { name := "fnExactFromZig", fn := fun _ => fun
  | [d] => { results := [.lit (.bool true)], args := [d] }
  | _ => none }
def fnExactFromZigRow : OpenClaim := { program := "ytbiamhmjcnmjgaa", sum := "fdffaaed4e595b4dcb505ed4d4112432e602f953a8469a26c09041d2fa848217", func := "loop.example/g00139/laws.FnExactFromZig", spec := "fnExactFromZig", apart := false }
def FnExactFromZigSaid : Prop := fnExactFromZigRow.holds Try.pinned (OpenSpec.ofChange fnExactFromZigSpec)

/-- ITS FALSE NEIGHBOUR: 'it returns false'. Refute it at one input. -/
def fnExactFromZigWrong : ChangeSpec := { name := "fnExactFromZig", fn := fun _ => fun
  | [d] => { results := [.lit (.bool false)], args := [d] }
  | _ => none }
def FnExactFromZigWrongFalsely : Prop := fnExactFromZigRow.holds Try.pinned (OpenSpec.ofChange fnExactFromZigWrong)

/-- 'laws.FnExactToZig': WHATEVER THE INPUT: true; the input reads as it did. -/
def fnExactToZigSpec : ChangeSpec := { name := "fnExactToZig", fn := fun _ => fun
  | [d] => { results := [.lit (.bool true)], args := [d] }
  | _ => none }
def fnExactToZigRow : OpenClaim := { program := "ytbiamhmjcnmjgaa", sum := "fdffaaed4e595b4dcb505ed4d4112432e602f953a8469a26c09041d2fa848217", func := "loop.example/g00139/laws.FnExactToZig", spec := "fnExactToZig", apart := false }
def FnExactToZigSaid : Prop := fnExactToZigRow.holds Try.pinned (OpenSpec.ofChange fnExactToZigSpec)

/-- ITS FALSE NEIGHBOUR: 'it returns false'. Refute it at one input. -/
def fnExactToZigWrong : ChangeSpec := { name := "fnExactToZig", fn := fun _ => fun
  | [d] => { results := [.lit (.bool false)], args := [d] }
  | _ => none }
def FnExactToZigWrongFalsely : Prop := fnExactToZigRow.holds Try.pinned (OpenSpec.ofChange fnExactToZigWrong)

/-- 'laws.FnNumsBack': WHATEVER THE INPUT: true; the input reads as it did. -/
def fnNumsBackSpec : ChangeSpec := { name := "fnNumsBack", fn := fun _ => fun
  | [d] => { results := [.lit (.bool true)], args := [d] }
  | _ => none }
def fnNumsBackRow : OpenClaim := { program := "ytbiamhmjcnmjgaa", sum := "fdffaaed4e595b4dcb505ed4d4112432e602f953a8469a26c09041d2fa848217", func := "loop.example/g00139/laws.FnNumsBack", spec := "fnNumsBack", apart := false }
def FnNumsBackSaid : Prop := fnNumsBackRow.holds Try.pinned (OpenSpec.ofChange fnNumsBackSpec)

/-- ITS FALSE NEIGHBOUR: 'it returns false'. Refute it at one input. -/
def fnNumsBackWrong : ChangeSpec := { name := "fnNumsBack", fn := fun _ => fun
  | [d] => { results := [.lit (.bool false)], args := [d] }
  | _ => none }
def FnNumsBackWrongFalsely : Prop := fnNumsBackRow.holds Try.pinned (OpenSpec.ofChange fnNumsBackWrong)

/-- 'laws.FnExactSegsOk': WHATEVER THE INPUT: true; the input reads as it did. -/
def fnExactSegsOkSpec : ChangeSpec := { name := "fnExactSegsOk", fn := fun _ => fun
  | [d] => { results := [.lit (.bool true)], args := [d] }
  | _ => none }
def fnExactSegsOkRow : OpenClaim := { program := "ytbiamhmjcnmjgaa", sum := "fdffaaed4e595b4dcb505ed4d4112432e602f953a8469a26c09041d2fa848217", func := "loop.example/g00139/laws.FnExactSegsOk", spec := "fnExactSegsOk", apart := false }
def FnExactSegsOkSaid : Prop := fnExactSegsOkRow.holds Try.pinned (OpenSpec.ofChange fnExactSegsOkSpec)

/-- ITS FALSE NEIGHBOUR: 'it returns false'. Refute it at one input. -/
def fnExactSegsOkWrong : ChangeSpec := { name := "fnExactSegsOk", fn := fun _ => fun
  | [d] => { results := [.lit (.bool false)], args := [d] }
  | _ => none }
def FnExactSegsOkWrongFalsely : Prop := fnExactSegsOkRow.holds Try.pinned (OpenSpec.ofChange fnExactSegsOkWrong)

/-- 'laws.FnExactCodesOf': WHATEVER THE INPUT: true; the input reads as it did. -/
def fnExactCodesOfSpec : ChangeSpec := { name := "fnExactCodesOf", fn := fun _ => fun
  | [d] => { results := [.lit (.bool true)], args := [d] }
  | _ => none }
def fnExactCodesOfRow : OpenClaim := { program := "ytbiamhmjcnmjgaa", sum := "fdffaaed4e595b4dcb505ed4d4112432e602f953a8469a26c09041d2fa848217", func := "loop.example/g00139/laws.FnExactCodesOf", spec := "fnExactCodesOf", apart := false }
def FnExactCodesOfSaid : Prop := fnExactCodesOfRow.holds Try.pinned (OpenSpec.ofChange fnExactCodesOfSpec)

/-- ITS FALSE NEIGHBOUR: 'it returns false'. Refute it at one input. -/
def fnExactCodesOfWrong : ChangeSpec := { name := "fnExactCodesOf", fn := fun _ => fun
  | [d] => { results := [.lit (.bool false)], args := [d] }
  | _ => none }
def FnExactCodesOfWrongFalsely : Prop := fnExactCodesOfRow.holds Try.pinned (OpenSpec.ofChange fnExactCodesOfWrong)

/-- 'laws.FnZig': WHATEVER THE INPUT: true; the input reads as it did. -/
def fnZigSpec : ChangeSpec := { name := "fnZig", fn := fun _ => fun
  | [d] => { results := [.lit (.bool true)], args := [d] }
  | _ => none }
def fnZigRow : OpenClaim := { program := "ytbiamhmjcnmjgaa", sum := "fdffaaed4e595b4dcb505ed4d4112432e602f953a8469a26c09041d2fa848217", func := "loop.example/g00139/laws.FnZig", spec := "fnZig", apart := false }
def FnZigSaid : Prop := fnZigRow.holds Try.pinned (OpenSpec.ofChange fnZigSpec)

/-- ITS FALSE NEIGHBOUR: 'it returns false'. Refute it at one input. -/
def fnZigWrong : ChangeSpec := { name := "fnZig", fn := fun _ => fun
  | [d] => { results := [.lit (.bool false)], args := [d] }
  | _ => none }
def FnZigWrongFalsely : Prop := fnZigRow.holds Try.pinned (OpenSpec.ofChange fnZigWrong)

/- THE SECOND FORM. 'bulk': how many values and letters a reading holds, each counted each time it is reached (what is shared counts as often as it is met; a slice's spare places count too). A statement '..UptoSaid' is the law's where the arguments, and the package variables that the reading takes, are together of bulk at most 1048576: NARROWER than '..Said'. Prove '..Said' where nothing that the law and all that it calls make is longer than what came in: it says more and counts as full. Else prove '..UptoSaid'. A law counts once. -/
mutual
def uptoBulk {H : Type} : DataW H → Nat
  | .lit (.string bytes) => bytes.length + 1
  | .lit _ => 1
  | .nil => 1
  | .ptr d => uptoBulk d + 1
  | .slice elems spare => uptoBulkAll elems + uptoBulkAll spare + 1
  | .agg parts => uptoBulkAll parts + 1
  | .iface _ d => uptoBulk d + 1
  | .map entries => uptoBulkEntries entries + 1
  | .held _ => 1
def uptoBulkAll {H : Type} : List (DataW H) → Nat
  | [] => 0
  | d :: r => uptoBulk d + uptoBulkAll r
def uptoBulkEntries {H : Type} : List (Lit × DataW H) → Nat
  | [] => 0
  | x :: r => uptoBulkEntry x + uptoBulkEntries r
def uptoBulkEntry {H : Type} : Lit × DataW H → Nat
  | (.string bytes, d) => bytes.length + uptoBulk d + 1
  | (_, d) => uptoBulk d + 1
 end
def uptoSmall : (H : Type) → List (DataW H) → Bool := fun _ ds => decide (uptoBulkAll ds ≤ 1048576)
def OpenSpec.upto (s : _root_.Go.ChangeSpec) : _root_.Go.OpenSpec := { _root_.Go.OpenSpec.ofChange s with cond := some uptoSmall }

/-- 'laws.FnExactBasis', WHERE WHAT IT READS IS OF BULK AT MOST 1048576: true; the input reads as it did. -/
def fnExactBasisUptoRow : OpenClaim := { program := "ytbiamhmjcnmjgaa", sum := "fdffaaed4e595b4dcb505ed4d4112432e602f953a8469a26c09041d2fa848217", func := "loop.example/g00139/laws.FnExactBasis", spec := "fnExactBasis", apart := false, narrowed := true }
def FnExactBasisUptoSaid : Prop := fnExactBasisUptoRow.holds Try.pinned (OpenSpec.upto fnExactBasisSpec)

/-- 'laws.FnExactBitsOf', WHERE WHAT IT READS IS OF BULK AT MOST 1048576: true; the input reads as it did. -/
def fnExactBitsOfUptoRow : OpenClaim := { program := "ytbiamhmjcnmjgaa", sum := "fdffaaed4e595b4dcb505ed4d4112432e602f953a8469a26c09041d2fa848217", func := "loop.example/g00139/laws.FnExactBitsOf", spec := "fnExactBitsOf", apart := false, narrowed := true }
def FnExactBitsOfUptoSaid : Prop := fnExactBitsOfUptoRow.holds Try.pinned (OpenSpec.upto fnExactBitsOfSpec)

/-- 'laws.FnExactDequantize', WHERE WHAT IT READS IS OF BULK AT MOST 1048576: true; the input reads as it did. -/
def fnExactDequantizeUptoRow : OpenClaim := { program := "ytbiamhmjcnmjgaa", sum := "fdffaaed4e595b4dcb505ed4d4112432e602f953a8469a26c09041d2fa848217", func := "loop.example/g00139/laws.FnExactDequantize", spec := "fnExactDequantize", apart := false, narrowed := true }
def FnExactDequantizeUptoSaid : Prop := fnExactDequantizeUptoRow.holds Try.pinned (OpenSpec.upto fnExactDequantizeSpec)

/-- 'laws.FnExactQuantize', WHERE WHAT IT READS IS OF BULK AT MOST 1048576: true; the input reads as it did. -/
def fnExactQuantizeUptoRow : OpenClaim := { program := "ytbiamhmjcnmjgaa", sum := "fdffaaed4e595b4dcb505ed4d4112432e602f953a8469a26c09041d2fa848217", func := "loop.example/g00139/laws.FnExactQuantize", spec := "fnExactQuantize", apart := false, narrowed := true }
def FnExactQuantizeUptoSaid : Prop := fnExactQuantizeUptoRow.holds Try.pinned (OpenSpec.upto fnExactQuantizeSpec)

/-- 'laws.FnExactScale', WHERE WHAT IT READS IS OF BULK AT MOST 1048576: true; the input reads as it did. -/
def fnExactScaleUptoRow : OpenClaim := { program := "ytbiamhmjcnmjgaa", sum := "fdffaaed4e595b4dcb505ed4d4112432e602f953a8469a26c09041d2fa848217", func := "loop.example/g00139/laws.FnExactScale", spec := "fnExactScale", apart := false, narrowed := true }
def FnExactScaleUptoSaid : Prop := fnExactScaleUptoRow.holds Try.pinned (OpenSpec.upto fnExactScaleSpec)

/-- 'laws.FnStuffed', WHERE WHAT IT READS IS OF BULK AT MOST 1048576: true; the input reads as it did. -/
def fnStuffedUptoRow : OpenClaim := { program := "ytbiamhmjcnmjgaa", sum := "fdffaaed4e595b4dcb505ed4d4112432e602f953a8469a26c09041d2fa848217", func := "loop.example/g00139/laws.FnStuffed", spec := "fnStuffed", apart := false, narrowed := true }
def FnStuffedUptoSaid : Prop := fnStuffedUptoRow.holds Try.pinned (OpenSpec.upto fnStuffedSpec)

/-- 'laws.FnExactFromZig', WHERE WHAT IT READS IS OF BULK AT MOST 1048576: true; the input reads as it did. -/
def fnExactFromZigUptoRow : OpenClaim := { program := "ytbiamhmjcnmjgaa", sum := "fdffaaed4e595b4dcb505ed4d4112432e602f953a8469a26c09041d2fa848217", func := "loop.example/g00139/laws.FnExactFromZig", spec := "fnExactFromZig", apart := false, narrowed := true }
def FnExactFromZigUptoSaid : Prop := fnExactFromZigUptoRow.holds Try.pinned (OpenSpec.upto fnExactFromZigSpec)

/-- 'laws.FnExactToZig', WHERE WHAT IT READS IS OF BULK AT MOST 1048576: true; the input reads as it did. -/
def fnExactToZigUptoRow : OpenClaim := { program := "ytbiamhmjcnmjgaa", sum := "fdffaaed4e595b4dcb505ed4d4112432e602f953a8469a26c09041d2fa848217", func := "loop.example/g00139/laws.FnExactToZig", spec := "fnExactToZig", apart := false, narrowed := true }
def FnExactToZigUptoSaid : Prop := fnExactToZigUptoRow.holds Try.pinned (OpenSpec.upto fnExactToZigSpec)

/-- 'laws.FnNumsBack', WHERE WHAT IT READS IS OF BULK AT MOST 1048576: true; the input reads as it did. -/
def fnNumsBackUptoRow : OpenClaim := { program := "ytbiamhmjcnmjgaa", sum := "fdffaaed4e595b4dcb505ed4d4112432e602f953a8469a26c09041d2fa848217", func := "loop.example/g00139/laws.FnNumsBack", spec := "fnNumsBack", apart := false, narrowed := true }
def FnNumsBackUptoSaid : Prop := fnNumsBackUptoRow.holds Try.pinned (OpenSpec.upto fnNumsBackSpec)

/-- 'laws.FnExactSegsOk', WHERE WHAT IT READS IS OF BULK AT MOST 1048576: true; the input reads as it did. -/
def fnExactSegsOkUptoRow : OpenClaim := { program := "ytbiamhmjcnmjgaa", sum := "fdffaaed4e595b4dcb505ed4d4112432e602f953a8469a26c09041d2fa848217", func := "loop.example/g00139/laws.FnExactSegsOk", spec := "fnExactSegsOk", apart := false, narrowed := true }
def FnExactSegsOkUptoSaid : Prop := fnExactSegsOkUptoRow.holds Try.pinned (OpenSpec.upto fnExactSegsOkSpec)

/-- 'laws.FnExactCodesOf', WHERE WHAT IT READS IS OF BULK AT MOST 1048576: true; the input reads as it did. -/
def fnExactCodesOfUptoRow : OpenClaim := { program := "ytbiamhmjcnmjgaa", sum := "fdffaaed4e595b4dcb505ed4d4112432e602f953a8469a26c09041d2fa848217", func := "loop.example/g00139/laws.FnExactCodesOf", spec := "fnExactCodesOf", apart := false, narrowed := true }
def FnExactCodesOfUptoSaid : Prop := fnExactCodesOfUptoRow.holds Try.pinned (OpenSpec.upto fnExactCodesOfSpec)

/-- 'laws.FnZig', WHERE WHAT IT READS IS OF BULK AT MOST 1048576: true; the input reads as it did. -/
def fnZigUptoRow : OpenClaim := { program := "ytbiamhmjcnmjgaa", sum := "fdffaaed4e595b4dcb505ed4d4112432e602f953a8469a26c09041d2fa848217", func := "loop.example/g00139/laws.FnZig", spec := "fnZig", apart := false, narrowed := true }
def FnZigUptoSaid : Prop := fnZigUptoRow.holds Try.pinned (OpenSpec.upto fnZigSpec)

end Rows
end Go.Proofs.Ytbiamhmjcnmjgaa
