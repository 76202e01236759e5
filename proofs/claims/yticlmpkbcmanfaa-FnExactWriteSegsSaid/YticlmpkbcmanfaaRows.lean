/-
  No cell of these rows narrows 'for every input' (looked for: loops, veiled, ifaces, maps, wideKeys, modest, calm, conditions, laid).
  DERIVED. THE GIVEN ROWS OF THIS SEAT. 9 by the template 'for every input the law returns true; each argument reads behind the call as it read before'; 0 by the template 'total and deterministic' (their statements: YticlmpkbcmanfaaTotals.lean).
  GIVEN WITH THE SEED: the statements are not yours to turn. If you find one false, say at which input.
  Laid BY PROGRAM, IN A SANDBOX (cutbox-rows.mjs): the forced cells as the released guide's own fill.sh prints them over the translation 47f061870df284d0… (all of the seat's roots in one cut). By AI agents, Wed Nov 11 2026. No macro, syntax, notation, axiom, sorry.
-/
import Derived.Test.YticlmpkbcmanfaaChecked
import GoSem.Claim
import GoSem.ClaimJoined
import GoSem.ClaimMapViews
import Derived.JoinedTies
import Derived.KernelRfl
namespace Go.Proofs.Yticlmpkbcmanfaa
/- THE CELL 'sum', in the pinned program and in every row, IS THE sha256 OF THE DUMP (.gsa) THAT YticlmpkbcmanfaaProg.lean LOADS. Nothing in Lean hashes anything: it is a label: what it is worth is what the hold of that sum in a sandbox is worth. -/
noncomputable def Try.pinned : Pinned := { name := "yticlmpkbcmanfaa", sum := "47f061870df284d07d347077501d8fd638f9b55c67534eb3b69e05bc224889f6", checked := Try.checked }
namespace Rows
def none {H : Type} : Left H := { results := [], args := [] }

/-- 'laws.FnExactPackBits': WHATEVER THE INPUT: true; the input reads as it did. -/
def fnExactPackBitsSpec : ChangeSpec := { name := "fnExactPackBits", fn := fun _ => fun
  | [d] => { results := [.lit (.bool true)], args := [d] }
  | _ => none }
def fnExactPackBitsRow : OpenClaim := { program := "yticlmpkbcmanfaa", sum := "47f061870df284d07d347077501d8fd638f9b55c67534eb3b69e05bc224889f6", func := "loop.example/g00139/laws.FnExactPackBits", spec := "fnExactPackBits", unfollowed := true, recurses := true, apart := false }
def FnExactPackBitsSaid : Prop := fnExactPackBitsRow.holds Try.pinned (OpenSpec.ofChange fnExactPackBitsSpec)

/-- ITS FALSE NEIGHBOUR: 'it returns false'. Refute it at one input. -/
def fnExactPackBitsWrong : ChangeSpec := { name := "fnExactPackBits", fn := fun _ => fun
  | [d] => { results := [.lit (.bool false)], args := [d] }
  | _ => none }
def FnExactPackBitsWrongFalsely : Prop := fnExactPackBitsRow.holds Try.pinned (OpenSpec.ofChange fnExactPackBitsWrong)

/-- 'laws.FnExactForward': WHATEVER THE INPUT: true; the input reads as it did. -/
def fnExactForwardSpec : ChangeSpec := { name := "fnExactForward", fn := fun _ => fun
  | [d] => { results := [.lit (.bool true)], args := [d] }
  | _ => none }
def fnExactForwardRow : OpenClaim := { program := "yticlmpkbcmanfaa", sum := "47f061870df284d07d347077501d8fd638f9b55c67534eb3b69e05bc224889f6", func := "loop.example/g00139/laws.FnExactForward", spec := "fnExactForward", unfollowed := true, recurses := true, apart := false }
def FnExactForwardSaid : Prop := fnExactForwardRow.holds Try.pinned (OpenSpec.ofChange fnExactForwardSpec)

/-- ITS FALSE NEIGHBOUR: 'it returns false'. Refute it at one input. -/
def fnExactForwardWrong : ChangeSpec := { name := "fnExactForward", fn := fun _ => fun
  | [d] => { results := [.lit (.bool false)], args := [d] }
  | _ => none }
def FnExactForwardWrongFalsely : Prop := fnExactForwardRow.holds Try.pinned (OpenSpec.ofChange fnExactForwardWrong)

/-- 'laws.FnExactInverse': WHATEVER THE INPUT: true; the input reads as it did. -/
def fnExactInverseSpec : ChangeSpec := { name := "fnExactInverse", fn := fun _ => fun
  | [d] => { results := [.lit (.bool true)], args := [d] }
  | _ => none }
def fnExactInverseRow : OpenClaim := { program := "yticlmpkbcmanfaa", sum := "47f061870df284d07d347077501d8fd638f9b55c67534eb3b69e05bc224889f6", func := "loop.example/g00139/laws.FnExactInverse", spec := "fnExactInverse", unfollowed := true, recurses := true, apart := false }
def FnExactInverseSaid : Prop := fnExactInverseRow.holds Try.pinned (OpenSpec.ofChange fnExactInverseSpec)

/-- ITS FALSE NEIGHBOUR: 'it returns false'. Refute it at one input. -/
def fnExactInverseWrong : ChangeSpec := { name := "fnExactInverse", fn := fun _ => fun
  | [d] => { results := [.lit (.bool false)], args := [d] }
  | _ => none }
def FnExactInverseWrongFalsely : Prop := fnExactInverseRow.holds Try.pinned (OpenSpec.ofChange fnExactInverseWrong)

/-- 'laws.FnWavesBack': WHATEVER THE INPUT: true; the input reads as it did. -/
def fnWavesBackSpec : ChangeSpec := { name := "fnWavesBack", fn := fun _ => fun
  | [d] => { results := [.lit (.bool true)], args := [d] }
  | _ => none }
def fnWavesBackRow : OpenClaim := { program := "yticlmpkbcmanfaa", sum := "47f061870df284d07d347077501d8fd638f9b55c67534eb3b69e05bc224889f6", func := "loop.example/g00139/laws.FnWavesBack", spec := "fnWavesBack", unfollowed := true, recurses := true, apart := false }
def FnWavesBackSaid : Prop := fnWavesBackRow.holds Try.pinned (OpenSpec.ofChange fnWavesBackSpec)

/-- ITS FALSE NEIGHBOUR: 'it returns false'. Refute it at one input. -/
def fnWavesBackWrong : ChangeSpec := { name := "fnWavesBack", fn := fun _ => fun
  | [d] => { results := [.lit (.bool false)], args := [d] }
  | _ => none }
def FnWavesBackWrongFalsely : Prop := fnWavesBackRow.holds Try.pinned (OpenSpec.ofChange fnWavesBackWrong)

/-- 'laws.FnExactRunsOf': WHATEVER THE INPUT: true; the input reads as it did. -/
def fnExactRunsOfSpec : ChangeSpec := { name := "fnExactRunsOf", fn := fun _ => fun
  | [d] => { results := [.lit (.bool true)], args := [d] }
  | _ => none }
def fnExactRunsOfRow : OpenClaim := { program := "yticlmpkbcmanfaa", sum := "47f061870df284d07d347077501d8fd638f9b55c67534eb3b69e05bc224889f6", func := "loop.example/g00139/laws.FnExactRunsOf", spec := "fnExactRunsOf", apart := false }
def FnExactRunsOfSaid : Prop := fnExactRunsOfRow.holds Try.pinned (OpenSpec.ofChange fnExactRunsOfSpec)

/-- ITS FALSE NEIGHBOUR: 'it returns false'. Refute it at one input. -/
def fnExactRunsOfWrong : ChangeSpec := { name := "fnExactRunsOf", fn := fun _ => fun
  | [d] => { results := [.lit (.bool false)], args := [d] }
  | _ => none }
def FnExactRunsOfWrongFalsely : Prop := fnExactRunsOfRow.holds Try.pinned (OpenSpec.ofChange fnExactRunsOfWrong)

/-- 'laws.FnExactFromRuns': WHATEVER THE INPUT: true; the input reads as it did. -/
def fnExactFromRunsSpec : ChangeSpec := { name := "fnExactFromRuns", fn := fun _ => fun
  | [d1, d2] => { results := [.lit (.bool true)], args := [d1, d2] }
  | _ => none }
def fnExactFromRunsRow : OpenClaim := { program := "yticlmpkbcmanfaa", sum := "47f061870df284d07d347077501d8fd638f9b55c67534eb3b69e05bc224889f6", func := "loop.example/g00139/laws.FnExactFromRuns", spec := "fnExactFromRuns", apart := false }
def FnExactFromRunsSaid : Prop := fnExactFromRunsRow.holds Try.pinned (OpenSpec.ofChange fnExactFromRunsSpec)

/-- ITS FALSE NEIGHBOUR: 'it returns false'. Refute it at one input. -/
def fnExactFromRunsWrong : ChangeSpec := { name := "fnExactFromRuns", fn := fun _ => fun
  | [d1, d2] => { results := [.lit (.bool false)], args := [d1, d2] }
  | _ => none }
def FnExactFromRunsWrongFalsely : Prop := fnExactFromRunsRow.holds Try.pinned (OpenSpec.ofChange fnExactFromRunsWrong)

/-- 'laws.FnRunsBack': WHATEVER THE INPUT: true; the input reads as it did. -/
def fnRunsBackSpec : ChangeSpec := { name := "fnRunsBack", fn := fun _ => fun
  | [d1, d2] => { results := [.lit (.bool true)], args := [d1, d2] }
  | _ => none }
def fnRunsBackRow : OpenClaim := { program := "yticlmpkbcmanfaa", sum := "47f061870df284d07d347077501d8fd638f9b55c67534eb3b69e05bc224889f6", func := "loop.example/g00139/laws.FnRunsBack", spec := "fnRunsBack", apart := false }
def FnRunsBackSaid : Prop := fnRunsBackRow.holds Try.pinned (OpenSpec.ofChange fnRunsBackSpec)

/-- ITS FALSE NEIGHBOUR: 'it returns false'. Refute it at one input. -/
def fnRunsBackWrong : ChangeSpec := { name := "fnRunsBack", fn := fun _ => fun
  | [d1, d2] => { results := [.lit (.bool false)], args := [d1, d2] }
  | _ => none }
def FnRunsBackWrongFalsely : Prop := fnRunsBackRow.holds Try.pinned (OpenSpec.ofChange fnRunsBackWrong)

/-- 'laws.FnQuantized': WHATEVER THE INPUT: true; the input reads as it did. -/
def fnQuantizedSpec : ChangeSpec := { name := "fnQuantized", fn := fun _ => fun
  | [d] => { results := [.lit (.bool true)], args := [d] }
  | _ => none }
def fnQuantizedRow : OpenClaim := { program := "yticlmpkbcmanfaa", sum := "47f061870df284d07d347077501d8fd638f9b55c67534eb3b69e05bc224889f6", func := "loop.example/g00139/laws.FnQuantized", spec := "fnQuantized", apart := false }
def FnQuantizedSaid : Prop := fnQuantizedRow.holds Try.pinned (OpenSpec.ofChange fnQuantizedSpec)

/-- ITS FALSE NEIGHBOUR: 'it returns false'. Refute it at one input. -/
def fnQuantizedWrong : ChangeSpec := { name := "fnQuantized", fn := fun _ => fun
  | [d] => { results := [.lit (.bool false)], args := [d] }
  | _ => none }
def FnQuantizedWrongFalsely : Prop := fnQuantizedRow.holds Try.pinned (OpenSpec.ofChange fnQuantizedWrong)

/-- 'laws.FnExactWriteSegs': WHATEVER THE INPUT: true; the input reads as it did. -/
def fnExactWriteSegsSpec : ChangeSpec := { name := "fnExactWriteSegs", fn := fun _ => fun
  | [d] => { results := [.lit (.bool true)], args := [d] }
  | _ => none }
def fnExactWriteSegsRow : OpenClaim := { program := "yticlmpkbcmanfaa", sum := "47f061870df284d07d347077501d8fd638f9b55c67534eb3b69e05bc224889f6", func := "loop.example/g00139/laws.FnExactWriteSegs", spec := "fnExactWriteSegs", apart := false }
def FnExactWriteSegsSaid : Prop := fnExactWriteSegsRow.holds Try.pinned (OpenSpec.ofChange fnExactWriteSegsSpec)

/-- ITS FALSE NEIGHBOUR: 'it returns false'. Refute it at one input. -/
def fnExactWriteSegsWrong : ChangeSpec := { name := "fnExactWriteSegs", fn := fun _ => fun
  | [d] => { results := [.lit (.bool false)], args := [d] }
  | _ => none }
def FnExactWriteSegsWrongFalsely : Prop := fnExactWriteSegsRow.holds Try.pinned (OpenSpec.ofChange fnExactWriteSegsWrong)

/- THE SECOND FORM. 'bulk': how many values and letters a reading holds, each counted each time it is reached (what is shared counts as often as it is met; a slice's spare places count too). A statement '..UptoSaid' is the law's where the arguments, and the package variables that the reading takes, are together of bulk at most 1048576: NARROWER than '..Said'. Prove '..Said' where nothing that the law and all that it calls make is longer than what came in: it says more and counts as full. Else prove '..UptoSaid'. A law counts once. -/
mutual
def uptoBulk {H : Type} : DataW H → Nat
  | .lit (.string bytes) => bytes.length + 1
  | .lit _ => 1
  | .nil => 1
  | .ptr d => uptoBulk d + 1
  | .slice elems spare => uptoBulkAll elems + uptoBulkAll spare + 1
  | .agg parts => uptoBulkAll parts + 1
  | .iface _ d => uptoBulk d + 1
  | .map entries => uptoBulkEntries entries + 1
  | .held _ => 1
def uptoBulkAll {H : Type} : List (DataW H) → Nat
  | [] => 0
  | d :: r => uptoBulk d + uptoBulkAll r
def uptoBulkEntries {H : Type} : List (Lit × DataW H) → Nat
  | [] => 0
  | x :: r => uptoBulkEntry x + uptoBulkEntries r
def uptoBulkEntry {H : Type} : Lit × DataW H → Nat
  | (.string bytes, d) => bytes.length + uptoBulk d + 1
  | (_, d) => uptoBulk d + 1
 end
def uptoSmall : (H : Type) → List (DataW H) → Bool := fun _ ds => decide (uptoBulkAll ds ≤ 1048576)
def OpenSpec.upto (s : _root_.Go.ChangeSpec) : _root_.Go.OpenSpec := { _root_.Go.OpenSpec.ofChange s with cond := some uptoSmall }

/-- 'laws.FnExactPackBits', WHERE WHAT IT READS IS OF BULK AT MOST 1048576: true; the input reads as it did. -/
def fnExactPackBitsUptoRow : OpenClaim := { program := "yticlmpkbcmanfaa", sum := "47f061870df284d07d347077501d8fd638f9b55c67534eb3b69e05bc224889f6", func := "loop.example/g00139/laws.FnExactPackBits", spec := "fnExactPackBits", unfollowed := true, recurses := true, apart := false, narrowed := true }
def FnExactPackBitsUptoSaid : Prop := fnExactPackBitsUptoRow.holds Try.pinned (OpenSpec.upto fnExactPackBitsSpec)

/-- 'laws.FnExactForward', WHERE WHAT IT READS IS OF BULK AT MOST 1048576: true; the input reads as it did. -/
def fnExactForwardUptoRow : OpenClaim := { program := "yticlmpkbcmanfaa", sum := "47f061870df284d07d347077501d8fd638f9b55c67534eb3b69e05bc224889f6", func := "loop.example/g00139/laws.FnExactForward", spec := "fnExactForward", unfollowed := true, recurses := true, apart := false, narrowed := true }
def FnExactForwardUptoSaid : Prop := fnExactForwardUptoRow.holds Try.pinned (OpenSpec.upto fnExactForwardSpec)

/-- 'laws.FnExactInverse', WHERE WHAT IT READS IS OF BULK AT MOST 1048576: true; the input reads as it did. -/
def fnExactInverseUptoRow : OpenClaim := { program := "yticlmpkbcmanfaa", sum := "47f061870df284d07d347077501d8fd638f9b55c67534eb3b69e05bc224889f6", func := "loop.example/g00139/laws.FnExactInverse", spec := "fnExactInverse", unfollowed := true, recurses := true, apart := false, narrowed := true }
def FnExactInverseUptoSaid : Prop := fnExactInverseUptoRow.holds Try.pinned (OpenSpec.upto fnExactInverseSpec)

/-- 'laws.FnWavesBack', WHERE WHAT IT READS IS OF BULK AT MOST 1048576: true; the input reads as it did. -/
def fnWavesBackUptoRow : OpenClaim := { program := "yticlmpkbcmanfaa", sum := "47f061870df284d07d347077501d8fd638f9b55c67534eb3b69e05bc224889f6", func := "loop.example/g00139/laws.FnWavesBack", spec := "fnWavesBack", unfollowed := true, recurses := true, apart := false, narrowed := true }
def FnWavesBackUptoSaid : Prop := fnWavesBackUptoRow.holds Try.pinned (OpenSpec.upto fnWavesBackSpec)

/-- 'laws.FnExactRunsOf', WHERE WHAT IT READS IS OF BULK AT MOST 1048576: true; the input reads as it did. -/
def fnExactRunsOfUptoRow : OpenClaim := { program := "yticlmpkbcmanfaa", sum := "47f061870df284d07d347077501d8fd638f9b55c67534eb3b69e05bc224889f6", func := "loop.example/g00139/laws.FnExactRunsOf", spec := "fnExactRunsOf", apart := false, narrowed := true }
def FnExactRunsOfUptoSaid : Prop := fnExactRunsOfUptoRow.holds Try.pinned (OpenSpec.upto fnExactRunsOfSpec)

/-- 'laws.FnExactFromRuns', WHERE WHAT IT READS IS OF BULK AT MOST 1048576: true; the input reads as it did. -/
def fnExactFromRunsUptoRow : OpenClaim := { program := "yticlmpkbcmanfaa", sum := "47f061870df284d07d347077501d8fd638f9b55c67534eb3b69e05bc224889f6", func := "loop.example/g00139/laws.FnExactFromRuns", spec := "fnExactFromRuns", apart := false, narrowed := true }
def FnExactFromRunsUptoSaid : Prop := fnExactFromRunsUptoRow.holds Try.pinned (OpenSpec.upto fnExactFromRunsSpec)

/-- 'laws.FnRunsBack', WHERE WHAT IT READS IS OF BULK AT MOST 1048576: true; the input reads as it did. -/
def fnRunsBackUptoRow : OpenClaim := { program := "yticlmpkbcmanfaa", sum := "47f061870df284d07d347077501d8fd638f9b55c67534eb3b69e05bc224889f6", func := "loop.example/g00139/laws.FnRunsBack", spec := "fnRunsBack", apart := false, narrowed := true }
def FnRunsBackUptoSaid : Prop := fnRunsBackUptoRow.holds Try.pinned (OpenSpec.upto fnRunsBackSpec)

/-- 'laws.FnQuantized', WHERE WHAT IT READS IS OF BULK AT MOST 1048576: true; the input reads as it did. -/
def fnQuantizedUptoRow : OpenClaim := { program := "yticlmpkbcmanfaa", sum := "47f061870df284d07d347077501d8fd638f9b55c67534eb3b69e05bc224889f6", func := "loop.example/g00139/laws.FnQuantized", spec := "fnQuantized", apart := false, narrowed := true }
def FnQuantizedUptoSaid : Prop := fnQuantizedUptoRow.holds Try.pinned (OpenSpec.upto fnQuantizedSpec)

/-- 'laws.FnExactWriteSegs', WHERE WHAT IT READS IS OF BULK AT MOST 1048576: true; the input reads as it did. -/
def fnExactWriteSegsUptoRow : OpenClaim := { program := "yticlmpkbcmanfaa", sum := "47f061870df284d07d347077501d8fd638f9b55c67534eb3b69e05bc224889f6", func := "loop.example/g00139/laws.FnExactWriteSegs", spec := "fnExactWriteSegs", apart := false, narrowed := true }
def FnExactWriteSegsUptoSaid : Prop := fnExactWriteSegsUptoRow.holds Try.pinned (OpenSpec.upto fnExactWriteSegsSpec)

end Rows
end Go.Proofs.Yticlmpkbcmanfaa
