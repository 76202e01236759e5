/-
  No cell of these rows narrows 'for every input' (looked for: loops, veiled, ifaces, maps, wideKeys, modest, calm, conditions, laid).
  DERIVED. THE GIVEN ROWS OF THIS SEAT. 12 by the template 'for every input the law returns true; each argument reads behind the call as it read before'; 0 by the template 'total and deterministic' (their statements: YtjogepmenphaeaaTotals.lean).
  GIVEN WITH THE SEED: the statements are not yours to turn. If you find one false, say at which input.
  Laid BY PROGRAM, IN A SANDBOX (cutbox-rows.mjs): the forced cells as the released guide's own fill.sh prints them over the translation db1e86f2bc71c9ba… (all of the seat's roots in one cut). By AI agents, Wed Nov 11 2026. No macro, syntax, notation, axiom, sorry.
-/
import Derived.Test.YtjogepmenphaeaaChecked
import GoSem.Claim
import GoSem.ClaimJoined
import GoSem.ClaimMapViews
import Derived.JoinedTies
import Derived.KernelRfl
namespace Go.Proofs.Ytjogepmenphaeaa
/- THE CELL 'sum', in the pinned program and in every row, IS THE sha256 OF THE DUMP (.gsa) THAT YtjogepmenphaeaaProg.lean LOADS. Nothing in Lean hashes anything: it is a label: what it is worth is what the hold of that sum in a sandbox is worth. -/
noncomputable def Try.pinned : Pinned := { name := "ytjogepmenphaeaa", sum := "db1e86f2bc71c9ba6e5cb7d1ee8e0bc2e12d95e3be1b2c4a5f8cb6d264098268", checked := Try.checked }
namespace Rows
def none {H : Type} : Left H := { results := [], args := [] }

/-- 'laws.FnExactConstants': WHATEVER THE INPUT: true; the input reads as it did. -/
def fnExactConstantsSpec : ChangeSpec := { name := "fnExactConstants", fn := fun _ => fun
  | [] => { results := [.lit (.bool true)], args := [] }
  | _ => none }
def fnExactConstantsRow : OpenClaim := { program := "ytjogepmenphaeaa", sum := "db1e86f2bc71c9ba6e5cb7d1ee8e0bc2e12d95e3be1b2c4a5f8cb6d264098268", func := "loop.example/g00139/laws.FnExactConstants", spec := "fnExactConstants", apart := false }
def FnExactConstantsSaid : Prop := fnExactConstantsRow.holds Try.pinned (OpenSpec.ofChange fnExactConstantsSpec)

/-- ITS FALSE NEIGHBOUR: 'it returns false'. Refute it at one input. -/
def fnExactConstantsWrong : ChangeSpec := { name := "fnExactConstants", fn := fun _ => fun
  | [] => { results := [.lit (.bool false)], args := [] }
  | _ => none }
def FnExactConstantsWrongFalsely : Prop := fnExactConstantsRow.holds Try.pinned (OpenSpec.ofChange fnExactConstantsWrong)

/-- 'laws.FnExactNumOf': WHATEVER THE INPUT: true; the input reads as it did. -/
def fnExactNumOfSpec : ChangeSpec := { name := "fnExactNumOf", fn := fun _ => fun
  | [d1, d2] => { results := [.lit (.bool true)], args := [d1, d2] }
  | _ => none }
def fnExactNumOfRow : OpenClaim := { program := "ytjogepmenphaeaa", sum := "db1e86f2bc71c9ba6e5cb7d1ee8e0bc2e12d95e3be1b2c4a5f8cb6d264098268", func := "loop.example/g00139/laws.FnExactNumOf", spec := "fnExactNumOf", apart := false }
def FnExactNumOfSaid : Prop := fnExactNumOfRow.holds Try.pinned (OpenSpec.ofChange fnExactNumOfSpec)

/-- ITS FALSE NEIGHBOUR: 'it returns false'. Refute it at one input. -/
def fnExactNumOfWrong : ChangeSpec := { name := "fnExactNumOf", fn := fun _ => fun
  | [d1, d2] => { results := [.lit (.bool false)], args := [d1, d2] }
  | _ => none }
def FnExactNumOfWrongFalsely : Prop := fnExactNumOfRow.holds Try.pinned (OpenSpec.ofChange fnExactNumOfWrong)

/-- 'laws.FnExactBlockOk': WHATEVER THE INPUT: true; the input reads as it did. -/
def fnExactBlockOkSpec : ChangeSpec := { name := "fnExactBlockOk", fn := fun _ => fun
  | [d] => { results := [.lit (.bool true)], args := [d] }
  | _ => none }
def fnExactBlockOkRow : OpenClaim := { program := "ytjogepmenphaeaa", sum := "db1e86f2bc71c9ba6e5cb7d1ee8e0bc2e12d95e3be1b2c4a5f8cb6d264098268", func := "loop.example/g00139/laws.FnExactBlockOk", spec := "fnExactBlockOk", apart := false }
def FnExactBlockOkSaid : Prop := fnExactBlockOkRow.holds Try.pinned (OpenSpec.ofChange fnExactBlockOkSpec)

/-- ITS FALSE NEIGHBOUR: 'it returns false'. Refute it at one input. -/
def fnExactBlockOkWrong : ChangeSpec := { name := "fnExactBlockOk", fn := fun _ => fun
  | [d] => { results := [.lit (.bool false)], args := [d] }
  | _ => none }
def FnExactBlockOkWrongFalsely : Prop := fnExactBlockOkRow.holds Try.pinned (OpenSpec.ofChange fnExactBlockOkWrong)

/-- 'laws.FnExactTableOk': WHATEVER THE INPUT: true; the input reads as it did. -/
def fnExactTableOkSpec : ChangeSpec := { name := "fnExactTableOk", fn := fun _ => fun
  | [d] => { results := [.lit (.bool true)], args := [d] }
  | _ => none }
def fnExactTableOkRow : OpenClaim := { program := "ytjogepmenphaeaa", sum := "db1e86f2bc71c9ba6e5cb7d1ee8e0bc2e12d95e3be1b2c4a5f8cb6d264098268", func := "loop.example/g00139/laws.FnExactTableOk", spec := "fnExactTableOk", apart := false }
def FnExactTableOkSaid : Prop := fnExactTableOkRow.holds Try.pinned (OpenSpec.ofChange fnExactTableOkSpec)

/-- ITS FALSE NEIGHBOUR: 'it returns false'. Refute it at one input. -/
def fnExactTableOkWrong : ChangeSpec := { name := "fnExactTableOk", fn := fun _ => fun
  | [d] => { results := [.lit (.bool false)], args := [d] }
  | _ => none }
def FnExactTableOkWrongFalsely : Prop := fnExactTableOkRow.holds Try.pinned (OpenSpec.ofChange fnExactTableOkWrong)

/-- 'laws.FnExactSamplesOk': WHATEVER THE INPUT: true; the input reads as it did. -/
def fnExactSamplesOkSpec : ChangeSpec := { name := "fnExactSamplesOk", fn := fun _ => fun
  | [d] => { results := [.lit (.bool true)], args := [d] }
  | _ => none }
def fnExactSamplesOkRow : OpenClaim := { program := "ytjogepmenphaeaa", sum := "db1e86f2bc71c9ba6e5cb7d1ee8e0bc2e12d95e3be1b2c4a5f8cb6d264098268", func := "loop.example/g00139/laws.FnExactSamplesOk", spec := "fnExactSamplesOk", apart := false }
def FnExactSamplesOkSaid : Prop := fnExactSamplesOkRow.holds Try.pinned (OpenSpec.ofChange fnExactSamplesOkSpec)

/-- ITS FALSE NEIGHBOUR: 'it returns false'. Refute it at one input. -/
def fnExactSamplesOkWrong : ChangeSpec := { name := "fnExactSamplesOk", fn := fun _ => fun
  | [d] => { results := [.lit (.bool false)], args := [d] }
  | _ => none }
def FnExactSamplesOkWrongFalsely : Prop := fnExactSamplesOkRow.holds Try.pinned (OpenSpec.ofChange fnExactSamplesOkWrong)

/-- 'laws.FnExactPlain': WHATEVER THE INPUT: true; the input reads as it did. -/
def fnExactPlainSpec : ChangeSpec := { name := "fnExactPlain", fn := fun _ => fun
  | [d] => { results := [.lit (.bool true)], args := [d] }
  | _ => none }
def fnExactPlainRow : OpenClaim := { program := "ytjogepmenphaeaa", sum := "db1e86f2bc71c9ba6e5cb7d1ee8e0bc2e12d95e3be1b2c4a5f8cb6d264098268", func := "loop.example/g00139/laws.FnExactPlain", spec := "fnExactPlain", apart := false }
def FnExactPlainSaid : Prop := fnExactPlainRow.holds Try.pinned (OpenSpec.ofChange fnExactPlainSpec)

/-- ITS FALSE NEIGHBOUR: 'it returns false'. Refute it at one input. -/
def fnExactPlainWrong : ChangeSpec := { name := "fnExactPlain", fn := fun _ => fun
  | [d] => { results := [.lit (.bool false)], args := [d] }
  | _ => none }
def FnExactPlainWrongFalsely : Prop := fnExactPlainRow.holds Try.pinned (OpenSpec.ofChange fnExactPlainWrong)

/-- 'laws.FnExactLensOk': WHATEVER THE INPUT: true; the input reads as it did. -/
def fnExactLensOkSpec : ChangeSpec := { name := "fnExactLensOk", fn := fun _ => fun
  | [d] => { results := [.lit (.bool true)], args := [d] }
  | _ => none }
def fnExactLensOkRow : OpenClaim := { program := "ytjogepmenphaeaa", sum := "db1e86f2bc71c9ba6e5cb7d1ee8e0bc2e12d95e3be1b2c4a5f8cb6d264098268", func := "loop.example/g00139/laws.FnExactLensOk", spec := "fnExactLensOk", apart := false }
def FnExactLensOkSaid : Prop := fnExactLensOkRow.holds Try.pinned (OpenSpec.ofChange fnExactLensOkSpec)

/-- ITS FALSE NEIGHBOUR: 'it returns false'. Refute it at one input. -/
def fnExactLensOkWrong : ChangeSpec := { name := "fnExactLensOk", fn := fun _ => fun
  | [d] => { results := [.lit (.bool false)], args := [d] }
  | _ => none }
def FnExactLensOkWrongFalsely : Prop := fnExactLensOkRow.holds Try.pinned (OpenSpec.ofChange fnExactLensOkWrong)

/-- 'laws.FnExactClassOf': WHATEVER THE INPUT: true; the input reads as it did. -/
def fnExactClassOfSpec : ChangeSpec := { name := "fnExactClassOf", fn := fun _ => fun
  | [d] => { results := [.lit (.bool true)], args := [d] }
  | _ => none }
def fnExactClassOfRow : OpenClaim := { program := "ytjogepmenphaeaa", sum := "db1e86f2bc71c9ba6e5cb7d1ee8e0bc2e12d95e3be1b2c4a5f8cb6d264098268", func := "loop.example/g00139/laws.FnExactClassOf", spec := "fnExactClassOf", apart := false }
def FnExactClassOfSaid : Prop := fnExactClassOfRow.holds Try.pinned (OpenSpec.ofChange fnExactClassOfSpec)

/-- ITS FALSE NEIGHBOUR: 'it returns false'. Refute it at one input. -/
def fnExactClassOfWrong : ChangeSpec := { name := "fnExactClassOf", fn := fun _ => fun
  | [d] => { results := [.lit (.bool false)], args := [d] }
  | _ => none }
def FnExactClassOfWrongFalsely : Prop := fnExactClassOfRow.holds Try.pinned (OpenSpec.ofChange fnExactClassOfWrong)

/-- 'laws.FnExactZigZag': WHATEVER THE INPUT: true; the input reads as it did. -/
def fnExactZigZagSpec : ChangeSpec := { name := "fnExactZigZag", fn := fun _ => fun
  | [] => { results := [.lit (.bool true)], args := [] }
  | _ => none }
def fnExactZigZagRow : OpenClaim := { program := "ytjogepmenphaeaa", sum := "db1e86f2bc71c9ba6e5cb7d1ee8e0bc2e12d95e3be1b2c4a5f8cb6d264098268", func := "loop.example/g00139/laws.FnExactZigZag", spec := "fnExactZigZag", apart := false }
def FnExactZigZagSaid : Prop := fnExactZigZagRow.holds Try.pinned (OpenSpec.ofChange fnExactZigZagSpec)

/-- ITS FALSE NEIGHBOUR: 'it returns false'. Refute it at one input. -/
def fnExactZigZagWrong : ChangeSpec := { name := "fnExactZigZag", fn := fun _ => fun
  | [] => { results := [.lit (.bool false)], args := [] }
  | _ => none }
def FnExactZigZagWrongFalsely : Prop := fnExactZigZagRow.holds Try.pinned (OpenSpec.ofChange fnExactZigZagWrong)

/-- 'laws.FnExactStuff': WHATEVER THE INPUT: true; the input reads as it did. -/
def fnExactStuffSpec : ChangeSpec := { name := "fnExactStuff", fn := fun _ => fun
  | [d] => { results := [.lit (.bool true)], args := [d] }
  | _ => none }
def fnExactStuffRow : OpenClaim := { program := "ytjogepmenphaeaa", sum := "db1e86f2bc71c9ba6e5cb7d1ee8e0bc2e12d95e3be1b2c4a5f8cb6d264098268", func := "loop.example/g00139/laws.FnExactStuff", spec := "fnExactStuff", apart := false }
def FnExactStuffSaid : Prop := fnExactStuffRow.holds Try.pinned (OpenSpec.ofChange fnExactStuffSpec)

/-- ITS FALSE NEIGHBOUR: 'it returns false'. Refute it at one input. -/
def fnExactStuffWrong : ChangeSpec := { name := "fnExactStuff", fn := fun _ => fun
  | [d] => { results := [.lit (.bool false)], args := [d] }
  | _ => none }
def FnExactStuffWrongFalsely : Prop := fnExactStuffRow.holds Try.pinned (OpenSpec.ofChange fnExactStuffWrong)

/-- 'laws.FnExactUnstuff': WHATEVER THE INPUT: true; the input reads as it did. -/
def fnExactUnstuffSpec : ChangeSpec := { name := "fnExactUnstuff", fn := fun _ => fun
  | [d] => { results := [.lit (.bool true)], args := [d] }
  | _ => none }
def fnExactUnstuffRow : OpenClaim := { program := "ytjogepmenphaeaa", sum := "db1e86f2bc71c9ba6e5cb7d1ee8e0bc2e12d95e3be1b2c4a5f8cb6d264098268", func := "loop.example/g00139/laws.FnExactUnstuff", spec := "fnExactUnstuff", apart := false }
def FnExactUnstuffSaid : Prop := fnExactUnstuffRow.holds Try.pinned (OpenSpec.ofChange fnExactUnstuffSpec)

/-- ITS FALSE NEIGHBOUR: 'it returns false'. Refute it at one input. -/
def fnExactUnstuffWrong : ChangeSpec := { name := "fnExactUnstuff", fn := fun _ => fun
  | [d] => { results := [.lit (.bool false)], args := [d] }
  | _ => none }
def FnExactUnstuffWrongFalsely : Prop := fnExactUnstuffRow.holds Try.pinned (OpenSpec.ofChange fnExactUnstuffWrong)

/-- 'laws.FnExactFieldsOk': WHATEVER THE INPUT: true; the input reads as it did. -/
def fnExactFieldsOkSpec : ChangeSpec := { name := "fnExactFieldsOk", fn := fun _ => fun
  | [d] => { results := [.lit (.bool true)], args := [d] }
  | _ => none }
def fnExactFieldsOkRow : OpenClaim := { program := "ytjogepmenphaeaa", sum := "db1e86f2bc71c9ba6e5cb7d1ee8e0bc2e12d95e3be1b2c4a5f8cb6d264098268", func := "loop.example/g00139/laws.FnExactFieldsOk", spec := "fnExactFieldsOk", apart := false }
def FnExactFieldsOkSaid : Prop := fnExactFieldsOkRow.holds Try.pinned (OpenSpec.ofChange fnExactFieldsOkSpec)

/-- ITS FALSE NEIGHBOUR: 'it returns false'. Refute it at one input. -/
def fnExactFieldsOkWrong : ChangeSpec := { name := "fnExactFieldsOk", fn := fun _ => fun
  | [d] => { results := [.lit (.bool false)], args := [d] }
  | _ => none }
def FnExactFieldsOkWrongFalsely : Prop := fnExactFieldsOkRow.holds Try.pinned (OpenSpec.ofChange fnExactFieldsOkWrong)

/- THE SECOND FORM. 'bulk': how many values and letters a reading holds, each counted each time it is reached (what is shared counts as often as it is met; a slice's spare places count too). A statement '..UptoSaid' is the law's where the arguments, and the package variables that the reading takes, are together of bulk at most 1048576: NARROWER than '..Said'. Prove '..Said' where nothing that the law and all that it calls make is longer than what came in: it says more and counts as full. Else prove '..UptoSaid'. A law counts once. -/
mutual
def uptoBulk {H : Type} : DataW H → Nat
  | .lit (.string bytes) => bytes.length + 1
  | .lit _ => 1
  | .nil => 1
  | .ptr d => uptoBulk d + 1
  | .slice elems spare => uptoBulkAll elems + uptoBulkAll spare + 1
  | .agg parts => uptoBulkAll parts + 1
  | .iface _ d => uptoBulk d + 1
  | .map entries => uptoBulkEntries entries + 1
  | .held _ => 1
def uptoBulkAll {H : Type} : List (DataW H) → Nat
  | [] => 0
  | d :: r => uptoBulk d + uptoBulkAll r
def uptoBulkEntries {H : Type} : List (Lit × DataW H) → Nat
  | [] => 0
  | x :: r => uptoBulkEntry x + uptoBulkEntries r
def uptoBulkEntry {H : Type} : Lit × DataW H → Nat
  | (.string bytes, d) => bytes.length + uptoBulk d + 1
  | (_, d) => uptoBulk d + 1
 end
def uptoSmall : (H : Type) → List (DataW H) → Bool := fun _ ds => decide (uptoBulkAll ds ≤ 1048576)
def OpenSpec.upto (s : _root_.Go.ChangeSpec) : _root_.Go.OpenSpec := { _root_.Go.OpenSpec.ofChange s with cond := some uptoSmall }

/-- 'laws.FnExactConstants', WHERE WHAT IT READS IS OF BULK AT MOST 1048576: true; the input reads as it did. -/
def fnExactConstantsUptoRow : OpenClaim := { program := "ytjogepmenphaeaa", sum := "db1e86f2bc71c9ba6e5cb7d1ee8e0bc2e12d95e3be1b2c4a5f8cb6d264098268", func := "loop.example/g00139/laws.FnExactConstants", spec := "fnExactConstants", apart := false, narrowed := true }
def FnExactConstantsUptoSaid : Prop := fnExactConstantsUptoRow.holds Try.pinned (OpenSpec.upto fnExactConstantsSpec)

/-- 'laws.FnExactNumOf', WHERE WHAT IT READS IS OF BULK AT MOST 1048576: true; the input reads as it did. -/
def fnExactNumOfUptoRow : OpenClaim := { program := "ytjogepmenphaeaa", sum := "db1e86f2bc71c9ba6e5cb7d1ee8e0bc2e12d95e3be1b2c4a5f8cb6d264098268", func := "loop.example/g00139/laws.FnExactNumOf", spec := "fnExactNumOf", apart := false, narrowed := true }
def FnExactNumOfUptoSaid : Prop := fnExactNumOfUptoRow.holds Try.pinned (OpenSpec.upto fnExactNumOfSpec)

/-- 'laws.FnExactBlockOk', WHERE WHAT IT READS IS OF BULK AT MOST 1048576: true; the input reads as it did. -/
def fnExactBlockOkUptoRow : OpenClaim := { program := "ytjogepmenphaeaa", sum := "db1e86f2bc71c9ba6e5cb7d1ee8e0bc2e12d95e3be1b2c4a5f8cb6d264098268", func := "loop.example/g00139/laws.FnExactBlockOk", spec := "fnExactBlockOk", apart := false, narrowed := true }
def FnExactBlockOkUptoSaid : Prop := fnExactBlockOkUptoRow.holds Try.pinned (OpenSpec.upto fnExactBlockOkSpec)

/-- 'laws.FnExactTableOk', WHERE WHAT IT READS IS OF BULK AT MOST 1048576: true; the input reads as it did. -/
def fnExactTableOkUptoRow : OpenClaim := { program := "ytjogepmenphaeaa", sum := "db1e86f2bc71c9ba6e5cb7d1ee8e0bc2e12d95e3be1b2c4a5f8cb6d264098268", func := "loop.example/g00139/laws.FnExactTableOk", spec := "fnExactTableOk", apart := false, narrowed := true }
def FnExactTableOkUptoSaid : Prop := fnExactTableOkUptoRow.holds Try.pinned (OpenSpec.upto fnExactTableOkSpec)

/-- 'laws.FnExactSamplesOk', WHERE WHAT IT READS IS OF BULK AT MOST 1048576: true; the input reads as it did. -/
def fnExactSamplesOkUptoRow : OpenClaim := { program := "ytjogepmenphaeaa", sum := "db1e86f2bc71c9ba6e5cb7d1ee8e0bc2e12d95e3be1b2c4a5f8cb6d264098268", func := "loop.example/g00139/laws.FnExactSamplesOk", spec := "fnExactSamplesOk", apart := false, narrowed := true }
def FnExactSamplesOkUptoSaid : Prop := fnExactSamplesOkUptoRow.holds Try.pinned (OpenSpec.upto fnExactSamplesOkSpec)

/-- 'laws.FnExactPlain', WHERE WHAT IT READS IS OF BULK AT MOST 1048576: true; the input reads as it did. -/
def fnExactPlainUptoRow : OpenClaim := { program := "ytjogepmenphaeaa", sum := "db1e86f2bc71c9ba6e5cb7d1ee8e0bc2e12d95e3be1b2c4a5f8cb6d264098268", func := "loop.example/g00139/laws.FnExactPlain", spec := "fnExactPlain", apart := false, narrowed := true }
def FnExactPlainUptoSaid : Prop := fnExactPlainUptoRow.holds Try.pinned (OpenSpec.upto fnExactPlainSpec)

/-- 'laws.FnExactLensOk', WHERE WHAT IT READS IS OF BULK AT MOST 1048576: true; the input reads as it did. -/
def fnExactLensOkUptoRow : OpenClaim := { program := "ytjogepmenphaeaa", sum := "db1e86f2bc71c9ba6e5cb7d1ee8e0bc2e12d95e3be1b2c4a5f8cb6d264098268", func := "loop.example/g00139/laws.FnExactLensOk", spec := "fnExactLensOk", apart := false, narrowed := true }
def FnExactLensOkUptoSaid : Prop := fnExactLensOkUptoRow.holds Try.pinned (OpenSpec.upto fnExactLensOkSpec)

/-- 'laws.FnExactClassOf', WHERE WHAT IT READS IS OF BULK AT MOST 1048576: true; the input reads as it did. -/
def fnExactClassOfUptoRow : OpenClaim := { program := "ytjogepmenphaeaa", sum := "db1e86f2bc71c9ba6e5cb7d1ee8e0bc2e12d95e3be1b2c4a5f8cb6d264098268", func := "loop.example/g00139/laws.FnExactClassOf", spec := "fnExactClassOf", apart := false, narrowed := true }
def FnExactClassOfUptoSaid : Prop := fnExactClassOfUptoRow.holds Try.pinned (OpenSpec.upto fnExactClassOfSpec)

/-- 'laws.FnExactZigZag', WHERE WHAT IT READS IS OF BULK AT MOST 1048576: true; the input reads as it did. -/
def fnExactZigZagUptoRow : OpenClaim := { program := "ytjogepmenphaeaa", sum := "db1e86f2bc71c9ba6e5cb7d1ee8e0bc2e12d95e3be1b2c4a5f8cb6d264098268", func := "loop.example/g00139/laws.FnExactZigZag", spec := "fnExactZigZag", apart := false, narrowed := true }
def FnExactZigZagUptoSaid : Prop := fnExactZigZagUptoRow.holds Try.pinned (OpenSpec.upto fnExactZigZagSpec)

/-- 'laws.FnExactStuff', WHERE WHAT IT READS IS OF BULK AT MOST 1048576: true; the input reads as it did. -/
def fnExactStuffUptoRow : OpenClaim := { program := "ytjogepmenphaeaa", sum := "db1e86f2bc71c9ba6e5cb7d1ee8e0bc2e12d95e3be1b2c4a5f8cb6d264098268", func := "loop.example/g00139/laws.FnExactStuff", spec := "fnExactStuff", apart := false, narrowed := true }
def FnExactStuffUptoSaid : Prop := fnExactStuffUptoRow.holds Try.pinned (OpenSpec.upto fnExactStuffSpec)

/-- 'laws.FnExactUnstuff', WHERE WHAT IT READS IS OF BULK AT MOST 1048576: true; the input reads as it did. -/
def fnExactUnstuffUptoRow : OpenClaim := { program := "ytjogepmenphaeaa", sum := "db1e86f2bc71c9ba6e5cb7d1ee8e0bc2e12d95e3be1b2c4a5f8cb6d264098268", func := "loop.example/g00139/laws.FnExactUnstuff", spec := "fnExactUnstuff", apart := false, narrowed := true }
def FnExactUnstuffUptoSaid : Prop := fnExactUnstuffUptoRow.holds Try.pinned (OpenSpec.upto fnExactUnstuffSpec)

/-- 'laws.FnExactFieldsOk', WHERE WHAT IT READS IS OF BULK AT MOST 1048576: true; the input reads as it did. -/
def fnExactFieldsOkUptoRow : OpenClaim := { program := "ytjogepmenphaeaa", sum := "db1e86f2bc71c9ba6e5cb7d1ee8e0bc2e12d95e3be1b2c4a5f8cb6d264098268", func := "loop.example/g00139/laws.FnExactFieldsOk", spec := "fnExactFieldsOk", apart := false, narrowed := true }
def FnExactFieldsOkUptoSaid : Prop := fnExactFieldsOkUptoRow.holds Try.pinned (OpenSpec.upto fnExactFieldsOkSpec)

end Rows
end Go.Proofs.Ytjogepmenphaeaa
