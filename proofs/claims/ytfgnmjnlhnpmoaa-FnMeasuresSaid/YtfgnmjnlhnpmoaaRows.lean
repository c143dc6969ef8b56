/-
  No cell of these rows narrows 'for every input' (looked for: loops, veiled, ifaces, maps, wideKeys, modest, calm, conditions, laid).
  DERIVED. THE GIVEN ROWS OF THIS SEAT. 12 by the template 'for every input the law returns true; each argument reads behind the call as it read before'; 0 by the template 'total and deterministic' (their statements: YtfgnmjnlhnpmoaaTotals.lean).
  GIVEN WITH THE SEED: the statements are not yours to turn. If you find one false, say at which input.
  Laid BY PROGRAM, IN A SANDBOX (cutbox-rows.mjs): the forced cells as the released guide's own fill.sh prints them over the translation 26d26a68601f3a3e… (all of the seat's roots in one cut). By AI agents, Wed Nov 11 2026. No macro, syntax, notation, axiom, sorry.
-/
import Derived.Test.YtfgnmjnlhnpmoaaChecked
import GoSem.Claim
import GoSem.ClaimJoined
import GoSem.ClaimMapViews
import Derived.JoinedTies
import Derived.KernelRfl
namespace Go.Proofs.Ytfgnmjnlhnpmoaa
/- THE CELL 'sum', in the pinned program and in every row, IS THE sha256 OF THE DUMP (.gsa) THAT YtfgnmjnlhnpmoaaProg.lean LOADS. Nothing in Lean hashes anything: it is a label: what it is worth is what the hold of that sum in a sandbox is worth. -/
noncomputable def Try.pinned : Pinned := { name := "ytfgnmjnlhnpmoaa", sum := "26d26a68601f3a3e3026b4e1192e48510be1223186965dbd2e2de7404a00aa2b", checked := Try.checked }
namespace Rows
def none {H : Type} : Left H := { results := [], args := [] }

/-- 'laws.FnExactKindOfAdd': WHATEVER THE INPUT: true; the input reads as it did. -/
def fnExactKindOfAddSpec : ChangeSpec := { name := "fnExactKindOfAdd", fn := fun _ => fun
  | [d1, d2] => { results := [.lit (.bool true)], args := [d1, d2] }
  | _ => none }
def fnExactKindOfAddRow : OpenClaim := { program := "ytfgnmjnlhnpmoaa", sum := "26d26a68601f3a3e3026b4e1192e48510be1223186965dbd2e2de7404a00aa2b", func := "loop.example/g01006/laws.FnExactKindOfAdd", spec := "fnExactKindOfAdd", apart := false }
def FnExactKindOfAddSaid : Prop := fnExactKindOfAddRow.holds Try.pinned (OpenSpec.ofChange fnExactKindOfAddSpec)

/-- ITS FALSE NEIGHBOUR: 'it returns false'. Refute it at one input. -/
def fnExactKindOfAddWrong : ChangeSpec := { name := "fnExactKindOfAdd", fn := fun _ => fun
  | [d1, d2] => { results := [.lit (.bool false)], args := [d1, d2] }
  | _ => none }
def FnExactKindOfAddWrongFalsely : Prop := fnExactKindOfAddRow.holds Try.pinned (OpenSpec.ofChange fnExactKindOfAddWrong)

/-- 'laws.FnExactIsSystem': WHATEVER THE INPUT: true; the input reads as it did. -/
def fnExactIsSystemSpec : ChangeSpec := { name := "fnExactIsSystem", fn := fun _ => fun
  | [d] => { results := [.lit (.bool true)], args := [d] }
  | _ => none }
def fnExactIsSystemRow : OpenClaim := { program := "ytfgnmjnlhnpmoaa", sum := "26d26a68601f3a3e3026b4e1192e48510be1223186965dbd2e2de7404a00aa2b", func := "loop.example/g01006/laws.FnExactIsSystem", spec := "fnExactIsSystem", apart := false }
def FnExactIsSystemSaid : Prop := fnExactIsSystemRow.holds Try.pinned (OpenSpec.ofChange fnExactIsSystemSpec)

/-- ITS FALSE NEIGHBOUR: 'it returns false'. Refute it at one input. -/
def fnExactIsSystemWrong : ChangeSpec := { name := "fnExactIsSystem", fn := fun _ => fun
  | [d] => { results := [.lit (.bool false)], args := [d] }
  | _ => none }
def FnExactIsSystemWrongFalsely : Prop := fnExactIsSystemRow.holds Try.pinned (OpenSpec.ofChange fnExactIsSystemWrong)

/-- 'laws.FnExactUnitsIn': WHATEVER THE INPUT: true; the input reads as it did. -/
def fnExactUnitsInSpec : ChangeSpec := { name := "fnExactUnitsIn", fn := fun _ => fun
  | [d1, d2] => { results := [.lit (.bool true)], args := [d1, d2] }
  | _ => none }
def fnExactUnitsInRow : OpenClaim := { program := "ytfgnmjnlhnpmoaa", sum := "26d26a68601f3a3e3026b4e1192e48510be1223186965dbd2e2de7404a00aa2b", func := "loop.example/g01006/laws.FnExactUnitsIn", spec := "fnExactUnitsIn", apart := false }
def FnExactUnitsInSaid : Prop := fnExactUnitsInRow.holds Try.pinned (OpenSpec.ofChange fnExactUnitsInSpec)

/-- ITS FALSE NEIGHBOUR: 'it returns false'. Refute it at one input. -/
def fnExactUnitsInWrong : ChangeSpec := { name := "fnExactUnitsIn", fn := fun _ => fun
  | [d1, d2] => { results := [.lit (.bool false)], args := [d1, d2] }
  | _ => none }
def FnExactUnitsInWrongFalsely : Prop := fnExactUnitsInRow.holds Try.pinned (OpenSpec.ofChange fnExactUnitsInWrong)

/-- 'laws.FnExactIsAmount': WHATEVER THE INPUT: true; the input reads as it did. -/
def fnExactIsAmountSpec : ChangeSpec := { name := "fnExactIsAmount", fn := fun _ => fun
  | [d1, d2] => { results := [.lit (.bool true)], args := [d1, d2] }
  | _ => none }
def fnExactIsAmountRow : OpenClaim := { program := "ytfgnmjnlhnpmoaa", sum := "26d26a68601f3a3e3026b4e1192e48510be1223186965dbd2e2de7404a00aa2b", func := "loop.example/g01006/laws.FnExactIsAmount", spec := "fnExactIsAmount", apart := false }
def FnExactIsAmountSaid : Prop := fnExactIsAmountRow.holds Try.pinned (OpenSpec.ofChange fnExactIsAmountSpec)

/-- ITS FALSE NEIGHBOUR: 'it returns false'. Refute it at one input. -/
def fnExactIsAmountWrong : ChangeSpec := { name := "fnExactIsAmount", fn := fun _ => fun
  | [d1, d2] => { results := [.lit (.bool false)], args := [d1, d2] }
  | _ => none }
def FnExactIsAmountWrongFalsely : Prop := fnExactIsAmountRow.holds Try.pinned (OpenSpec.ofChange fnExactIsAmountWrong)

/-- 'laws.FnExactValueIn': WHATEVER THE INPUT: true; the input reads as it did. -/
def fnExactValueInSpec : ChangeSpec := { name := "fnExactValueIn", fn := fun _ => fun
  | [d1, d2] => { results := [.lit (.bool true)], args := [d1, d2] }
  | _ => none }
def fnExactValueInRow : OpenClaim := { program := "ytfgnmjnlhnpmoaa", sum := "26d26a68601f3a3e3026b4e1192e48510be1223186965dbd2e2de7404a00aa2b", func := "loop.example/g01006/laws.FnExactValueIn", spec := "fnExactValueIn", apart := false }
def FnExactValueInSaid : Prop := fnExactValueInRow.holds Try.pinned (OpenSpec.ofChange fnExactValueInSpec)

/-- ITS FALSE NEIGHBOUR: 'it returns false'. Refute it at one input. -/
def fnExactValueInWrong : ChangeSpec := { name := "fnExactValueIn", fn := fun _ => fun
  | [d1, d2] => { results := [.lit (.bool false)], args := [d1, d2] }
  | _ => none }
def FnExactValueInWrongFalsely : Prop := fnExactValueInRow.holds Try.pinned (OpenSpec.ofChange fnExactValueInWrong)

/-- 'laws.FnExactProperOf': WHATEVER THE INPUT: true; the input reads as it did. -/
def fnExactProperOfSpec : ChangeSpec := { name := "fnExactProperOf", fn := fun _ => fun
  | [d1, d2] => { results := [.lit (.bool true)], args := [d1, d2] }
  | _ => none }
def fnExactProperOfRow : OpenClaim := { program := "ytfgnmjnlhnpmoaa", sum := "26d26a68601f3a3e3026b4e1192e48510be1223186965dbd2e2de7404a00aa2b", func := "loop.example/g01006/laws.FnExactProperOf", spec := "fnExactProperOf", apart := false }
def FnExactProperOfSaid : Prop := fnExactProperOfRow.holds Try.pinned (OpenSpec.ofChange fnExactProperOfSpec)

/-- ITS FALSE NEIGHBOUR: 'it returns false'. Refute it at one input. -/
def fnExactProperOfWrong : ChangeSpec := { name := "fnExactProperOf", fn := fun _ => fun
  | [d1, d2] => { results := [.lit (.bool false)], args := [d1, d2] }
  | _ => none }
def FnExactProperOfWrongFalsely : Prop := fnExactProperOfRow.holds Try.pinned (OpenSpec.ofChange fnExactProperOfWrong)

/-- 'laws.FnExactAmountText': WHATEVER THE INPUT: true; the input reads as it did. -/
def fnExactAmountTextSpec : ChangeSpec := { name := "fnExactAmountText", fn := fun _ => fun
  | [d1, d2] => { results := [.lit (.bool true)], args := [d1, d2] }
  | _ => none }
def fnExactAmountTextRow : OpenClaim := { program := "ytfgnmjnlhnpmoaa", sum := "26d26a68601f3a3e3026b4e1192e48510be1223186965dbd2e2de7404a00aa2b", func := "loop.example/g01006/laws.FnExactAmountText", spec := "fnExactAmountText", recurses := true, apart := false }
def FnExactAmountTextSaid : Prop := fnExactAmountTextRow.holds Try.pinned (OpenSpec.ofChange fnExactAmountTextSpec)

/-- ITS FALSE NEIGHBOUR: 'it returns false'. Refute it at one input. -/
def fnExactAmountTextWrong : ChangeSpec := { name := "fnExactAmountText", fn := fun _ => fun
  | [d1, d2] => { results := [.lit (.bool false)], args := [d1, d2] }
  | _ => none }
def FnExactAmountTextWrongFalsely : Prop := fnExactAmountTextRow.holds Try.pinned (OpenSpec.ofChange fnExactAmountTextWrong)

/-- 'laws.FnExactDifferenceOf': WHATEVER THE INPUT: true; the input reads as it did. -/
def fnExactDifferenceOfSpec : ChangeSpec := { name := "fnExactDifferenceOf", fn := fun _ => fun
  | [d1, d2, d3] => { results := [.lit (.bool true)], args := [d1, d2, d3] }
  | _ => none }
def fnExactDifferenceOfRow : OpenClaim := { program := "ytfgnmjnlhnpmoaa", sum := "26d26a68601f3a3e3026b4e1192e48510be1223186965dbd2e2de7404a00aa2b", func := "loop.example/g01006/laws.FnExactDifferenceOf", spec := "fnExactDifferenceOf", apart := false }
def FnExactDifferenceOfSaid : Prop := fnExactDifferenceOfRow.holds Try.pinned (OpenSpec.ofChange fnExactDifferenceOfSpec)

/-- ITS FALSE NEIGHBOUR: 'it returns false'. Refute it at one input. -/
def fnExactDifferenceOfWrong : ChangeSpec := { name := "fnExactDifferenceOf", fn := fun _ => fun
  | [d1, d2, d3] => { results := [.lit (.bool false)], args := [d1, d2, d3] }
  | _ => none }
def FnExactDifferenceOfWrongFalsely : Prop := fnExactDifferenceOfRow.holds Try.pinned (OpenSpec.ofChange fnExactDifferenceOfWrong)

/-- 'laws.FnExactSumOf': WHATEVER THE INPUT: true; the input reads as it did. -/
def fnExactSumOfSpec : ChangeSpec := { name := "fnExactSumOf", fn := fun _ => fun
  | [d1, d2, d3] => { results := [.lit (.bool true)], args := [d1, d2, d3] }
  | _ => none }
def fnExactSumOfRow : OpenClaim := { program := "ytfgnmjnlhnpmoaa", sum := "26d26a68601f3a3e3026b4e1192e48510be1223186965dbd2e2de7404a00aa2b", func := "loop.example/g01006/laws.FnExactSumOf", spec := "fnExactSumOf", apart := false }
def FnExactSumOfSaid : Prop := fnExactSumOfRow.holds Try.pinned (OpenSpec.ofChange fnExactSumOfSpec)

/-- ITS FALSE NEIGHBOUR: 'it returns false'. Refute it at one input. -/
def fnExactSumOfWrong : ChangeSpec := { name := "fnExactSumOf", fn := fun _ => fun
  | [d1, d2, d3] => { results := [.lit (.bool false)], args := [d1, d2, d3] }
  | _ => none }
def FnExactSumOfWrongFalsely : Prop := fnExactSumOfRow.holds Try.pinned (OpenSpec.ofChange fnExactSumOfWrong)

/-- 'laws.FnExactTimesOf': WHATEVER THE INPUT: true; the input reads as it did. -/
def fnExactTimesOfSpec : ChangeSpec := { name := "fnExactTimesOf", fn := fun _ => fun
  | [d1, d2, d3] => { results := [.lit (.bool true)], args := [d1, d2, d3] }
  | _ => none }
def fnExactTimesOfRow : OpenClaim := { program := "ytfgnmjnlhnpmoaa", sum := "26d26a68601f3a3e3026b4e1192e48510be1223186965dbd2e2de7404a00aa2b", func := "loop.example/g01006/laws.FnExactTimesOf", spec := "fnExactTimesOf", apart := false }
def FnExactTimesOfSaid : Prop := fnExactTimesOfRow.holds Try.pinned (OpenSpec.ofChange fnExactTimesOfSpec)

/-- ITS FALSE NEIGHBOUR: 'it returns false'. Refute it at one input. -/
def fnExactTimesOfWrong : ChangeSpec := { name := "fnExactTimesOf", fn := fun _ => fun
  | [d1, d2, d3] => { results := [.lit (.bool false)], args := [d1, d2, d3] }
  | _ => none }
def FnExactTimesOfWrongFalsely : Prop := fnExactTimesOfRow.holds Try.pinned (OpenSpec.ofChange fnExactTimesOfWrong)

/-- 'laws.FnExactConvertTo': WHATEVER THE INPUT: true; the input reads as it did. -/
def fnExactConvertToSpec : ChangeSpec := { name := "fnExactConvertTo", fn := fun _ => fun
  | [d1, d2, d3, d4, d5] => { results := [.lit (.bool true)], args := [d1, d2, d3, d4, d5] }
  | _ => none }
def fnExactConvertToRow : OpenClaim := { program := "ytfgnmjnlhnpmoaa", sum := "26d26a68601f3a3e3026b4e1192e48510be1223186965dbd2e2de7404a00aa2b", func := "loop.example/g01006/laws.FnExactConvertTo", spec := "fnExactConvertTo", apart := false }
def FnExactConvertToSaid : Prop := fnExactConvertToRow.holds Try.pinned (OpenSpec.ofChange fnExactConvertToSpec)

/-- ITS FALSE NEIGHBOUR: 'it returns false'. Refute it at one input. -/
def fnExactConvertToWrong : ChangeSpec := { name := "fnExactConvertTo", fn := fun _ => fun
  | [d1, d2, d3, d4, d5] => { results := [.lit (.bool false)], args := [d1, d2, d3, d4, d5] }
  | _ => none }
def FnExactConvertToWrongFalsely : Prop := fnExactConvertToRow.holds Try.pinned (OpenSpec.ofChange fnExactConvertToWrong)

/-- 'laws.FnMeasures': WHATEVER THE INPUT: true; the input reads as it did. -/
def fnMeasuresSpec : ChangeSpec := { name := "fnMeasures", fn := fun _ => fun
  | [d] => { results := [.lit (.bool true)], args := [d] }
  | _ => none }
def fnMeasuresRow : OpenClaim := { program := "ytfgnmjnlhnpmoaa", sum := "26d26a68601f3a3e3026b4e1192e48510be1223186965dbd2e2de7404a00aa2b", func := "loop.example/g01006/laws.FnMeasures", spec := "fnMeasures", apart := false }
def FnMeasuresSaid : Prop := fnMeasuresRow.holds Try.pinned (OpenSpec.ofChange fnMeasuresSpec)

/-- ITS FALSE NEIGHBOUR: 'it returns false'. Refute it at one input. -/
def fnMeasuresWrong : ChangeSpec := { name := "fnMeasures", fn := fun _ => fun
  | [d] => { results := [.lit (.bool false)], args := [d] }
  | _ => none }
def FnMeasuresWrongFalsely : Prop := fnMeasuresRow.holds Try.pinned (OpenSpec.ofChange fnMeasuresWrong)

/- THE SECOND FORM. 'bulk': how many values and letters a reading holds, each counted each time it is reached (what is shared counts as often as it is met; a slice's spare places count too). A statement '..UptoSaid' is the law's where the arguments, and the package variables that the reading takes, are together of bulk at most 1048576: NARROWER than '..Said'. Prove '..Said' where nothing that the law and all that it calls make is longer than what came in: it says more and counts as full. Else prove '..UptoSaid'. A law counts once. -/
mutual
def uptoBulk {H : Type} : DataW H → Nat
  | .lit (.string bytes) => bytes.length + 1
  | .lit _ => 1
  | .nil => 1
  | .ptr d => uptoBulk d + 1
  | .slice elems spare => uptoBulkAll elems + uptoBulkAll spare + 1
  | .agg parts => uptoBulkAll parts + 1
  | .iface _ d => uptoBulk d + 1
  | .map entries => uptoBulkEntries entries + 1
  | .held _ => 1
def uptoBulkAll {H : Type} : List (DataW H) → Nat
  | [] => 0
  | d :: r => uptoBulk d + uptoBulkAll r
def uptoBulkEntries {H : Type} : List (Lit × DataW H) → Nat
  | [] => 0
  | x :: r => uptoBulkEntry x + uptoBulkEntries r
def uptoBulkEntry {H : Type} : Lit × DataW H → Nat
  | (.string bytes, d) => bytes.length + uptoBulk d + 1
  | (_, d) => uptoBulk d + 1
 end
def uptoSmall : (H : Type) → List (DataW H) → Bool := fun _ ds => decide (uptoBulkAll ds ≤ 1048576)
def OpenSpec.upto (s : _root_.Go.ChangeSpec) : _root_.Go.OpenSpec := { _root_.Go.OpenSpec.ofChange s with cond := some uptoSmall }

/-- 'laws.FnExactKindOfAdd', WHERE WHAT IT READS IS OF BULK AT MOST 1048576: true; the input reads as it did. -/
def fnExactKindOfAddUptoRow : OpenClaim := { program := "ytfgnmjnlhnpmoaa", sum := "26d26a68601f3a3e3026b4e1192e48510be1223186965dbd2e2de7404a00aa2b", func := "loop.example/g01006/laws.FnExactKindOfAdd", spec := "fnExactKindOfAdd", apart := false, narrowed := true }
def FnExactKindOfAddUptoSaid : Prop := fnExactKindOfAddUptoRow.holds Try.pinned (OpenSpec.upto fnExactKindOfAddSpec)

/-- 'laws.FnExactIsSystem', WHERE WHAT IT READS IS OF BULK AT MOST 1048576: true; the input reads as it did. -/
def fnExactIsSystemUptoRow : OpenClaim := { program := "ytfgnmjnlhnpmoaa", sum := "26d26a68601f3a3e3026b4e1192e48510be1223186965dbd2e2de7404a00aa2b", func := "loop.example/g01006/laws.FnExactIsSystem", spec := "fnExactIsSystem", apart := false, narrowed := true }
def FnExactIsSystemUptoSaid : Prop := fnExactIsSystemUptoRow.holds Try.pinned (OpenSpec.upto fnExactIsSystemSpec)

/-- 'laws.FnExactUnitsIn', WHERE WHAT IT READS IS OF BULK AT MOST 1048576: true; the input reads as it did. -/
def fnExactUnitsInUptoRow : OpenClaim := { program := "ytfgnmjnlhnpmoaa", sum := "26d26a68601f3a3e3026b4e1192e48510be1223186965dbd2e2de7404a00aa2b", func := "loop.example/g01006/laws.FnExactUnitsIn", spec := "fnExactUnitsIn", apart := false, narrowed := true }
def FnExactUnitsInUptoSaid : Prop := fnExactUnitsInUptoRow.holds Try.pinned (OpenSpec.upto fnExactUnitsInSpec)

/-- 'laws.FnExactIsAmount', WHERE WHAT IT READS IS OF BULK AT MOST 1048576: true; the input reads as it did. -/
def fnExactIsAmountUptoRow : OpenClaim := { program := "ytfgnmjnlhnpmoaa", sum := "26d26a68601f3a3e3026b4e1192e48510be1223186965dbd2e2de7404a00aa2b", func := "loop.example/g01006/laws.FnExactIsAmount", spec := "fnExactIsAmount", apart := false, narrowed := true }
def FnExactIsAmountUptoSaid : Prop := fnExactIsAmountUptoRow.holds Try.pinned (OpenSpec.upto fnExactIsAmountSpec)

/-- 'laws.FnExactValueIn', WHERE WHAT IT READS IS OF BULK AT MOST 1048576: true; the input reads as it did. -/
def fnExactValueInUptoRow : OpenClaim := { program := "ytfgnmjnlhnpmoaa", sum := "26d26a68601f3a3e3026b4e1192e48510be1223186965dbd2e2de7404a00aa2b", func := "loop.example/g01006/laws.FnExactValueIn", spec := "fnExactValueIn", apart := false, narrowed := true }
def FnExactValueInUptoSaid : Prop := fnExactValueInUptoRow.holds Try.pinned (OpenSpec.upto fnExactValueInSpec)

/-- 'laws.FnExactProperOf', WHERE WHAT IT READS IS OF BULK AT MOST 1048576: true; the input reads as it did. -/
def fnExactProperOfUptoRow : OpenClaim := { program := "ytfgnmjnlhnpmoaa", sum := "26d26a68601f3a3e3026b4e1192e48510be1223186965dbd2e2de7404a00aa2b", func := "loop.example/g01006/laws.FnExactProperOf", spec := "fnExactProperOf", apart := false, narrowed := true }
def FnExactProperOfUptoSaid : Prop := fnExactProperOfUptoRow.holds Try.pinned (OpenSpec.upto fnExactProperOfSpec)

/-- 'laws.FnExactAmountText', WHERE WHAT IT READS IS OF BULK AT MOST 1048576: true; the input reads as it did. -/
def fnExactAmountTextUptoRow : OpenClaim := { program := "ytfgnmjnlhnpmoaa", sum := "26d26a68601f3a3e3026b4e1192e48510be1223186965dbd2e2de7404a00aa2b", func := "loop.example/g01006/laws.FnExactAmountText", spec := "fnExactAmountText", recurses := true, apart := false, narrowed := true }
def FnExactAmountTextUptoSaid : Prop := fnExactAmountTextUptoRow.holds Try.pinned (OpenSpec.upto fnExactAmountTextSpec)

/-- 'laws.FnExactDifferenceOf', WHERE WHAT IT READS IS OF BULK AT MOST 1048576: true; the input reads as it did. -/
def fnExactDifferenceOfUptoRow : OpenClaim := { program := "ytfgnmjnlhnpmoaa", sum := "26d26a68601f3a3e3026b4e1192e48510be1223186965dbd2e2de7404a00aa2b", func := "loop.example/g01006/laws.FnExactDifferenceOf", spec := "fnExactDifferenceOf", apart := false, narrowed := true }
def FnExactDifferenceOfUptoSaid : Prop := fnExactDifferenceOfUptoRow.holds Try.pinned (OpenSpec.upto fnExactDifferenceOfSpec)

/-- 'laws.FnExactSumOf', WHERE WHAT IT READS IS OF BULK AT MOST 1048576: true; the input reads as it did. -/
def fnExactSumOfUptoRow : OpenClaim := { program := "ytfgnmjnlhnpmoaa", sum := "26d26a68601f3a3e3026b4e1192e48510be1223186965dbd2e2de7404a00aa2b", func := "loop.example/g01006/laws.FnExactSumOf", spec := "fnExactSumOf", apart := false, narrowed := true }
def FnExactSumOfUptoSaid : Prop := fnExactSumOfUptoRow.holds Try.pinned (OpenSpec.upto fnExactSumOfSpec)

/-- 'laws.FnExactTimesOf', WHERE WHAT IT READS IS OF BULK AT MOST 1048576: true; the input reads as it did. -/
def fnExactTimesOfUptoRow : OpenClaim := { program := "ytfgnmjnlhnpmoaa", sum := "26d26a68601f3a3e3026b4e1192e48510be1223186965dbd2e2de7404a00aa2b", func := "loop.example/g01006/laws.FnExactTimesOf", spec := "fnExactTimesOf", apart := false, narrowed := true }
def FnExactTimesOfUptoSaid : Prop := fnExactTimesOfUptoRow.holds Try.pinned (OpenSpec.upto fnExactTimesOfSpec)

/-- 'laws.FnExactConvertTo', WHERE WHAT IT READS IS OF BULK AT MOST 1048576: true; the input reads as it did. -/
def fnExactConvertToUptoRow : OpenClaim := { program := "ytfgnmjnlhnpmoaa", sum := "26d26a68601f3a3e3026b4e1192e48510be1223186965dbd2e2de7404a00aa2b", func := "loop.example/g01006/laws.FnExactConvertTo", spec := "fnExactConvertTo", apart := false, narrowed := true }
def FnExactConvertToUptoSaid : Prop := fnExactConvertToUptoRow.holds Try.pinned (OpenSpec.upto fnExactConvertToSpec)

/-- 'laws.FnMeasures', WHERE WHAT IT READS IS OF BULK AT MOST 1048576: true; the input reads as it did. -/
def fnMeasuresUptoRow : OpenClaim := { program := "ytfgnmjnlhnpmoaa", sum := "26d26a68601f3a3e3026b4e1192e48510be1223186965dbd2e2de7404a00aa2b", func := "loop.example/g01006/laws.FnMeasures", spec := "fnMeasures", apart := false, narrowed := true }
def FnMeasuresUptoSaid : Prop := fnMeasuresUptoRow.holds Try.pinned (OpenSpec.upto fnMeasuresSpec)

end Rows
end Go.Proofs.Ytfgnmjnlhnpmoaa
