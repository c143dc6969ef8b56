/-
  No cell of these rows narrows 'for every input' (looked for: loops, veiled, ifaces, maps, wideKeys, modest, calm, conditions, laid).
  DERIVED. THE GIVEN ROWS OF THIS SEAT. 15 by the template 'for every input the law returns true; each argument reads behind the call as it read before'; 0 by the template 'total and deterministic' (their statements: YthlkdaogmcjlbaaTotals.lean).
  GIVEN WITH THE SEED: the statements are not yours to turn. If you find one false, say at which input.
  Laid BY PROGRAM, IN A SANDBOX (cutbox-rows.mjs): the forced cells as the released guide's own fill.sh prints them over the translation a8914327bbd0c48f… (all of the seat's roots in one cut). By AI agents, Wed Nov 11 2026. No macro, syntax, notation, axiom, sorry.
-/
import Derived.Test.YthlkdaogmcjlbaaChecked
import GoSem.Claim
import GoSem.ClaimJoined
import GoSem.ClaimMapViews
import Derived.JoinedTies
import Derived.KernelRfl
namespace Go.Proofs.Ythlkdaogmcjlbaa
/- THE CELL 'sum', in the pinned program and in every row, IS THE sha256 OF THE DUMP (.gsa) THAT YthlkdaogmcjlbaaProg.lean LOADS. Nothing in Lean hashes anything: it is a label: what it is worth is what the hold of that sum in a sandbox is worth. -/
noncomputable def Try.pinned : Pinned := { name := "ythlkdaogmcjlbaa", sum := "a8914327bbd0c48fc22555d7681c6ea7c2886407b18cd5e3ff94ad02086f3753", checked := Try.checked }
namespace Rows
def none {H : Type} : Left H := { results := [], args := [] }

/-- 'laws.FnExactIsBeadMove': WHATEVER THE INPUT: true; the input reads as it did. -/
def fnExactIsBeadMoveSpec : ChangeSpec := { name := "fnExactIsBeadMove", fn := fun _ => fun
  | [d] => { results := [.lit (.bool true)], args := [d] }
  | _ => none }
def fnExactIsBeadMoveRow : OpenClaim := { program := "ythlkdaogmcjlbaa", sum := "a8914327bbd0c48fc22555d7681c6ea7c2886407b18cd5e3ff94ad02086f3753", func := "loop.example/g01006/laws.FnExactIsBeadMove", spec := "fnExactIsBeadMove", apart := false }
def FnExactIsBeadMoveSaid : Prop := fnExactIsBeadMoveRow.holds Try.pinned (OpenSpec.ofChange fnExactIsBeadMoveSpec)

/-- ITS FALSE NEIGHBOUR: 'it returns false'. Refute it at one input. -/
def fnExactIsBeadMoveWrong : ChangeSpec := { name := "fnExactIsBeadMove", fn := fun _ => fun
  | [d] => { results := [.lit (.bool false)], args := [d] }
  | _ => none }
def FnExactIsBeadMoveWrongFalsely : Prop := fnExactIsBeadMoveRow.holds Try.pinned (OpenSpec.ofChange fnExactIsBeadMoveWrong)

/-- 'laws.FnExactIsFrame': WHATEVER THE INPUT: true; the input reads as it did. -/
def fnExactIsFrameSpec : ChangeSpec := { name := "fnExactIsFrame", fn := fun _ => fun
  | [d] => { results := [.lit (.bool true)], args := [d] }
  | _ => none }
def fnExactIsFrameRow : OpenClaim := { program := "ythlkdaogmcjlbaa", sum := "a8914327bbd0c48fc22555d7681c6ea7c2886407b18cd5e3ff94ad02086f3753", func := "loop.example/g01006/laws.FnExactIsFrame", spec := "fnExactIsFrame", apart := false }
def FnExactIsFrameSaid : Prop := fnExactIsFrameRow.holds Try.pinned (OpenSpec.ofChange fnExactIsFrameSpec)

/-- ITS FALSE NEIGHBOUR: 'it returns false'. Refute it at one input. -/
def fnExactIsFrameWrong : ChangeSpec := { name := "fnExactIsFrame", fn := fun _ => fun
  | [d] => { results := [.lit (.bool false)], args := [d] }
  | _ => none }
def FnExactIsFrameWrongFalsely : Prop := fnExactIsFrameRow.holds Try.pinned (OpenSpec.ofChange fnExactIsFrameWrong)

/-- 'laws.FnExactRodValue': WHATEVER THE INPUT: true; the input reads as it did. -/
def fnExactRodValueSpec : ChangeSpec := { name := "fnExactRodValue", fn := fun _ => fun
  | [d1, d2] => { results := [.lit (.bool true)], args := [d1, d2] }
  | _ => none }
def fnExactRodValueRow : OpenClaim := { program := "ythlkdaogmcjlbaa", sum := "a8914327bbd0c48fc22555d7681c6ea7c2886407b18cd5e3ff94ad02086f3753", func := "loop.example/g01006/laws.FnExactRodValue", spec := "fnExactRodValue", apart := false }
def FnExactRodValueSaid : Prop := fnExactRodValueRow.holds Try.pinned (OpenSpec.ofChange fnExactRodValueSpec)

/-- ITS FALSE NEIGHBOUR: 'it returns false'. Refute it at one input. -/
def fnExactRodValueWrong : ChangeSpec := { name := "fnExactRodValue", fn := fun _ => fun
  | [d1, d2] => { results := [.lit (.bool false)], args := [d1, d2] }
  | _ => none }
def FnExactRodValueWrongFalsely : Prop := fnExactRodValueRow.holds Try.pinned (OpenSpec.ofChange fnExactRodValueWrong)

/-- 'laws.FnExactBeadsOf': WHATEVER THE INPUT: true; the input reads as it did. -/
def fnExactBeadsOfSpec : ChangeSpec := { name := "fnExactBeadsOf", fn := fun _ => fun
  | [d] => { results := [.lit (.bool true)], args := [d] }
  | _ => none }
def fnExactBeadsOfRow : OpenClaim := { program := "ythlkdaogmcjlbaa", sum := "a8914327bbd0c48fc22555d7681c6ea7c2886407b18cd5e3ff94ad02086f3753", func := "loop.example/g01006/laws.FnExactBeadsOf", spec := "fnExactBeadsOf", apart := false }
def FnExactBeadsOfSaid : Prop := fnExactBeadsOfRow.holds Try.pinned (OpenSpec.ofChange fnExactBeadsOfSpec)

/-- ITS FALSE NEIGHBOUR: 'it returns false'. Refute it at one input. -/
def fnExactBeadsOfWrong : ChangeSpec := { name := "fnExactBeadsOf", fn := fun _ => fun
  | [d] => { results := [.lit (.bool false)], args := [d] }
  | _ => none }
def FnExactBeadsOfWrongFalsely : Prop := fnExactBeadsOfRow.holds Try.pinned (OpenSpec.ofChange fnExactBeadsOfWrong)

/-- 'laws.FnMoveTexts': WHATEVER THE INPUT: true; the input reads as it did. -/
def fnMoveTextsSpec : ChangeSpec := { name := "fnMoveTexts", fn := fun _ => fun
  | [d] => { results := [.lit (.bool true)], args := [d] }
  | _ => none }
def fnMoveTextsRow : OpenClaim := { program := "ythlkdaogmcjlbaa", sum := "a8914327bbd0c48fc22555d7681c6ea7c2886407b18cd5e3ff94ad02086f3753", func := "loop.example/g01006/laws.FnMoveTexts", spec := "fnMoveTexts", recurses := true, apart := false }
def FnMoveTextsSaid : Prop := fnMoveTextsRow.holds Try.pinned (OpenSpec.ofChange fnMoveTextsSpec)

/-- ITS FALSE NEIGHBOUR: 'it returns false'. Refute it at one input. -/
def fnMoveTextsWrong : ChangeSpec := { name := "fnMoveTexts", fn := fun _ => fun
  | [d] => { results := [.lit (.bool false)], args := [d] }
  | _ => none }
def FnMoveTextsWrongFalsely : Prop := fnMoveTextsRow.holds Try.pinned (OpenSpec.ofChange fnMoveTextsWrong)

/-- 'laws.FnExactNumberOn': WHATEVER THE INPUT: true; the input reads as it did. -/
def fnExactNumberOnSpec : ChangeSpec := { name := "fnExactNumberOn", fn := fun _ => fun
  | [d] => { results := [.lit (.bool true)], args := [d] }
  | _ => none }
def fnExactNumberOnRow : OpenClaim := { program := "ythlkdaogmcjlbaa", sum := "a8914327bbd0c48fc22555d7681c6ea7c2886407b18cd5e3ff94ad02086f3753", func := "loop.example/g01006/laws.FnExactNumberOn", spec := "fnExactNumberOn", apart := false }
def FnExactNumberOnSaid : Prop := fnExactNumberOnRow.holds Try.pinned (OpenSpec.ofChange fnExactNumberOnSpec)

/-- ITS FALSE NEIGHBOUR: 'it returns false'. Refute it at one input. -/
def fnExactNumberOnWrong : ChangeSpec := { name := "fnExactNumberOn", fn := fun _ => fun
  | [d] => { results := [.lit (.bool false)], args := [d] }
  | _ => none }
def FnExactNumberOnWrongFalsely : Prop := fnExactNumberOnRow.holds Try.pinned (OpenSpec.ofChange fnExactNumberOnWrong)

/-- 'laws.FnExactIsStandard': WHATEVER THE INPUT: true; the input reads as it did. -/
def fnExactIsStandardSpec : ChangeSpec := { name := "fnExactIsStandard", fn := fun _ => fun
  | [d] => { results := [.lit (.bool true)], args := [d] }
  | _ => none }
def fnExactIsStandardRow : OpenClaim := { program := "ythlkdaogmcjlbaa", sum := "a8914327bbd0c48fc22555d7681c6ea7c2886407b18cd5e3ff94ad02086f3753", func := "loop.example/g01006/laws.FnExactIsStandard", spec := "fnExactIsStandard", apart := false }
def FnExactIsStandardSaid : Prop := fnExactIsStandardRow.holds Try.pinned (OpenSpec.ofChange fnExactIsStandardSpec)

/-- ITS FALSE NEIGHBOUR: 'it returns false'. Refute it at one input. -/
def fnExactIsStandardWrong : ChangeSpec := { name := "fnExactIsStandard", fn := fun _ => fun
  | [d] => { results := [.lit (.bool false)], args := [d] }
  | _ => none }
def FnExactIsStandardWrongFalsely : Prop := fnExactIsStandardRow.holds Try.pinned (OpenSpec.ofChange fnExactIsStandardWrong)

/-- 'laws.FnExactChangeOf': WHATEVER THE INPUT: true; the input reads as it did. -/
def fnExactChangeOfSpec : ChangeSpec := { name := "fnExactChangeOf", fn := fun _ => fun
  | [d1, d2] => { results := [.lit (.bool true)], args := [d1, d2] }
  | _ => none }
def fnExactChangeOfRow : OpenClaim := { program := "ythlkdaogmcjlbaa", sum := "a8914327bbd0c48fc22555d7681c6ea7c2886407b18cd5e3ff94ad02086f3753", func := "loop.example/g01006/laws.FnExactChangeOf", spec := "fnExactChangeOf", apart := false }
def FnExactChangeOfSaid : Prop := fnExactChangeOfRow.holds Try.pinned (OpenSpec.ofChange fnExactChangeOfSpec)

/-- ITS FALSE NEIGHBOUR: 'it returns false'. Refute it at one input. -/
def fnExactChangeOfWrong : ChangeSpec := { name := "fnExactChangeOf", fn := fun _ => fun
  | [d1, d2] => { results := [.lit (.bool false)], args := [d1, d2] }
  | _ => none }
def FnExactChangeOfWrongFalsely : Prop := fnExactChangeOfRow.holds Try.pinned (OpenSpec.ofChange fnExactChangeOfWrong)

/-- 'laws.FnExactUndoMoves': WHATEVER THE INPUT: true; the input reads as it did. -/
def fnExactUndoMovesSpec : ChangeSpec := { name := "fnExactUndoMoves", fn := fun _ => fun
  | [d] => { results := [.lit (.bool true)], args := [d] }
  | _ => none }
def fnExactUndoMovesRow : OpenClaim := { program := "ythlkdaogmcjlbaa", sum := "a8914327bbd0c48fc22555d7681c6ea7c2886407b18cd5e3ff94ad02086f3753", func := "loop.example/g01006/laws.FnExactUndoMoves", spec := "fnExactUndoMoves", apart := false }
def FnExactUndoMovesSaid : Prop := fnExactUndoMovesRow.holds Try.pinned (OpenSpec.ofChange fnExactUndoMovesSpec)

/-- ITS FALSE NEIGHBOUR: 'it returns false'. Refute it at one input. -/
def fnExactUndoMovesWrong : ChangeSpec := { name := "fnExactUndoMoves", fn := fun _ => fun
  | [d] => { results := [.lit (.bool false)], args := [d] }
  | _ => none }
def FnExactUndoMovesWrongFalsely : Prop := fnExactUndoMovesRow.holds Try.pinned (OpenSpec.ofChange fnExactUndoMovesWrong)

/-- 'laws.FnExactFrameText': WHATEVER THE INPUT: true; the input reads as it did. -/
def fnExactFrameTextSpec : ChangeSpec := { name := "fnExactFrameText", fn := fun _ => fun
  | [d] => { results := [.lit (.bool true)], args := [d] }
  | _ => none }
def fnExactFrameTextRow : OpenClaim := { program := "ythlkdaogmcjlbaa", sum := "a8914327bbd0c48fc22555d7681c6ea7c2886407b18cd5e3ff94ad02086f3753", func := "loop.example/g01006/laws.FnExactFrameText", spec := "fnExactFrameText", recurses := true, apart := false }
def FnExactFrameTextSaid : Prop := fnExactFrameTextRow.holds Try.pinned (OpenSpec.ofChange fnExactFrameTextSpec)

/-- ITS FALSE NEIGHBOUR: 'it returns false'. Refute it at one input. -/
def fnExactFrameTextWrong : ChangeSpec := { name := "fnExactFrameText", fn := fun _ => fun
  | [d] => { results := [.lit (.bool false)], args := [d] }
  | _ => none }
def FnExactFrameTextWrongFalsely : Prop := fnExactFrameTextRow.holds Try.pinned (OpenSpec.ofChange fnExactFrameTextWrong)

/-- 'laws.FnExactMergedMoves': WHATEVER THE INPUT: true; the input reads as it did. -/
def fnExactMergedMovesSpec : ChangeSpec := { name := "fnExactMergedMoves", fn := fun _ => fun
  | [d] => { results := [.lit (.bool true)], args := [d] }
  | _ => none }
def fnExactMergedMovesRow : OpenClaim := { program := "ythlkdaogmcjlbaa", sum := "a8914327bbd0c48fc22555d7681c6ea7c2886407b18cd5e3ff94ad02086f3753", func := "loop.example/g01006/laws.FnExactMergedMoves", spec := "fnExactMergedMoves", apart := false }
def FnExactMergedMovesSaid : Prop := fnExactMergedMovesRow.holds Try.pinned (OpenSpec.ofChange fnExactMergedMovesSpec)

/-- ITS FALSE NEIGHBOUR: 'it returns false'. Refute it at one input. -/
def fnExactMergedMovesWrong : ChangeSpec := { name := "fnExactMergedMoves", fn := fun _ => fun
  | [d] => { results := [.lit (.bool false)], args := [d] }
  | _ => none }
def FnExactMergedMovesWrongFalsely : Prop := fnExactMergedMovesRow.holds Try.pinned (OpenSpec.ofChange fnExactMergedMovesWrong)

/-- 'laws.FnExactMovesText': WHATEVER THE INPUT: true; the input reads as it did. -/
def fnExactMovesTextSpec : ChangeSpec := { name := "fnExactMovesText", fn := fun _ => fun
  | [d] => { results := [.lit (.bool true)], args := [d] }
  | _ => none }
def fnExactMovesTextRow : OpenClaim := { program := "ythlkdaogmcjlbaa", sum := "a8914327bbd0c48fc22555d7681c6ea7c2886407b18cd5e3ff94ad02086f3753", func := "loop.example/g01006/laws.FnExactMovesText", spec := "fnExactMovesText", recurses := true, apart := false }
def FnExactMovesTextSaid : Prop := fnExactMovesTextRow.holds Try.pinned (OpenSpec.ofChange fnExactMovesTextSpec)

/-- ITS FALSE NEIGHBOUR: 'it returns false'. Refute it at one input. -/
def fnExactMovesTextWrong : ChangeSpec := { name := "fnExactMovesText", fn := fun _ => fun
  | [d] => { results := [.lit (.bool false)], args := [d] }
  | _ => none }
def FnExactMovesTextWrongFalsely : Prop := fnExactMovesTextRow.holds Try.pinned (OpenSpec.ofChange fnExactMovesTextWrong)

/-- 'laws.FnExactParseFrame': WHATEVER THE INPUT: true; the input reads as it did. -/
def fnExactParseFrameSpec : ChangeSpec := { name := "fnExactParseFrame", fn := fun _ => fun
  | [d] => { results := [.lit (.bool true)], args := [d] }
  | _ => none }
def fnExactParseFrameRow : OpenClaim := { program := "ythlkdaogmcjlbaa", sum := "a8914327bbd0c48fc22555d7681c6ea7c2886407b18cd5e3ff94ad02086f3753", func := "loop.example/g01006/laws.FnExactParseFrame", spec := "fnExactParseFrame", recurses := true, apart := false }
def FnExactParseFrameSaid : Prop := fnExactParseFrameRow.holds Try.pinned (OpenSpec.ofChange fnExactParseFrameSpec)

/-- ITS FALSE NEIGHBOUR: 'it returns false'. Refute it at one input. -/
def fnExactParseFrameWrong : ChangeSpec := { name := "fnExactParseFrame", fn := fun _ => fun
  | [d] => { results := [.lit (.bool false)], args := [d] }
  | _ => none }
def FnExactParseFrameWrongFalsely : Prop := fnExactParseFrameRow.holds Try.pinned (OpenSpec.ofChange fnExactParseFrameWrong)

/-- 'laws.FnExactMovesBetween': WHATEVER THE INPUT: true; the input reads as it did. -/
def fnExactMovesBetweenSpec : ChangeSpec := { name := "fnExactMovesBetween", fn := fun _ => fun
  | [d1, d2] => { results := [.lit (.bool true)], args := [d1, d2] }
  | _ => none }
def fnExactMovesBetweenRow : OpenClaim := { program := "ythlkdaogmcjlbaa", sum := "a8914327bbd0c48fc22555d7681c6ea7c2886407b18cd5e3ff94ad02086f3753", func := "loop.example/g01006/laws.FnExactMovesBetween", spec := "fnExactMovesBetween", apart := false }
def FnExactMovesBetweenSaid : Prop := fnExactMovesBetweenRow.holds Try.pinned (OpenSpec.ofChange fnExactMovesBetweenSpec)

/-- ITS FALSE NEIGHBOUR: 'it returns false'. Refute it at one input. -/
def fnExactMovesBetweenWrong : ChangeSpec := { name := "fnExactMovesBetween", fn := fun _ => fun
  | [d1, d2] => { results := [.lit (.bool false)], args := [d1, d2] }
  | _ => none }
def FnExactMovesBetweenWrongFalsely : Prop := fnExactMovesBetweenRow.holds Try.pinned (OpenSpec.ofChange fnExactMovesBetweenWrong)

/-- 'laws.FnExactParseMoves': WHATEVER THE INPUT: true; the input reads as it did. -/
def fnExactParseMovesSpec : ChangeSpec := { name := "fnExactParseMoves", fn := fun _ => fun
  | [d] => { results := [.lit (.bool true)], args := [d] }
  | _ => none }
def fnExactParseMovesRow : OpenClaim := { program := "ythlkdaogmcjlbaa", sum := "a8914327bbd0c48fc22555d7681c6ea7c2886407b18cd5e3ff94ad02086f3753", func := "loop.example/g01006/laws.FnExactParseMoves", spec := "fnExactParseMoves", recurses := true, apart := false }
def FnExactParseMovesSaid : Prop := fnExactParseMovesRow.holds Try.pinned (OpenSpec.ofChange fnExactParseMovesSpec)

/-- ITS FALSE NEIGHBOUR: 'it returns false'. Refute it at one input. -/
def fnExactParseMovesWrong : ChangeSpec := { name := "fnExactParseMoves", fn := fun _ => fun
  | [d] => { results := [.lit (.bool false)], args := [d] }
  | _ => none }
def FnExactParseMovesWrongFalsely : Prop := fnExactParseMovesRow.holds Try.pinned (OpenSpec.ofChange fnExactParseMovesWrong)

/- THE SECOND FORM. 'bulk': how many values and letters a reading holds, each counted each time it is reached (what is shared counts as often as it is met; a slice's spare places count too). A statement '..UptoSaid' is the law's where the arguments, and the package variables that the reading takes, are together of bulk at most 1048576: NARROWER than '..Said'. Prove '..Said' where nothing that the law and all that it calls make is longer than what came in: it says more and counts as full. Else prove '..UptoSaid'. A law counts once. -/
mutual
def uptoBulk {H : Type} : DataW H → Nat
  | .lit (.string bytes) => bytes.length + 1
  | .lit _ => 1
  | .nil => 1
  | .ptr d => uptoBulk d + 1
  | .slice elems spare => uptoBulkAll elems + uptoBulkAll spare + 1
  | .agg parts => uptoBulkAll parts + 1
  | .iface _ d => uptoBulk d + 1
  | .map entries => uptoBulkEntries entries + 1
  | .held _ => 1
def uptoBulkAll {H : Type} : List (DataW H) → Nat
  | [] => 0
  | d :: r => uptoBulk d + uptoBulkAll r
def uptoBulkEntries {H : Type} : List (Lit × DataW H) → Nat
  | [] => 0
  | x :: r => uptoBulkEntry x + uptoBulkEntries r
def uptoBulkEntry {H : Type} : Lit × DataW H → Nat
  | (.string bytes, d) => bytes.length + uptoBulk d + 1
  | (_, d) => uptoBulk d + 1
 end
def uptoSmall : (H : Type) → List (DataW H) → Bool := fun _ ds => decide (uptoBulkAll ds ≤ 1048576)
def OpenSpec.upto (s : _root_.Go.ChangeSpec) : _root_.Go.OpenSpec := { _root_.Go.OpenSpec.ofChange s with cond := some uptoSmall }

/-- 'laws.FnExactIsBeadMove', WHERE WHAT IT READS IS OF BULK AT MOST 1048576: true; the input reads as it did. -/
def fnExactIsBeadMoveUptoRow : OpenClaim := { program := "ythlkdaogmcjlbaa", sum := "a8914327bbd0c48fc22555d7681c6ea7c2886407b18cd5e3ff94ad02086f3753", func := "loop.example/g01006/laws.FnExactIsBeadMove", spec := "fnExactIsBeadMove", apart := false, narrowed := true }
def FnExactIsBeadMoveUptoSaid : Prop := fnExactIsBeadMoveUptoRow.holds Try.pinned (OpenSpec.upto fnExactIsBeadMoveSpec)

/-- 'laws.FnExactIsFrame', WHERE WHAT IT READS IS OF BULK AT MOST 1048576: true; the input reads as it did. -/
def fnExactIsFrameUptoRow : OpenClaim := { program := "ythlkdaogmcjlbaa", sum := "a8914327bbd0c48fc22555d7681c6ea7c2886407b18cd5e3ff94ad02086f3753", func := "loop.example/g01006/laws.FnExactIsFrame", spec := "fnExactIsFrame", apart := false, narrowed := true }
def FnExactIsFrameUptoSaid : Prop := fnExactIsFrameUptoRow.holds Try.pinned (OpenSpec.upto fnExactIsFrameSpec)

/-- 'laws.FnExactRodValue', WHERE WHAT IT READS IS OF BULK AT MOST 1048576: true; the input reads as it did. -/
def fnExactRodValueUptoRow : OpenClaim := { program := "ythlkdaogmcjlbaa", sum := "a8914327bbd0c48fc22555d7681c6ea7c2886407b18cd5e3ff94ad02086f3753", func := "loop.example/g01006/laws.FnExactRodValue", spec := "fnExactRodValue", apart := false, narrowed := true }
def FnExactRodValueUptoSaid : Prop := fnExactRodValueUptoRow.holds Try.pinned (OpenSpec.upto fnExactRodValueSpec)

/-- 'laws.FnExactBeadsOf', WHERE WHAT IT READS IS OF BULK AT MOST 1048576: true; the input reads as it did. -/
def fnExactBeadsOfUptoRow : OpenClaim := { program := "ythlkdaogmcjlbaa", sum := "a8914327bbd0c48fc22555d7681c6ea7c2886407b18cd5e3ff94ad02086f3753", func := "loop.example/g01006/laws.FnExactBeadsOf", spec := "fnExactBeadsOf", apart := false, narrowed := true }
def FnExactBeadsOfUptoSaid : Prop := fnExactBeadsOfUptoRow.holds Try.pinned (OpenSpec.upto fnExactBeadsOfSpec)

/-- 'laws.FnMoveTexts', WHERE WHAT IT READS IS OF BULK AT MOST 1048576: true; the input reads as it did. -/
def fnMoveTextsUptoRow : OpenClaim := { program := "ythlkdaogmcjlbaa", sum := "a8914327bbd0c48fc22555d7681c6ea7c2886407b18cd5e3ff94ad02086f3753", func := "loop.example/g01006/laws.FnMoveTexts", spec := "fnMoveTexts", recurses := true, apart := false, narrowed := true }
def FnMoveTextsUptoSaid : Prop := fnMoveTextsUptoRow.holds Try.pinned (OpenSpec.upto fnMoveTextsSpec)

/-- 'laws.FnExactNumberOn', WHERE WHAT IT READS IS OF BULK AT MOST 1048576: true; the input reads as it did. -/
def fnExactNumberOnUptoRow : OpenClaim := { program := "ythlkdaogmcjlbaa", sum := "a8914327bbd0c48fc22555d7681c6ea7c2886407b18cd5e3ff94ad02086f3753", func := "loop.example/g01006/laws.FnExactNumberOn", spec := "fnExactNumberOn", apart := false, narrowed := true }
def FnExactNumberOnUptoSaid : Prop := fnExactNumberOnUptoRow.holds Try.pinned (OpenSpec.upto fnExactNumberOnSpec)

/-- 'laws.FnExactIsStandard', WHERE WHAT IT READS IS OF BULK AT MOST 1048576: true; the input reads as it did. -/
def fnExactIsStandardUptoRow : OpenClaim := { program := "ythlkdaogmcjlbaa", sum := "a8914327bbd0c48fc22555d7681c6ea7c2886407b18cd5e3ff94ad02086f3753", func := "loop.example/g01006/laws.FnExactIsStandard", spec := "fnExactIsStandard", apart := false, narrowed := true }
def FnExactIsStandardUptoSaid : Prop := fnExactIsStandardUptoRow.holds Try.pinned (OpenSpec.upto fnExactIsStandardSpec)

/-- 'laws.FnExactChangeOf', WHERE WHAT IT READS IS OF BULK AT MOST 1048576: true; the input reads as it did. -/
def fnExactChangeOfUptoRow : OpenClaim := { program := "ythlkdaogmcjlbaa", sum := "a8914327bbd0c48fc22555d7681c6ea7c2886407b18cd5e3ff94ad02086f3753", func := "loop.example/g01006/laws.FnExactChangeOf", spec := "fnExactChangeOf", apart := false, narrowed := true }
def FnExactChangeOfUptoSaid : Prop := fnExactChangeOfUptoRow.holds Try.pinned (OpenSpec.upto fnExactChangeOfSpec)

/-- 'laws.FnExactUndoMoves', WHERE WHAT IT READS IS OF BULK AT MOST 1048576: true; the input reads as it did. -/
def fnExactUndoMovesUptoRow : OpenClaim := { program := "ythlkdaogmcjlbaa", sum := "a8914327bbd0c48fc22555d7681c6ea7c2886407b18cd5e3ff94ad02086f3753", func := "loop.example/g01006/laws.FnExactUndoMoves", spec := "fnExactUndoMoves", apart := false, narrowed := true }
def FnExactUndoMovesUptoSaid : Prop := fnExactUndoMovesUptoRow.holds Try.pinned (OpenSpec.upto fnExactUndoMovesSpec)

/-- 'laws.FnExactFrameText', WHERE WHAT IT READS IS OF BULK AT MOST 1048576: true; the input reads as it did. -/
def fnExactFrameTextUptoRow : OpenClaim := { program := "ythlkdaogmcjlbaa", sum := "a8914327bbd0c48fc22555d7681c6ea7c2886407b18cd5e3ff94ad02086f3753", func := "loop.example/g01006/laws.FnExactFrameText", spec := "fnExactFrameText", recurses := true, apart := false, narrowed := true }
def FnExactFrameTextUptoSaid : Prop := fnExactFrameTextUptoRow.holds Try.pinned (OpenSpec.upto fnExactFrameTextSpec)

/-- 'laws.FnExactMergedMoves', WHERE WHAT IT READS IS OF BULK AT MOST 1048576: true; the input reads as it did. -/
def fnExactMergedMovesUptoRow : OpenClaim := { program := "ythlkdaogmcjlbaa", sum := "a8914327bbd0c48fc22555d7681c6ea7c2886407b18cd5e3ff94ad02086f3753", func := "loop.example/g01006/laws.FnExactMergedMoves", spec := "fnExactMergedMoves", apart := false, narrowed := true }
def FnExactMergedMovesUptoSaid : Prop := fnExactMergedMovesUptoRow.holds Try.pinned (OpenSpec.upto fnExactMergedMovesSpec)

/-- 'laws.FnExactMovesText', WHERE WHAT IT READS IS OF BULK AT MOST 1048576: true; the input reads as it did. -/
def fnExactMovesTextUptoRow : OpenClaim := { program := "ythlkdaogmcjlbaa", sum := "a8914327bbd0c48fc22555d7681c6ea7c2886407b18cd5e3ff94ad02086f3753", func := "loop.example/g01006/laws.FnExactMovesText", spec := "fnExactMovesText", recurses := true, apart := false, narrowed := true }
def FnExactMovesTextUptoSaid : Prop := fnExactMovesTextUptoRow.holds Try.pinned (OpenSpec.upto fnExactMovesTextSpec)

/-- 'laws.FnExactParseFrame', WHERE WHAT IT READS IS OF BULK AT MOST 1048576: true; the input reads as it did. -/
def fnExactParseFrameUptoRow : OpenClaim := { program := "ythlkdaogmcjlbaa", sum := "a8914327bbd0c48fc22555d7681c6ea7c2886407b18cd5e3ff94ad02086f3753", func := "loop.example/g01006/laws.FnExactParseFrame", spec := "fnExactParseFrame", recurses := true, apart := false, narrowed := true }
def FnExactParseFrameUptoSaid : Prop := fnExactParseFrameUptoRow.holds Try.pinned (OpenSpec.upto fnExactParseFrameSpec)

/-- 'laws.FnExactMovesBetween', WHERE WHAT IT READS IS OF BULK AT MOST 1048576: true; the input reads as it did. -/
def fnExactMovesBetweenUptoRow : OpenClaim := { program := "ythlkdaogmcjlbaa", sum := "a8914327bbd0c48fc22555d7681c6ea7c2886407b18cd5e3ff94ad02086f3753", func := "loop.example/g01006/laws.FnExactMovesBetween", spec := "fnExactMovesBetween", apart := false, narrowed := true }
def FnExactMovesBetweenUptoSaid : Prop := fnExactMovesBetweenUptoRow.holds Try.pinned (OpenSpec.upto fnExactMovesBetweenSpec)

/-- 'laws.FnExactParseMoves', WHERE WHAT IT READS IS OF BULK AT MOST 1048576: true; the input reads as it did. -/
def fnExactParseMovesUptoRow : OpenClaim := { program := "ythlkdaogmcjlbaa", sum := "a8914327bbd0c48fc22555d7681c6ea7c2886407b18cd5e3ff94ad02086f3753", func := "loop.example/g01006/laws.FnExactParseMoves", spec := "fnExactParseMoves", recurses := true, apart := false, narrowed := true }
def FnExactParseMovesUptoSaid : Prop := fnExactParseMovesUptoRow.holds Try.pinned (OpenSpec.upto fnExactParseMovesSpec)

end Rows
end Go.Proofs.Ythlkdaogmcjlbaa
