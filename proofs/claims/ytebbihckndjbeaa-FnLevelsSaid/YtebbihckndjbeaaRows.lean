/-
  No cell of these rows narrows 'for every input' (looked for: loops, veiled, ifaces, maps, wideKeys, modest, calm, conditions, laid).
  DERIVED. THE GIVEN ROWS OF THIS SEAT. 13 by the template 'for every input the law returns true; each argument reads behind the call as it read before'; 0 by the template 'total and deterministic' (their statements: YtebbihckndjbeaaTotals.lean).
  GIVEN WITH THE SEED: the statements are not yours to turn. If you find one false, say at which input.
  Laid BY PROGRAM, IN A SANDBOX (cutbox-rows.mjs): the forced cells as the released guide's own fill.sh prints them over the translation 8f874c6947488c11… (all of the seat's roots in one cut). By AI agents, Wed Nov 11 2026. No macro, syntax, notation, axiom, sorry.
-/
import Derived.Test.YtebbihckndjbeaaChecked
import GoSem.Claim
import GoSem.ClaimJoined
import GoSem.ClaimMapViews
import Derived.JoinedTies
import Derived.KernelRfl
namespace Go.Proofs.Ytebbihckndjbeaa
/- THE CELL 'sum', in the pinned program and in every row, IS THE sha256 OF THE DUMP (.gsa) THAT YtebbihckndjbeaaProg.lean LOADS. Nothing in Lean hashes anything: it is a label: what it is worth is what the hold of that sum in a sandbox is worth. -/
noncomputable def Try.pinned : Pinned := { name := "ytebbihckndjbeaa", sum := "8f874c6947488c11c2ab031b278a7934d7717827afdc773250bdb484a5dd131d", checked := Try.checked }
namespace Rows
def none {H : Type} : Left H := { results := [], args := [] }

/-- 'laws.FnExactIsPupil': WHATEVER THE INPUT: true; the input reads as it did. -/
def fnExactIsPupilSpec : ChangeSpec := { name := "fnExactIsPupil", fn := fun _ => fun
  | [d] => { results := [.lit (.bool true)], args := [d] }
  | _ => none }
def fnExactIsPupilRow : OpenClaim := { program := "ytebbihckndjbeaa", sum := "8f874c6947488c11c2ab031b278a7934d7717827afdc773250bdb484a5dd131d", func := "loop.example/g01006/laws.FnExactIsPupil", spec := "fnExactIsPupil", apart := false }
def FnExactIsPupilSaid : Prop := fnExactIsPupilRow.holds Try.pinned (OpenSpec.ofChange fnExactIsPupilSpec)

/-- ITS FALSE NEIGHBOUR: 'it returns false'. Refute it at one input. -/
def fnExactIsPupilWrong : ChangeSpec := { name := "fnExactIsPupil", fn := fun _ => fun
  | [d] => { results := [.lit (.bool false)], args := [d] }
  | _ => none }
def FnExactIsPupilWrongFalsely : Prop := fnExactIsPupilRow.holds Try.pinned (OpenSpec.ofChange fnExactIsPupilWrong)

/-- 'laws.FnClasses': WHATEVER THE INPUT: true; the input reads as it did. -/
def fnClassesSpec : ChangeSpec := { name := "fnClasses", fn := fun _ => fun
  | [d] => { results := [.lit (.bool true)], args := [d] }
  | _ => none }
def fnClassesRow : OpenClaim := { program := "ytebbihckndjbeaa", sum := "8f874c6947488c11c2ab031b278a7934d7717827afdc773250bdb484a5dd131d", func := "loop.example/g01006/laws.FnClasses", spec := "fnClasses", apart := false }
def FnClassesSaid : Prop := fnClassesRow.holds Try.pinned (OpenSpec.ofChange fnClassesSpec)

/-- ITS FALSE NEIGHBOUR: 'it returns false'. Refute it at one input. -/
def fnClassesWrong : ChangeSpec := { name := "fnClasses", fn := fun _ => fun
  | [d] => { results := [.lit (.bool false)], args := [d] }
  | _ => none }
def FnClassesWrongFalsely : Prop := fnClassesRow.holds Try.pinned (OpenSpec.ofChange fnClassesWrong)

/-- 'laws.FnLevels': WHATEVER THE INPUT: true; the input reads as it did. -/
def fnLevelsSpec : ChangeSpec := { name := "fnLevels", fn := fun _ => fun
  | [d] => { results := [.lit (.bool true)], args := [d] }
  | _ => none }
def fnLevelsRow : OpenClaim := { program := "ytebbihckndjbeaa", sum := "8f874c6947488c11c2ab031b278a7934d7717827afdc773250bdb484a5dd131d", func := "loop.example/g01006/laws.FnLevels", spec := "fnLevels", apart := false }
def FnLevelsSaid : Prop := fnLevelsRow.holds Try.pinned (OpenSpec.ofChange fnLevelsSpec)

/-- ITS FALSE NEIGHBOUR: 'it returns false'. Refute it at one input. -/
def fnLevelsWrong : ChangeSpec := { name := "fnLevels", fn := fun _ => fun
  | [d] => { results := [.lit (.bool false)], args := [d] }
  | _ => none }
def FnLevelsWrongFalsely : Prop := fnLevelsRow.holds Try.pinned (OpenSpec.ofChange fnLevelsWrong)

/-- 'laws.FnExactArePupils': WHATEVER THE INPUT: true; the input reads as it did. -/
def fnExactArePupilsSpec : ChangeSpec := { name := "fnExactArePupils", fn := fun _ => fun
  | [d] => { results := [.lit (.bool true)], args := [d] }
  | _ => none }
def fnExactArePupilsRow : OpenClaim := { program := "ytebbihckndjbeaa", sum := "8f874c6947488c11c2ab031b278a7934d7717827afdc773250bdb484a5dd131d", func := "loop.example/g01006/laws.FnExactArePupils", spec := "fnExactArePupils", apart := false }
def FnExactArePupilsSaid : Prop := fnExactArePupilsRow.holds Try.pinned (OpenSpec.ofChange fnExactArePupilsSpec)

/-- ITS FALSE NEIGHBOUR: 'it returns false'. Refute it at one input. -/
def fnExactArePupilsWrong : ChangeSpec := { name := "fnExactArePupils", fn := fun _ => fun
  | [d] => { results := [.lit (.bool false)], args := [d] }
  | _ => none }
def FnExactArePupilsWrongFalsely : Prop := fnExactArePupilsRow.holds Try.pinned (OpenSpec.ofChange fnExactArePupilsWrong)

/-- 'laws.FnExactOldestOf': WHATEVER THE INPUT: true; the input reads as it did. -/
def fnExactOldestOfSpec : ChangeSpec := { name := "fnExactOldestOf", fn := fun _ => fun
  | [d1, d2] => { results := [.lit (.bool true)], args := [d1, d2] }
  | _ => none }
def fnExactOldestOfRow : OpenClaim := { program := "ytebbihckndjbeaa", sum := "8f874c6947488c11c2ab031b278a7934d7717827afdc773250bdb484a5dd131d", func := "loop.example/g01006/laws.FnExactOldestOf", spec := "fnExactOldestOf", apart := false }
def FnExactOldestOfSaid : Prop := fnExactOldestOfRow.holds Try.pinned (OpenSpec.ofChange fnExactOldestOfSpec)

/-- ITS FALSE NEIGHBOUR: 'it returns false'. Refute it at one input. -/
def fnExactOldestOfWrong : ChangeSpec := { name := "fnExactOldestOf", fn := fun _ => fun
  | [d1, d2] => { results := [.lit (.bool false)], args := [d1, d2] }
  | _ => none }
def FnExactOldestOfWrongFalsely : Prop := fnExactOldestOfRow.holds Try.pinned (OpenSpec.ofChange fnExactOldestOfWrong)

/-- 'laws.FnExactMeanLevel': WHATEVER THE INPUT: true; the input reads as it did. -/
def fnExactMeanLevelSpec : ChangeSpec := { name := "fnExactMeanLevel", fn := fun _ => fun
  | [d1, d2] => { results := [.lit (.bool true)], args := [d1, d2] }
  | _ => none }
def fnExactMeanLevelRow : OpenClaim := { program := "ytebbihckndjbeaa", sum := "8f874c6947488c11c2ab031b278a7934d7717827afdc773250bdb484a5dd131d", func := "loop.example/g01006/laws.FnExactMeanLevel", spec := "fnExactMeanLevel", apart := false }
def FnExactMeanLevelSaid : Prop := fnExactMeanLevelRow.holds Try.pinned (OpenSpec.ofChange fnExactMeanLevelSpec)

/-- ITS FALSE NEIGHBOUR: 'it returns false'. Refute it at one input. -/
def fnExactMeanLevelWrong : ChangeSpec := { name := "fnExactMeanLevel", fn := fun _ => fun
  | [d1, d2] => { results := [.lit (.bool false)], args := [d1, d2] }
  | _ => none }
def FnExactMeanLevelWrongFalsely : Prop := fnExactMeanLevelRow.holds Try.pinned (OpenSpec.ofChange fnExactMeanLevelWrong)

/-- 'laws.FnExactInClass': WHATEVER THE INPUT: true; the input reads as it did. -/
def fnExactInClassSpec : ChangeSpec := { name := "fnExactInClass", fn := fun _ => fun
  | [d1, d2] => { results := [.lit (.bool true)], args := [d1, d2] }
  | _ => none }
def fnExactInClassRow : OpenClaim := { program := "ytebbihckndjbeaa", sum := "8f874c6947488c11c2ab031b278a7934d7717827afdc773250bdb484a5dd131d", func := "loop.example/g01006/laws.FnExactInClass", spec := "fnExactInClass", apart := false }
def FnExactInClassSaid : Prop := fnExactInClassRow.holds Try.pinned (OpenSpec.ofChange fnExactInClassSpec)

/-- ITS FALSE NEIGHBOUR: 'it returns false'. Refute it at one input. -/
def fnExactInClassWrong : ChangeSpec := { name := "fnExactInClass", fn := fun _ => fun
  | [d1, d2] => { results := [.lit (.bool false)], args := [d1, d2] }
  | _ => none }
def FnExactInClassWrongFalsely : Prop := fnExactInClassRow.holds Try.pinned (OpenSpec.ofChange fnExactInClassWrong)

/-- 'laws.FnExactRaiseLevel': WHATEVER THE INPUT: true; the input reads as it did. -/
def fnExactRaiseLevelSpec : ChangeSpec := { name := "fnExactRaiseLevel", fn := fun _ => fun
  | [d1, d2] => { results := [.lit (.bool true)], args := [d1, d2] }
  | _ => none }
def fnExactRaiseLevelRow : OpenClaim := { program := "ytebbihckndjbeaa", sum := "8f874c6947488c11c2ab031b278a7934d7717827afdc773250bdb484a5dd131d", func := "loop.example/g01006/laws.FnExactRaiseLevel", spec := "fnExactRaiseLevel", apart := false }
def FnExactRaiseLevelSaid : Prop := fnExactRaiseLevelRow.holds Try.pinned (OpenSpec.ofChange fnExactRaiseLevelSpec)

/-- ITS FALSE NEIGHBOUR: 'it returns false'. Refute it at one input. -/
def fnExactRaiseLevelWrong : ChangeSpec := { name := "fnExactRaiseLevel", fn := fun _ => fun
  | [d1, d2] => { results := [.lit (.bool false)], args := [d1, d2] }
  | _ => none }
def FnExactRaiseLevelWrongFalsely : Prop := fnExactRaiseLevelRow.holds Try.pinned (OpenSpec.ofChange fnExactRaiseLevelWrong)

/-- 'laws.FnExactSwapClasses': WHATEVER THE INPUT: true; the input reads as it did. -/
def fnExactSwapClassesSpec : ChangeSpec := { name := "fnExactSwapClasses", fn := fun _ => fun
  | [d1, d2, d3] => { results := [.lit (.bool true)], args := [d1, d2, d3] }
  | _ => none }
def fnExactSwapClassesRow : OpenClaim := { program := "ytebbihckndjbeaa", sum := "8f874c6947488c11c2ab031b278a7934d7717827afdc773250bdb484a5dd131d", func := "loop.example/g01006/laws.FnExactSwapClasses", spec := "fnExactSwapClasses", apart := false }
def FnExactSwapClassesSaid : Prop := fnExactSwapClassesRow.holds Try.pinned (OpenSpec.ofChange fnExactSwapClassesSpec)

/-- ITS FALSE NEIGHBOUR: 'it returns false'. Refute it at one input. -/
def fnExactSwapClassesWrong : ChangeSpec := { name := "fnExactSwapClasses", fn := fun _ => fun
  | [d1, d2, d3] => { results := [.lit (.bool false)], args := [d1, d2, d3] }
  | _ => none }
def FnExactSwapClassesWrongFalsely : Prop := fnExactSwapClassesRow.holds Try.pinned (OpenSpec.ofChange fnExactSwapClassesWrong)

/-- 'laws.FnExactPutInClass': WHATEVER THE INPUT: true; the input reads as it did. -/
def fnExactPutInClassSpec : ChangeSpec := { name := "fnExactPutInClass", fn := fun _ => fun
  | [d1, d2, d3] => { results := [.lit (.bool true)], args := [d1, d2, d3] }
  | _ => none }
def fnExactPutInClassRow : OpenClaim := { program := "ytebbihckndjbeaa", sum := "8f874c6947488c11c2ab031b278a7934d7717827afdc773250bdb484a5dd131d", func := "loop.example/g01006/laws.FnExactPutInClass", spec := "fnExactPutInClass", apart := false }
def FnExactPutInClassSaid : Prop := fnExactPutInClassRow.holds Try.pinned (OpenSpec.ofChange fnExactPutInClassSpec)

/-- ITS FALSE NEIGHBOUR: 'it returns false'. Refute it at one input. -/
def fnExactPutInClassWrong : ChangeSpec := { name := "fnExactPutInClass", fn := fun _ => fun
  | [d1, d2, d3] => { results := [.lit (.bool false)], args := [d1, d2, d3] }
  | _ => none }
def FnExactPutInClassWrongFalsely : Prop := fnExactPutInClassRow.holds Try.pinned (OpenSpec.ofChange fnExactPutInClassWrong)

/-- 'laws.FnExactClassesFor': WHATEVER THE INPUT: true; the input reads as it did. -/
def fnExactClassesForSpec : ChangeSpec := { name := "fnExactClassesFor", fn := fun _ => fun
  | [d1, d2] => { results := [.lit (.bool true)], args := [d1, d2] }
  | _ => none }
def fnExactClassesForRow : OpenClaim := { program := "ytebbihckndjbeaa", sum := "8f874c6947488c11c2ab031b278a7934d7717827afdc773250bdb484a5dd131d", func := "loop.example/g01006/laws.FnExactClassesFor", spec := "fnExactClassesFor", apart := false }
def FnExactClassesForSaid : Prop := fnExactClassesForRow.holds Try.pinned (OpenSpec.ofChange fnExactClassesForSpec)

/-- ITS FALSE NEIGHBOUR: 'it returns false'. Refute it at one input. -/
def fnExactClassesForWrong : ChangeSpec := { name := "fnExactClassesFor", fn := fun _ => fun
  | [d1, d2] => { results := [.lit (.bool false)], args := [d1, d2] }
  | _ => none }
def FnExactClassesForWrongFalsely : Prop := fnExactClassesForRow.holds Try.pinned (OpenSpec.ofChange fnExactClassesForWrong)

/-- 'laws.FnExactSameNames': WHATEVER THE INPUT: true; the input reads as it did. -/
def fnExactSameNamesSpec : ChangeSpec := { name := "fnExactSameNames", fn := fun _ => fun
  | [d] => { results := [.lit (.bool true)], args := [d] }
  | _ => none }
def fnExactSameNamesRow : OpenClaim := { program := "ytebbihckndjbeaa", sum := "8f874c6947488c11c2ab031b278a7934d7717827afdc773250bdb484a5dd131d", func := "loop.example/g01006/laws.FnExactSameNames", spec := "fnExactSameNames", apart := false }
def FnExactSameNamesSaid : Prop := fnExactSameNamesRow.holds Try.pinned (OpenSpec.ofChange fnExactSameNamesSpec)

/-- ITS FALSE NEIGHBOUR: 'it returns false'. Refute it at one input. -/
def fnExactSameNamesWrong : ChangeSpec := { name := "fnExactSameNames", fn := fun _ => fun
  | [d] => { results := [.lit (.bool false)], args := [d] }
  | _ => none }
def FnExactSameNamesWrongFalsely : Prop := fnExactSameNamesRow.holds Try.pinned (OpenSpec.ofChange fnExactSameNamesWrong)

/-- 'laws.FnExactPlaceAll': WHATEVER THE INPUT: true; the input reads as it did. -/
def fnExactPlaceAllSpec : ChangeSpec := { name := "fnExactPlaceAll", fn := fun _ => fun
  | [d] => { results := [.lit (.bool true)], args := [d] }
  | _ => none }
def fnExactPlaceAllRow : OpenClaim := { program := "ytebbihckndjbeaa", sum := "8f874c6947488c11c2ab031b278a7934d7717827afdc773250bdb484a5dd131d", func := "loop.example/g01006/laws.FnExactPlaceAll", spec := "fnExactPlaceAll", apart := false }
def FnExactPlaceAllSaid : Prop := fnExactPlaceAllRow.holds Try.pinned (OpenSpec.ofChange fnExactPlaceAllSpec)

/-- ITS FALSE NEIGHBOUR: 'it returns false'. Refute it at one input. -/
def fnExactPlaceAllWrong : ChangeSpec := { name := "fnExactPlaceAll", fn := fun _ => fun
  | [d] => { results := [.lit (.bool false)], args := [d] }
  | _ => none }
def FnExactPlaceAllWrongFalsely : Prop := fnExactPlaceAllRow.holds Try.pinned (OpenSpec.ofChange fnExactPlaceAllWrong)

/- THE SECOND FORM. 'bulk': how many values and letters a reading holds, each counted each time it is reached (what is shared counts as often as it is met; a slice's spare places count too). A statement '..UptoSaid' is the law's where the arguments, and the package variables that the reading takes, are together of bulk at most 1048576: NARROWER than '..Said'. Prove '..Said' where nothing that the law and all that it calls make is longer than what came in: it says more and counts as full. Else prove '..UptoSaid'. A law counts once. -/
mutual
def uptoBulk {H : Type} : DataW H → Nat
  | .lit (.string bytes) => bytes.length + 1
  | .lit _ => 1
  | .nil => 1
  | .ptr d => uptoBulk d + 1
  | .slice elems spare => uptoBulkAll elems + uptoBulkAll spare + 1
  | .agg parts => uptoBulkAll parts + 1
  | .iface _ d => uptoBulk d + 1
  | .map entries => uptoBulkEntries entries + 1
  | .held _ => 1
def uptoBulkAll {H : Type} : List (DataW H) → Nat
  | [] => 0
  | d :: r => uptoBulk d + uptoBulkAll r
def uptoBulkEntries {H : Type} : List (Lit × DataW H) → Nat
  | [] => 0
  | x :: r => uptoBulkEntry x + uptoBulkEntries r
def uptoBulkEntry {H : Type} : Lit × DataW H → Nat
  | (.string bytes, d) => bytes.length + uptoBulk d + 1
  | (_, d) => uptoBulk d + 1
 end
def uptoSmall : (H : Type) → List (DataW H) → Bool := fun _ ds => decide (uptoBulkAll ds ≤ 1048576)
def OpenSpec.upto (s : _root_.Go.ChangeSpec) : _root_.Go.OpenSpec := { _root_.Go.OpenSpec.ofChange s with cond := some uptoSmall }

/-- 'laws.FnExactIsPupil', WHERE WHAT IT READS IS OF BULK AT MOST 1048576: true; the input reads as it did. -/
def fnExactIsPupilUptoRow : OpenClaim := { program := "ytebbihckndjbeaa", sum := "8f874c6947488c11c2ab031b278a7934d7717827afdc773250bdb484a5dd131d", func := "loop.example/g01006/laws.FnExactIsPupil", spec := "fnExactIsPupil", apart := false, narrowed := true }
def FnExactIsPupilUptoSaid : Prop := fnExactIsPupilUptoRow.holds Try.pinned (OpenSpec.upto fnExactIsPupilSpec)

/-- 'laws.FnClasses', WHERE WHAT IT READS IS OF BULK AT MOST 1048576: true; the input reads as it did. -/
def fnClassesUptoRow : OpenClaim := { program := "ytebbihckndjbeaa", sum := "8f874c6947488c11c2ab031b278a7934d7717827afdc773250bdb484a5dd131d", func := "loop.example/g01006/laws.FnClasses", spec := "fnClasses", apart := false, narrowed := true }
def FnClassesUptoSaid : Prop := fnClassesUptoRow.holds Try.pinned (OpenSpec.upto fnClassesSpec)

/-- 'laws.FnLevels', WHERE WHAT IT READS IS OF BULK AT MOST 1048576: true; the input reads as it did. -/
def fnLevelsUptoRow : OpenClaim := { program := "ytebbihckndjbeaa", sum := "8f874c6947488c11c2ab031b278a7934d7717827afdc773250bdb484a5dd131d", func := "loop.example/g01006/laws.FnLevels", spec := "fnLevels", apart := false, narrowed := true }
def FnLevelsUptoSaid : Prop := fnLevelsUptoRow.holds Try.pinned (OpenSpec.upto fnLevelsSpec)

/-- 'laws.FnExactArePupils', WHERE WHAT IT READS IS OF BULK AT MOST 1048576: true; the input reads as it did. -/
def fnExactArePupilsUptoRow : OpenClaim := { program := "ytebbihckndjbeaa", sum := "8f874c6947488c11c2ab031b278a7934d7717827afdc773250bdb484a5dd131d", func := "loop.example/g01006/laws.FnExactArePupils", spec := "fnExactArePupils", apart := false, narrowed := true }
def FnExactArePupilsUptoSaid : Prop := fnExactArePupilsUptoRow.holds Try.pinned (OpenSpec.upto fnExactArePupilsSpec)

/-- 'laws.FnExactOldestOf', WHERE WHAT IT READS IS OF BULK AT MOST 1048576: true; the input reads as it did. -/
def fnExactOldestOfUptoRow : OpenClaim := { program := "ytebbihckndjbeaa", sum := "8f874c6947488c11c2ab031b278a7934d7717827afdc773250bdb484a5dd131d", func := "loop.example/g01006/laws.FnExactOldestOf", spec := "fnExactOldestOf", apart := false, narrowed := true }
def FnExactOldestOfUptoSaid : Prop := fnExactOldestOfUptoRow.holds Try.pinned (OpenSpec.upto fnExactOldestOfSpec)

/-- 'laws.FnExactMeanLevel', WHERE WHAT IT READS IS OF BULK AT MOST 1048576: true; the input reads as it did. -/
def fnExactMeanLevelUptoRow : OpenClaim := { program := "ytebbihckndjbeaa", sum := "8f874c6947488c11c2ab031b278a7934d7717827afdc773250bdb484a5dd131d", func := "loop.example/g01006/laws.FnExactMeanLevel", spec := "fnExactMeanLevel", apart := false, narrowed := true }
def FnExactMeanLevelUptoSaid : Prop := fnExactMeanLevelUptoRow.holds Try.pinned (OpenSpec.upto fnExactMeanLevelSpec)

/-- 'laws.FnExactInClass', WHERE WHAT IT READS IS OF BULK AT MOST 1048576: true; the input reads as it did. -/
def fnExactInClassUptoRow : OpenClaim := { program := "ytebbihckndjbeaa", sum := "8f874c6947488c11c2ab031b278a7934d7717827afdc773250bdb484a5dd131d", func := "loop.example/g01006/laws.FnExactInClass", spec := "fnExactInClass", apart := false, narrowed := true }
def FnExactInClassUptoSaid : Prop := fnExactInClassUptoRow.holds Try.pinned (OpenSpec.upto fnExactInClassSpec)

/-- 'laws.FnExactRaiseLevel', WHERE WHAT IT READS IS OF BULK AT MOST 1048576: true; the input reads as it did. -/
def fnExactRaiseLevelUptoRow : OpenClaim := { program := "ytebbihckndjbeaa", sum := "8f874c6947488c11c2ab031b278a7934d7717827afdc773250bdb484a5dd131d", func := "loop.example/g01006/laws.FnExactRaiseLevel", spec := "fnExactRaiseLevel", apart := false, narrowed := true }
def FnExactRaiseLevelUptoSaid : Prop := fnExactRaiseLevelUptoRow.holds Try.pinned (OpenSpec.upto fnExactRaiseLevelSpec)

/-- 'laws.FnExactSwapClasses', WHERE WHAT IT READS IS OF BULK AT MOST 1048576: true; the input reads as it did. -/
def fnExactSwapClassesUptoRow : OpenClaim := { program := "ytebbihckndjbeaa", sum := "8f874c6947488c11c2ab031b278a7934d7717827afdc773250bdb484a5dd131d", func := "loop.example/g01006/laws.FnExactSwapClasses", spec := "fnExactSwapClasses", apart := false, narrowed := true }
def FnExactSwapClassesUptoSaid : Prop := fnExactSwapClassesUptoRow.holds Try.pinned (OpenSpec.upto fnExactSwapClassesSpec)

/-- 'laws.FnExactPutInClass', WHERE WHAT IT READS IS OF BULK AT MOST 1048576: true; the input reads as it did. -/
def fnExactPutInClassUptoRow : OpenClaim := { program := "ytebbihckndjbeaa", sum := "8f874c6947488c11c2ab031b278a7934d7717827afdc773250bdb484a5dd131d", func := "loop.example/g01006/laws.FnExactPutInClass", spec := "fnExactPutInClass", apart := false, narrowed := true }
def FnExactPutInClassUptoSaid : Prop := fnExactPutInClassUptoRow.holds Try.pinned (OpenSpec.upto fnExactPutInClassSpec)

/-- 'laws.FnExactClassesFor', WHERE WHAT IT READS IS OF BULK AT MOST 1048576: true; the input reads as it did. -/
def fnExactClassesForUptoRow : OpenClaim := { program := "ytebbihckndjbeaa", sum := "8f874c6947488c11c2ab031b278a7934d7717827afdc773250bdb484a5dd131d", func := "loop.example/g01006/laws.FnExactClassesFor", spec := "fnExactClassesFor", apart := false, narrowed := true }
def FnExactClassesForUptoSaid : Prop := fnExactClassesForUptoRow.holds Try.pinned (OpenSpec.upto fnExactClassesForSpec)

/-- 'laws.FnExactSameNames', WHERE WHAT IT READS IS OF BULK AT MOST 1048576: true; the input reads as it did. -/
def fnExactSameNamesUptoRow : OpenClaim := { program := "ytebbihckndjbeaa", sum := "8f874c6947488c11c2ab031b278a7934d7717827afdc773250bdb484a5dd131d", func := "loop.example/g01006/laws.FnExactSameNames", spec := "fnExactSameNames", apart := false, narrowed := true }
def FnExactSameNamesUptoSaid : Prop := fnExactSameNamesUptoRow.holds Try.pinned (OpenSpec.upto fnExactSameNamesSpec)

/-- 'laws.FnExactPlaceAll', WHERE WHAT IT READS IS OF BULK AT MOST 1048576: true; the input reads as it did. -/
def fnExactPlaceAllUptoRow : OpenClaim := { program := "ytebbihckndjbeaa", sum := "8f874c6947488c11c2ab031b278a7934d7717827afdc773250bdb484a5dd131d", func := "loop.example/g01006/laws.FnExactPlaceAll", spec := "fnExactPlaceAll", apart := false, narrowed := true }
def FnExactPlaceAllUptoSaid : Prop := fnExactPlaceAllUptoRow.holds Try.pinned (OpenSpec.upto fnExactPlaceAllSpec)

end Rows
end Go.Proofs.Ytebbihckndjbeaa
