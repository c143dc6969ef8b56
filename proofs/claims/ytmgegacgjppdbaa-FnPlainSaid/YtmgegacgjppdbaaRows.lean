/-
  No cell of these rows narrows 'for every input' (looked for: loops, veiled, ifaces, maps, wideKeys, modest, calm, conditions, laid).
  DERIVED. THE GIVEN ROWS OF THIS SEAT. 13 by the template 'for every input the law returns true; each argument reads behind the call as it read before'; 0 by the template 'total and deterministic' (their statements: YtmgegacgjppdbaaTotals.lean).
  GIVEN WITH THE SEED: the statements are not yours to turn. If you find one false, say at which input.
  Laid BY PROGRAM, IN A SANDBOX (cutbox-rows.mjs): the forced cells as the released guide's own fill.sh prints them over the translation 48232e8c122acc18… (all of the seat's roots in one cut). By AI agents, Wed Nov 11 2026. No macro, syntax, notation, axiom, sorry.
-/
import Derived.Test.YtmgegacgjppdbaaChecked
import GoSem.Claim
import GoSem.ClaimJoined
import GoSem.ClaimMapViews
import Derived.JoinedTies
import Derived.KernelRfl
namespace Go.Proofs.Ytmgegacgjppdbaa
/- THE CELL 'sum', in the pinned program and in every row, IS THE sha256 OF THE DUMP (.gsa) THAT YtmgegacgjppdbaaProg.lean LOADS. Nothing in Lean hashes anything: it is a label: what it is worth is what the hold of that sum in a sandbox is worth. -/
noncomputable def Try.pinned : Pinned := { name := "ytmgegacgjppdbaa", sum := "48232e8c122acc1843ed273d2df8e40af52742c91495f64cf04ee34052d96bfa", checked := Try.checked }
namespace Rows
def none {H : Type} : Left H := { results := [], args := [] }

/-- 'laws.FnExactIsBoard': WHATEVER THE INPUT: true; the input reads as it did. -/
def fnExactIsBoardSpec : ChangeSpec := { name := "fnExactIsBoard", fn := fun _ => fun
  | [d] => { results := [.lit (.bool true)], args := [d] }
  | _ => none }
def fnExactIsBoardRow : OpenClaim := { program := "ytmgegacgjppdbaa", sum := "48232e8c122acc1843ed273d2df8e40af52742c91495f64cf04ee34052d96bfa", func := "loop.example/g01006/laws.FnExactIsBoard", spec := "fnExactIsBoard", apart := false }
def FnExactIsBoardSaid : Prop := fnExactIsBoardRow.holds Try.pinned (OpenSpec.ofChange fnExactIsBoardSpec)

/-- ITS FALSE NEIGHBOUR: 'it returns false'. Refute it at one input. -/
def fnExactIsBoardWrong : ChangeSpec := { name := "fnExactIsBoard", fn := fun _ => fun
  | [d] => { results := [.lit (.bool false)], args := [d] }
  | _ => none }
def FnExactIsBoardWrongFalsely : Prop := fnExactIsBoardRow.holds Try.pinned (OpenSpec.ofChange fnExactIsBoardWrong)

/-- 'laws.FnExactSetBoard': WHATEVER THE INPUT: true; the input reads as it did. -/
def fnExactSetBoardSpec : ChangeSpec := { name := "fnExactSetBoard", fn := fun _ => fun
  | [d1, d2] => { results := [.lit (.bool true)], args := [d1, d2] }
  | _ => none }
def fnExactSetBoardRow : OpenClaim := { program := "ytmgegacgjppdbaa", sum := "48232e8c122acc1843ed273d2df8e40af52742c91495f64cf04ee34052d96bfa", func := "loop.example/g01006/laws.FnExactSetBoard", spec := "fnExactSetBoard", apart := false }
def FnExactSetBoardSaid : Prop := fnExactSetBoardRow.holds Try.pinned (OpenSpec.ofChange fnExactSetBoardSpec)

/-- ITS FALSE NEIGHBOUR: 'it returns false'. Refute it at one input. -/
def fnExactSetBoardWrong : ChangeSpec := { name := "fnExactSetBoard", fn := fun _ => fun
  | [d1, d2] => { results := [.lit (.bool false)], args := [d1, d2] }
  | _ => none }
def FnExactSetBoardWrongFalsely : Prop := fnExactSetBoardRow.holds Try.pinned (OpenSpec.ofChange fnExactSetBoardWrong)

/-- 'laws.FnExactIsPlain': WHATEVER THE INPUT: true; the input reads as it did. -/
def fnExactIsPlainSpec : ChangeSpec := { name := "fnExactIsPlain", fn := fun _ => fun
  | [d] => { results := [.lit (.bool true)], args := [d] }
  | _ => none }
def fnExactIsPlainRow : OpenClaim := { program := "ytmgegacgjppdbaa", sum := "48232e8c122acc1843ed273d2df8e40af52742c91495f64cf04ee34052d96bfa", func := "loop.example/g01006/laws.FnExactIsPlain", spec := "fnExactIsPlain", apart := false }
def FnExactIsPlainSaid : Prop := fnExactIsPlainRow.holds Try.pinned (OpenSpec.ofChange fnExactIsPlainSpec)

/-- ITS FALSE NEIGHBOUR: 'it returns false'. Refute it at one input. -/
def fnExactIsPlainWrong : ChangeSpec := { name := "fnExactIsPlain", fn := fun _ => fun
  | [d] => { results := [.lit (.bool false)], args := [d] }
  | _ => none }
def FnExactIsPlainWrongFalsely : Prop := fnExactIsPlainRow.holds Try.pinned (OpenSpec.ofChange fnExactIsPlainWrong)

/-- 'laws.FnExactCountersOn': WHATEVER THE INPUT: true; the input reads as it did. -/
def fnExactCountersOnSpec : ChangeSpec := { name := "fnExactCountersOn", fn := fun _ => fun
  | [d] => { results := [.lit (.bool true)], args := [d] }
  | _ => none }
def fnExactCountersOnRow : OpenClaim := { program := "ytmgegacgjppdbaa", sum := "48232e8c122acc1843ed273d2df8e40af52742c91495f64cf04ee34052d96bfa", func := "loop.example/g01006/laws.FnExactCountersOn", spec := "fnExactCountersOn", apart := false }
def FnExactCountersOnSaid : Prop := fnExactCountersOnRow.holds Try.pinned (OpenSpec.ofChange fnExactCountersOnSpec)

/-- ITS FALSE NEIGHBOUR: 'it returns false'. Refute it at one input. -/
def fnExactCountersOnWrong : ChangeSpec := { name := "fnExactCountersOn", fn := fun _ => fun
  | [d] => { results := [.lit (.bool false)], args := [d] }
  | _ => none }
def FnExactCountersOnWrongFalsely : Prop := fnExactCountersOnRow.holds Try.pinned (OpenSpec.ofChange fnExactCountersOnWrong)

/-- 'laws.FnExactBoardValue': WHATEVER THE INPUT: true; the input reads as it did. -/
def fnExactBoardValueSpec : ChangeSpec := { name := "fnExactBoardValue", fn := fun _ => fun
  | [d] => { results := [.lit (.bool true)], args := [d] }
  | _ => none }
def fnExactBoardValueRow : OpenClaim := { program := "ytmgegacgjppdbaa", sum := "48232e8c122acc1843ed273d2df8e40af52742c91495f64cf04ee34052d96bfa", func := "loop.example/g01006/laws.FnExactBoardValue", spec := "fnExactBoardValue", apart := false }
def FnExactBoardValueSaid : Prop := fnExactBoardValueRow.holds Try.pinned (OpenSpec.ofChange fnExactBoardValueSpec)

/-- ITS FALSE NEIGHBOUR: 'it returns false'. Refute it at one input. -/
def fnExactBoardValueWrong : ChangeSpec := { name := "fnExactBoardValue", fn := fun _ => fun
  | [d] => { results := [.lit (.bool false)], args := [d] }
  | _ => none }
def FnExactBoardValueWrongFalsely : Prop := fnExactBoardValueRow.holds Try.pinned (OpenSpec.ofChange fnExactBoardValueWrong)

/-- 'laws.FnExactBoardText': WHATEVER THE INPUT: true; the input reads as it did. -/
def fnExactBoardTextSpec : ChangeSpec := { name := "fnExactBoardText", fn := fun _ => fun
  | [d] => { results := [.lit (.bool true)], args := [d] }
  | _ => none }
def fnExactBoardTextRow : OpenClaim := { program := "ytmgegacgjppdbaa", sum := "48232e8c122acc1843ed273d2df8e40af52742c91495f64cf04ee34052d96bfa", func := "loop.example/g01006/laws.FnExactBoardText", spec := "fnExactBoardText", recurses := true, apart := false }
def FnExactBoardTextSaid : Prop := fnExactBoardTextRow.holds Try.pinned (OpenSpec.ofChange fnExactBoardTextSpec)

/-- ITS FALSE NEIGHBOUR: 'it returns false'. Refute it at one input. -/
def fnExactBoardTextWrong : ChangeSpec := { name := "fnExactBoardText", fn := fun _ => fun
  | [d] => { results := [.lit (.bool false)], args := [d] }
  | _ => none }
def FnExactBoardTextWrongFalsely : Prop := fnExactBoardTextRow.holds Try.pinned (OpenSpec.ofChange fnExactBoardTextWrong)

/-- 'laws.FnExactJoinBoards': WHATEVER THE INPUT: true; the input reads as it did. -/
def fnExactJoinBoardsSpec : ChangeSpec := { name := "fnExactJoinBoards", fn := fun _ => fun
  | [d1, d2] => { results := [.lit (.bool true)], args := [d1, d2] }
  | _ => none }
def fnExactJoinBoardsRow : OpenClaim := { program := "ytmgegacgjppdbaa", sum := "48232e8c122acc1843ed273d2df8e40af52742c91495f64cf04ee34052d96bfa", func := "loop.example/g01006/laws.FnExactJoinBoards", spec := "fnExactJoinBoards", apart := false }
def FnExactJoinBoardsSaid : Prop := fnExactJoinBoardsRow.holds Try.pinned (OpenSpec.ofChange fnExactJoinBoardsSpec)

/-- ITS FALSE NEIGHBOUR: 'it returns false'. Refute it at one input. -/
def fnExactJoinBoardsWrong : ChangeSpec := { name := "fnExactJoinBoards", fn := fun _ => fun
  | [d1, d2] => { results := [.lit (.bool false)], args := [d1, d2] }
  | _ => none }
def FnExactJoinBoardsWrongFalsely : Prop := fnExactJoinBoardsRow.holds Try.pinned (OpenSpec.ofChange fnExactJoinBoardsWrong)

/-- 'laws.FnExactTakeAway': WHATEVER THE INPUT: true; the input reads as it did. -/
def fnExactTakeAwaySpec : ChangeSpec := { name := "fnExactTakeAway", fn := fun _ => fun
  | [d1, d2] => { results := [.lit (.bool true)], args := [d1, d2] }
  | _ => none }
def fnExactTakeAwayRow : OpenClaim := { program := "ytmgegacgjppdbaa", sum := "48232e8c122acc1843ed273d2df8e40af52742c91495f64cf04ee34052d96bfa", func := "loop.example/g01006/laws.FnExactTakeAway", spec := "fnExactTakeAway", apart := false }
def FnExactTakeAwaySaid : Prop := fnExactTakeAwayRow.holds Try.pinned (OpenSpec.ofChange fnExactTakeAwaySpec)

/-- ITS FALSE NEIGHBOUR: 'it returns false'. Refute it at one input. -/
def fnExactTakeAwayWrong : ChangeSpec := { name := "fnExactTakeAway", fn := fun _ => fun
  | [d1, d2] => { results := [.lit (.bool false)], args := [d1, d2] }
  | _ => none }
def FnExactTakeAwayWrongFalsely : Prop := fnExactTakeAwayRow.holds Try.pinned (OpenSpec.ofChange fnExactTakeAwayWrong)

/-- 'laws.FnExactBorrowAt': WHATEVER THE INPUT: true; the input reads as it did. -/
def fnExactBorrowAtSpec : ChangeSpec := { name := "fnExactBorrowAt", fn := fun _ => fun
  | [d1, d2, d3] => { results := [.lit (.bool true)], args := [d1, d2, d3] }
  | _ => none }
def fnExactBorrowAtRow : OpenClaim := { program := "ytmgegacgjppdbaa", sum := "48232e8c122acc1843ed273d2df8e40af52742c91495f64cf04ee34052d96bfa", func := "loop.example/g01006/laws.FnExactBorrowAt", spec := "fnExactBorrowAt", apart := false }
def FnExactBorrowAtSaid : Prop := fnExactBorrowAtRow.holds Try.pinned (OpenSpec.ofChange fnExactBorrowAtSpec)

/-- ITS FALSE NEIGHBOUR: 'it returns false'. Refute it at one input. -/
def fnExactBorrowAtWrong : ChangeSpec := { name := "fnExactBorrowAt", fn := fun _ => fun
  | [d1, d2, d3] => { results := [.lit (.bool false)], args := [d1, d2, d3] }
  | _ => none }
def FnExactBorrowAtWrongFalsely : Prop := fnExactBorrowAtRow.holds Try.pinned (OpenSpec.ofChange fnExactBorrowAtWrong)

/-- 'laws.FnExactCarryAt': WHATEVER THE INPUT: true; the input reads as it did. -/
def fnExactCarryAtSpec : ChangeSpec := { name := "fnExactCarryAt", fn := fun _ => fun
  | [d1, d2, d3] => { results := [.lit (.bool true)], args := [d1, d2, d3] }
  | _ => none }
def fnExactCarryAtRow : OpenClaim := { program := "ytmgegacgjppdbaa", sum := "48232e8c122acc1843ed273d2df8e40af52742c91495f64cf04ee34052d96bfa", func := "loop.example/g01006/laws.FnExactCarryAt", spec := "fnExactCarryAt", apart := false }
def FnExactCarryAtSaid : Prop := fnExactCarryAtRow.holds Try.pinned (OpenSpec.ofChange fnExactCarryAtSpec)

/-- ITS FALSE NEIGHBOUR: 'it returns false'. Refute it at one input. -/
def fnExactCarryAtWrong : ChangeSpec := { name := "fnExactCarryAt", fn := fun _ => fun
  | [d1, d2, d3] => { results := [.lit (.bool false)], args := [d1, d2, d3] }
  | _ => none }
def FnExactCarryAtWrongFalsely : Prop := fnExactCarryAtRow.holds Try.pinned (OpenSpec.ofChange fnExactCarryAtWrong)

/-- 'laws.FnExactPlainBoard': WHATEVER THE INPUT: true; the input reads as it did. -/
def fnExactPlainBoardSpec : ChangeSpec := { name := "fnExactPlainBoard", fn := fun _ => fun
  | [d] => { results := [.lit (.bool true)], args := [d] }
  | _ => none }
def fnExactPlainBoardRow : OpenClaim := { program := "ytmgegacgjppdbaa", sum := "48232e8c122acc1843ed273d2df8e40af52742c91495f64cf04ee34052d96bfa", func := "loop.example/g01006/laws.FnExactPlainBoard", spec := "fnExactPlainBoard", apart := false }
def FnExactPlainBoardSaid : Prop := fnExactPlainBoardRow.holds Try.pinned (OpenSpec.ofChange fnExactPlainBoardSpec)

/-- ITS FALSE NEIGHBOUR: 'it returns false'. Refute it at one input. -/
def fnExactPlainBoardWrong : ChangeSpec := { name := "fnExactPlainBoard", fn := fun _ => fun
  | [d] => { results := [.lit (.bool false)], args := [d] }
  | _ => none }
def FnExactPlainBoardWrongFalsely : Prop := fnExactPlainBoardRow.holds Try.pinned (OpenSpec.ofChange fnExactPlainBoardWrong)

/-- 'laws.FnPlain': WHATEVER THE INPUT: true; the input reads as it did. -/
def fnPlainSpec : ChangeSpec := { name := "fnPlain", fn := fun _ => fun
  | [d] => { results := [.lit (.bool true)], args := [d] }
  | _ => none }
def fnPlainRow : OpenClaim := { program := "ytmgegacgjppdbaa", sum := "48232e8c122acc1843ed273d2df8e40af52742c91495f64cf04ee34052d96bfa", func := "loop.example/g01006/laws.FnPlain", spec := "fnPlain", apart := false }
def FnPlainSaid : Prop := fnPlainRow.holds Try.pinned (OpenSpec.ofChange fnPlainSpec)

/-- ITS FALSE NEIGHBOUR: 'it returns false'. Refute it at one input. -/
def fnPlainWrong : ChangeSpec := { name := "fnPlain", fn := fun _ => fun
  | [d] => { results := [.lit (.bool false)], args := [d] }
  | _ => none }
def FnPlainWrongFalsely : Prop := fnPlainRow.holds Try.pinned (OpenSpec.ofChange fnPlainWrong)

/-- 'laws.FnBoards': WHATEVER THE INPUT: true; the input reads as it did. -/
def fnBoardsSpec : ChangeSpec := { name := "fnBoards", fn := fun _ => fun
  | [d] => { results := [.lit (.bool true)], args := [d] }
  | _ => none }
def fnBoardsRow : OpenClaim := { program := "ytmgegacgjppdbaa", sum := "48232e8c122acc1843ed273d2df8e40af52742c91495f64cf04ee34052d96bfa", func := "loop.example/g01006/laws.FnBoards", spec := "fnBoards", recurses := true, apart := false }
def FnBoardsSaid : Prop := fnBoardsRow.holds Try.pinned (OpenSpec.ofChange fnBoardsSpec)

/-- ITS FALSE NEIGHBOUR: 'it returns false'. Refute it at one input. -/
def fnBoardsWrong : ChangeSpec := { name := "fnBoards", fn := fun _ => fun
  | [d] => { results := [.lit (.bool false)], args := [d] }
  | _ => none }
def FnBoardsWrongFalsely : Prop := fnBoardsRow.holds Try.pinned (OpenSpec.ofChange fnBoardsWrong)

/- THE SECOND FORM. 'bulk': how many values and letters a reading holds, each counted each time it is reached (what is shared counts as often as it is met; a slice's spare places count too). A statement '..UptoSaid' is the law's where the arguments, and the package variables that the reading takes, are together of bulk at most 1048576: NARROWER than '..Said'. Prove '..Said' where nothing that the law and all that it calls make is longer than what came in: it says more and counts as full. Else prove '..UptoSaid'. A law counts once. -/
mutual
def uptoBulk {H : Type} : DataW H → Nat
  | .lit (.string bytes) => bytes.length + 1
  | .lit _ => 1
  | .nil => 1
  | .ptr d => uptoBulk d + 1
  | .slice elems spare => uptoBulkAll elems + uptoBulkAll spare + 1
  | .agg parts => uptoBulkAll parts + 1
  | .iface _ d => uptoBulk d + 1
  | .map entries => uptoBulkEntries entries + 1
  | .held _ => 1
def uptoBulkAll {H : Type} : List (DataW H) → Nat
  | [] => 0
  | d :: r => uptoBulk d + uptoBulkAll r
def uptoBulkEntries {H : Type} : List (Lit × DataW H) → Nat
  | [] => 0
  | x :: r => uptoBulkEntry x + uptoBulkEntries r
def uptoBulkEntry {H : Type} : Lit × DataW H → Nat
  | (.string bytes, d) => bytes.length + uptoBulk d + 1
  | (_, d) => uptoBulk d + 1
 end
def uptoSmall : (H : Type) → List (DataW H) → Bool := fun _ ds => decide (uptoBulkAll ds ≤ 1048576)
def OpenSpec.upto (s : _root_.Go.ChangeSpec) : _root_.Go.OpenSpec := { _root_.Go.OpenSpec.ofChange s with cond := some uptoSmall }

/-- 'laws.FnExactIsBoard', WHERE WHAT IT READS IS OF BULK AT MOST 1048576: true; the input reads as it did. -/
def fnExactIsBoardUptoRow : OpenClaim := { program := "ytmgegacgjppdbaa", sum := "48232e8c122acc1843ed273d2df8e40af52742c91495f64cf04ee34052d96bfa", func := "loop.example/g01006/laws.FnExactIsBoard", spec := "fnExactIsBoard", apart := false, narrowed := true }
def FnExactIsBoardUptoSaid : Prop := fnExactIsBoardUptoRow.holds Try.pinned (OpenSpec.upto fnExactIsBoardSpec)

/-- 'laws.FnExactSetBoard', WHERE WHAT IT READS IS OF BULK AT MOST 1048576: true; the input reads as it did. -/
def fnExactSetBoardUptoRow : OpenClaim := { program := "ytmgegacgjppdbaa", sum := "48232e8c122acc1843ed273d2df8e40af52742c91495f64cf04ee34052d96bfa", func := "loop.example/g01006/laws.FnExactSetBoard", spec := "fnExactSetBoard", apart := false, narrowed := true }
def FnExactSetBoardUptoSaid : Prop := fnExactSetBoardUptoRow.holds Try.pinned (OpenSpec.upto fnExactSetBoardSpec)

/-- 'laws.FnExactIsPlain', WHERE WHAT IT READS IS OF BULK AT MOST 1048576: true; the input reads as it did. -/
def fnExactIsPlainUptoRow : OpenClaim := { program := "ytmgegacgjppdbaa", sum := "48232e8c122acc1843ed273d2df8e40af52742c91495f64cf04ee34052d96bfa", func := "loop.example/g01006/laws.FnExactIsPlain", spec := "fnExactIsPlain", apart := false, narrowed := true }
def FnExactIsPlainUptoSaid : Prop := fnExactIsPlainUptoRow.holds Try.pinned (OpenSpec.upto fnExactIsPlainSpec)

/-- 'laws.FnExactCountersOn', WHERE WHAT IT READS IS OF BULK AT MOST 1048576: true; the input reads as it did. -/
def fnExactCountersOnUptoRow : OpenClaim := { program := "ytmgegacgjppdbaa", sum := "48232e8c122acc1843ed273d2df8e40af52742c91495f64cf04ee34052d96bfa", func := "loop.example/g01006/laws.FnExactCountersOn", spec := "fnExactCountersOn", apart := false, narrowed := true }
def FnExactCountersOnUptoSaid : Prop := fnExactCountersOnUptoRow.holds Try.pinned (OpenSpec.upto fnExactCountersOnSpec)

/-- 'laws.FnExactBoardValue', WHERE WHAT IT READS IS OF BULK AT MOST 1048576: true; the input reads as it did. -/
def fnExactBoardValueUptoRow : OpenClaim := { program := "ytmgegacgjppdbaa", sum := "48232e8c122acc1843ed273d2df8e40af52742c91495f64cf04ee34052d96bfa", func := "loop.example/g01006/laws.FnExactBoardValue", spec := "fnExactBoardValue", apart := false, narrowed := true }
def FnExactBoardValueUptoSaid : Prop := fnExactBoardValueUptoRow.holds Try.pinned (OpenSpec.upto fnExactBoardValueSpec)

/-- 'laws.FnExactBoardText', WHERE WHAT IT READS IS OF BULK AT MOST 1048576: true; the input reads as it did. -/
def fnExactBoardTextUptoRow : OpenClaim := { program := "ytmgegacgjppdbaa", sum := "48232e8c122acc1843ed273d2df8e40af52742c91495f64cf04ee34052d96bfa", func := "loop.example/g01006/laws.FnExactBoardText", spec := "fnExactBoardText", recurses := true, apart := false, narrowed := true }
def FnExactBoardTextUptoSaid : Prop := fnExactBoardTextUptoRow.holds Try.pinned (OpenSpec.upto fnExactBoardTextSpec)

/-- 'laws.FnExactJoinBoards', WHERE WHAT IT READS IS OF BULK AT MOST 1048576: true; the input reads as it did. -/
def fnExactJoinBoardsUptoRow : OpenClaim := { program := "ytmgegacgjppdbaa", sum := "48232e8c122acc1843ed273d2df8e40af52742c91495f64cf04ee34052d96bfa", func := "loop.example/g01006/laws.FnExactJoinBoards", spec := "fnExactJoinBoards", apart := false, narrowed := true }
def FnExactJoinBoardsUptoSaid : Prop := fnExactJoinBoardsUptoRow.holds Try.pinned (OpenSpec.upto fnExactJoinBoardsSpec)

/-- 'laws.FnExactTakeAway', WHERE WHAT IT READS IS OF BULK AT MOST 1048576: true; the input reads as it did. -/
def fnExactTakeAwayUptoRow : OpenClaim := { program := "ytmgegacgjppdbaa", sum := "48232e8c122acc1843ed273d2df8e40af52742c91495f64cf04ee34052d96bfa", func := "loop.example/g01006/laws.FnExactTakeAway", spec := "fnExactTakeAway", apart := false, narrowed := true }
def FnExactTakeAwayUptoSaid : Prop := fnExactTakeAwayUptoRow.holds Try.pinned (OpenSpec.upto fnExactTakeAwaySpec)

/-- 'laws.FnExactBorrowAt', WHERE WHAT IT READS IS OF BULK AT MOST 1048576: true; the input reads as it did. -/
def fnExactBorrowAtUptoRow : OpenClaim := { program := "ytmgegacgjppdbaa", sum := "48232e8c122acc1843ed273d2df8e40af52742c91495f64cf04ee34052d96bfa", func := "loop.example/g01006/laws.FnExactBorrowAt", spec := "fnExactBorrowAt", apart := false, narrowed := true }
def FnExactBorrowAtUptoSaid : Prop := fnExactBorrowAtUptoRow.holds Try.pinned (OpenSpec.upto fnExactBorrowAtSpec)

/-- 'laws.FnExactCarryAt', WHERE WHAT IT READS IS OF BULK AT MOST 1048576: true; the input reads as it did. -/
def fnExactCarryAtUptoRow : OpenClaim := { program := "ytmgegacgjppdbaa", sum := "48232e8c122acc1843ed273d2df8e40af52742c91495f64cf04ee34052d96bfa", func := "loop.example/g01006/laws.FnExactCarryAt", spec := "fnExactCarryAt", apart := false, narrowed := true }
def FnExactCarryAtUptoSaid : Prop := fnExactCarryAtUptoRow.holds Try.pinned (OpenSpec.upto fnExactCarryAtSpec)

/-- 'laws.FnExactPlainBoard', WHERE WHAT IT READS IS OF BULK AT MOST 1048576: true; the input reads as it did. -/
def fnExactPlainBoardUptoRow : OpenClaim := { program := "ytmgegacgjppdbaa", sum := "48232e8c122acc1843ed273d2df8e40af52742c91495f64cf04ee34052d96bfa", func := "loop.example/g01006/laws.FnExactPlainBoard", spec := "fnExactPlainBoard", apart := false, narrowed := true }
def FnExactPlainBoardUptoSaid : Prop := fnExactPlainBoardUptoRow.holds Try.pinned (OpenSpec.upto fnExactPlainBoardSpec)

/-- 'laws.FnPlain', WHERE WHAT IT READS IS OF BULK AT MOST 1048576: true; the input reads as it did. -/
def fnPlainUptoRow : OpenClaim := { program := "ytmgegacgjppdbaa", sum := "48232e8c122acc1843ed273d2df8e40af52742c91495f64cf04ee34052d96bfa", func := "loop.example/g01006/laws.FnPlain", spec := "fnPlain", apart := false, narrowed := true }
def FnPlainUptoSaid : Prop := fnPlainUptoRow.holds Try.pinned (OpenSpec.upto fnPlainSpec)

/-- 'laws.FnBoards', WHERE WHAT IT READS IS OF BULK AT MOST 1048576: true; the input reads as it did. -/
def fnBoardsUptoRow : OpenClaim := { program := "ytmgegacgjppdbaa", sum := "48232e8c122acc1843ed273d2df8e40af52742c91495f64cf04ee34052d96bfa", func := "loop.example/g01006/laws.FnBoards", spec := "fnBoards", recurses := true, apart := false, narrowed := true }
def FnBoardsUptoSaid : Prop := fnBoardsUptoRow.holds Try.pinned (OpenSpec.upto fnBoardsSpec)

end Rows
end Go.Proofs.Ytmgegacgjppdbaa
