/-
  Walks: a text cut at a byte, in the program and in the reference.
-/
import Derived.Test.YtfgnmjnlhnpmoaaProg
import Derived.Test.YtfgnmjnlhnpmoaaMath
import Derived.Test.YtfgnmjnlhnpmoaaKit
import Derived.BigQuiet
import Derived.WalkSpells
import Derived.WalkLawsBesides
namespace Go.Proofs.Ytfgnmjnlhnpmoaa.Spl
open Go.RowKit

theorem infoStr : (Try.prog.info? 9).map (fun i => (i.zero, i.size, i.bytes)) = some (some (.string ByteArray.empty), 1, 16) := by kernel_rfl


end Go.Proofs.Ytfgnmjnlhnpmoaa.Spl
