/-
  Walks: a text cut at a byte, in the program and in the reference.
-/
import Derived.Test.YtmgegacgjppdbaaProg
import Derived.Test.YtmgegacgjppdbaaMath
import Derived.Test.YtmgegacgjppdbaaKit
import Derived.BigQuiet
import Derived.WalkSpells
import Derived.WalkLawsBesides
namespace Go.Proofs.Ytmgegacgjppdbaa.Spl
open Go.RowKit

theorem infoStr : (Try.prog.info? 9).map (fun i => (i.zero, i.size, i.bytes)) = some (some (.string ByteArray.empty), 1, 16) := by kernel_rfl


end Go.Proofs.Ytmgegacgjppdbaa.Spl
