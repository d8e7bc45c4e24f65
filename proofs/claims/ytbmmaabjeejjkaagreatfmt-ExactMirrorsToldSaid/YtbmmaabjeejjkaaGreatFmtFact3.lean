/- Closed facts of the card. -/
import Derived.Test.YtbmmaabjeejjkaaGreatFmtCards
import Derived.SevenTiedAt
import Derived.KernelRfl
namespace Go.Proofs.YtbmmaabjeejjkaaGreatFmt.exactMirrors
open Go.Extern.Stop Go.Stop Go.Extern
theorem hrc : Rows.exactMirrorsRow.recurses = Tryz.pinned.checked.prog.recurses 3 := by kernel_rfl
end Go.Proofs.YtbmmaabjeejjkaaGreatFmt.exactMirrors
