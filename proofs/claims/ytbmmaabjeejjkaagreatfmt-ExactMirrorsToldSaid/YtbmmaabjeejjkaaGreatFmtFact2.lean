/- Closed facts of the card. -/
import Derived.Test.YtbmmaabjeejjkaaGreatFmtCards
import Derived.SevenTiedAt
import Derived.KernelRfl
namespace Go.Proofs.YtbmmaabjeejjkaaGreatFmt.exactMirrors
open Go.Extern.Stop Go.Stop Go.Extern
theorem hop : Rows.exactMirrorsRow.unfollowed = Tryz.pinned.checked.prog.unfollowed 3 := by kernel_rfl
end Go.Proofs.YtbmmaabjeejjkaaGreatFmt.exactMirrors
