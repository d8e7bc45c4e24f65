/- Closed facts of the card. -/
import Derived.Test.YtbmmaabjeejjkaaGreatFmtCards
import Derived.SevenTiedAt
import Derived.KernelRfl
namespace Go.Proofs.YtbmmaabjeejjkaaGreatFmt.exactMirrors
open Go.Extern.Stop Go.Stop Go.Extern
theorem hin : Rows.exactMirrorsRow.inPlace = Tryz.pinned.checked.prog.inPlace 3 := by kernel_rfl
end Go.Proofs.YtbmmaabjeejjkaaGreatFmt.exactMirrors
