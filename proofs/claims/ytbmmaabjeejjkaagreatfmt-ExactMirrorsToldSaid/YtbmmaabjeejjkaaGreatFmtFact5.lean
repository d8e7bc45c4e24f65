/- Closed facts of the card. -/
import Derived.Test.YtbmmaabjeejjkaaGreatFmtCards
import Derived.SevenTiedAt
import Derived.KernelRfl
namespace Go.Proofs.YtbmmaabjeejjkaaGreatFmt.exactMirrors
open Go.Extern.Stop Go.Stop Go.Extern
theorem hgoes : Rows.exactMirrorsCard.goes = Rows.exactMirrorsRow.goesBy Tryz.pinned.checked.prog := by kernel_rfl
end Go.Proofs.YtbmmaabjeejjkaaGreatFmt.exactMirrors
