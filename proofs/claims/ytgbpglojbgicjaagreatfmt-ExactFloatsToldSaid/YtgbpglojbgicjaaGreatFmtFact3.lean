/- Closed facts of the card of ExactFloats: each by the kernel alone. -/
import Derived.Test.YtgbpglojbgicjaaGreatFmtCards
import Derived.SevenTiedAt
import Derived.KernelRfl
namespace Go.Proofs.YtgbpglojbgicjaaGreatFmt.exactFloats
open Go.Extern.Stop Go.Stop Go.Extern

theorem hrc : Rows.exactFloatsRow.recurses = Tryz.pinned.checked.prog.recurses 3 := by kernel_rfl
end Go.Proofs.YtgbpglojbgicjaaGreatFmt.exactFloats
