/- Closed facts of the card of ExactFloats: each by the kernel alone. -/
import Derived.Test.YtgbpglojbgicjaaGreatFmtCards
import Derived.SevenTiedAt
import Derived.KernelRfl
namespace Go.Proofs.YtgbpglojbgicjaaGreatFmt.exactFloats
open Go.Extern.Stop Go.Stop Go.Extern

theorem hin : Rows.exactFloatsRow.inPlace = Tryz.pinned.checked.prog.inPlace 3 := by kernel_rfl
end Go.Proofs.YtgbpglojbgicjaaGreatFmt.exactFloats
