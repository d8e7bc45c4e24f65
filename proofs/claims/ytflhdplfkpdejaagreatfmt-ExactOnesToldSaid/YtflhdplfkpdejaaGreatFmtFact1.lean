/- Closed facts of the card. -/
import Derived.Test.YtflhdplfkpdejaaGreatFmtCards
import Derived.SevenTiedAt
import Derived.KernelRfl
namespace Go.Proofs.YtflhdplfkpdejaaGreatFmt.exactOnes
open Go.Extern.Stop Go.Stop Go.Extern
theorem hin : Rows.exactOnesRow.inPlace = Tryz.pinned.checked.prog.inPlace 3 := by kernel_rfl
end Go.Proofs.YtflhdplfkpdejaaGreatFmt.exactOnes
