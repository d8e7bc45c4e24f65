/- Closed facts of the card. -/
import Derived.Test.YtflhdplfkpdejaaGreatFmtCards
import Derived.SevenTiedAt
import Derived.KernelRfl
namespace Go.Proofs.YtflhdplfkpdejaaGreatFmt.exactOnes
open Go.Extern.Stop Go.Stop Go.Extern
theorem hgoes : Rows.exactOnesCard.goes = Rows.exactOnesRow.goesBy Tryz.pinned.checked.prog := by kernel_rfl
end Go.Proofs.YtflhdplfkpdejaaGreatFmt.exactOnes
