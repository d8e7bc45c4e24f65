/- Closed facts of the card. -/
import Derived.Test.YtflhdplfkpdejaaGreatFmtCards
import Derived.SevenTiedAt
import Derived.KernelRfl
namespace Go.Proofs.YtflhdplfkpdejaaGreatFmt.exactOnes
open Go.Extern.Stop Go.Stop Go.Extern
theorem hvs : Rows.exactOnesRow.named = Tryz.pinned.checked.prog.varsNamed 3 := by kernel_rfl
end Go.Proofs.YtflhdplfkpdejaaGreatFmt.exactOnes
