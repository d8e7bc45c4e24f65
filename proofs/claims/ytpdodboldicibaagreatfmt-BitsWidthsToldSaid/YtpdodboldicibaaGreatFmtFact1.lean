/- Closed facts of the card of BitsWidths: each by the kernel alone. -/
import Derived.Test.YtpdodboldicibaaGreatFmtCards
import Derived.SevenTiedAt
import Derived.KernelRfl
namespace Go.Proofs.YtpdodboldicibaaGreatFmt.bitsWidths
open Go.Extern.Stop Go.Stop Go.Extern

theorem hin : Rows.bitsWidthsRow.inPlace = Tryz.pinned.checked.prog.inPlace 3 := by kernel_rfl
end Go.Proofs.YtpdodboldicibaaGreatFmt.bitsWidths
