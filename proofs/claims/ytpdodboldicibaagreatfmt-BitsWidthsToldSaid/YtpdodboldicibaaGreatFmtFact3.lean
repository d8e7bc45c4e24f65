/- Closed facts of the card of BitsWidths: each by the kernel alone. -/
import Derived.Test.YtpdodboldicibaaGreatFmtCards
import Derived.SevenTiedAt
import Derived.KernelRfl
namespace Go.Proofs.YtpdodboldicibaaGreatFmt.bitsWidths
open Go.Extern.Stop Go.Stop Go.Extern

theorem hrc : Rows.bitsWidthsRow.recurses = Tryz.pinned.checked.prog.recurses 3 := by kernel_rfl
end Go.Proofs.YtpdodboldicibaaGreatFmt.bitsWidths
