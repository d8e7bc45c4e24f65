/- Closed facts of the card of BitsWidths: each by the kernel alone. -/
import Derived.Test.YtpdodboldicibaaGreatFmtCards
import Derived.SevenTiedAt
import Derived.KernelRfl
namespace Go.Proofs.YtpdodboldicibaaGreatFmt.bitsWidths
open Go.Extern.Stop Go.Stop Go.Extern

theorem hgoes : Rows.bitsWidthsCard.goes = Rows.bitsWidthsRow.goesBy Tryz.pinned.checked.prog := by kernel_rfl
end Go.Proofs.YtpdodboldicibaaGreatFmt.bitsWidths
