/- Closed facts of the card. -/
import Derived.Test.YtlfmgdpbjapdjaaGreatFmtBesafterCards
import Derived.SevenTiedAt
import Derived.KernelRfl
namespace Go.Proofs.YtlfmgdpbjapdjaaGreatFmtBesafter.exactBetween
open Go.Extern.Stop Go.Stop Go.Extern
theorem hin : Rows.exactBetweenRow.inPlace = Tryz.pinned.checked.prog.inPlace 3 := by kernel_rfl
end Go.Proofs.YtlfmgdpbjapdjaaGreatFmtBesafter.exactBetween
