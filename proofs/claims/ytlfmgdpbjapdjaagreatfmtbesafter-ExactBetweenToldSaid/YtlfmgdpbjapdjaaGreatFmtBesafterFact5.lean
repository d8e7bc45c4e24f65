/- Closed facts of the card. -/
import Derived.Test.YtlfmgdpbjapdjaaGreatFmtBesafterCards
import Derived.SevenTiedAt
import Derived.KernelRfl
namespace Go.Proofs.YtlfmgdpbjapdjaaGreatFmtBesafter.exactBetween
open Go.Extern.Stop Go.Stop Go.Extern
theorem hgoes : Rows.exactBetweenCard.goes = Rows.exactBetweenRow.goesBy Tryz.pinned.checked.prog := by kernel_rfl
end Go.Proofs.YtlfmgdpbjapdjaaGreatFmtBesafter.exactBetween
