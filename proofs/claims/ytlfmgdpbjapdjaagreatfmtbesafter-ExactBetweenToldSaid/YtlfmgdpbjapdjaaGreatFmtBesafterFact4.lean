/- Closed facts of the card. -/
import Derived.Test.YtlfmgdpbjapdjaaGreatFmtBesafterCards
import Derived.SevenTiedAt
import Derived.KernelRfl
namespace Go.Proofs.YtlfmgdpbjapdjaaGreatFmtBesafter.exactBetween
open Go.Extern.Stop Go.Stop Go.Extern
theorem hvs : Rows.exactBetweenRow.named = Tryz.pinned.checked.prog.varsNamed 3 := by kernel_rfl
end Go.Proofs.YtlfmgdpbjapdjaaGreatFmtBesafter.exactBetween
