/- Closed facts of the card. -/
import Derived.Test.YtlfmgdpbjapdjaaGreatFmtBesafterCards
import Derived.SevenTiedAt
import Derived.KernelRfl
namespace Go.Proofs.YtlfmgdpbjapdjaaGreatFmtBesafter.exactBetween
open Go.Extern.Stop Go.Stop Go.Extern
theorem hmp : Rows.exactBetweenRow.maps = (Tryz.f3.params.toList ++ (OpenSpec.ofChange Rows.exactBetweenSpec).bare.plain.varTypes Tryz.pinned.checked.prog).any (Tryz.pinned.checked.prog.mapsRec ·) := by kernel_rfl
theorem hif : Rows.exactBetweenRow.ifaces = (Tryz.f3.params.toList ++ (OpenSpec.ofChange Rows.exactBetweenSpec).bare.plain.varTypes Tryz.pinned.checked.prog).any (Tryz.pinned.checked.prog.ifacesRec ·) := by kernel_rfl
theorem hmo : Rows.exactBetweenRow.mapsOut = Tryz.pinned.checked.prog.mapsAmong Tryz.f3.resultTypes.toList := by kernel_rfl
theorem hlo : Rows.exactBetweenRow.loops = (Tryz.f3.params.toList ++ (OpenSpec.ofChange Rows.exactBetweenSpec).bare.plain.varTypes Tryz.pinned.checked.prog).any (Tryz.pinned.checked.prog.loopsFrom ·) := by kernel_rfl
theorem hwk : Rows.exactBetweenRow.wideKeys = (Tryz.f3.params.toList ++ (OpenSpec.ofChange Rows.exactBetweenSpec).bare.plain.varTypes Tryz.pinned.checked.prog ++ Tryz.f3.resultTypes.toList).any (Tryz.pinned.checked.prog.wideKeysFrom ·) := by kernel_rfl
theorem hvars : ((OpenSpec.ofChange Rows.exactBetweenSpec).vars.all fun n => Tryz.pinned.checked.prog.varReadable n) = true := by kernel_rfl
theorem hmain : Tryz.pinned.checked.prog.mainIs = some (Rows.exactBetweenCard.stood.harness.1, Rows.exactBetweenCard.stood.harness.2.toList) := by kernel_rfl
theorem hlooks : Rows.exactBetweenCard.stood.looks = Tryz.pinned.checked.prog.looks [] := by kernel_rfl
theorem hfun : (Tryz.f3.params.toList.all fun t => !Tryz.pinned.checked.prog.wantsStandIn t) = true := by kernel_rfl
end Go.Proofs.YtlfmgdpbjapdjaaGreatFmtBesafter.exactBetween
