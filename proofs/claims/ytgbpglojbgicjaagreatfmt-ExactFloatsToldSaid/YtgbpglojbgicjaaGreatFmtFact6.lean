/- Closed facts of the card of ExactFloats: each by the kernel alone. -/
import Derived.Test.YtgbpglojbgicjaaGreatFmtCards
import Derived.SevenTiedAt
import Derived.KernelRfl
namespace Go.Proofs.YtgbpglojbgicjaaGreatFmt.exactFloats
open Go.Extern.Stop Go.Stop Go.Extern

theorem hmp : Rows.exactFloatsRow.maps = (Tryz.f3.params.toList ++ (OpenSpec.ofChange Rows.exactFloatsSpec).bare.plain.varTypes Tryz.pinned.checked.prog).any (Tryz.pinned.checked.prog.mapsRec ·) := by kernel_rfl
theorem hif : Rows.exactFloatsRow.ifaces = (Tryz.f3.params.toList ++ (OpenSpec.ofChange Rows.exactFloatsSpec).bare.plain.varTypes Tryz.pinned.checked.prog).any (Tryz.pinned.checked.prog.ifacesRec ·) := by kernel_rfl
theorem hmo : Rows.exactFloatsRow.mapsOut = Tryz.pinned.checked.prog.mapsAmong Tryz.f3.resultTypes.toList := by kernel_rfl
theorem hlo : Rows.exactFloatsRow.loops = (Tryz.f3.params.toList ++ (OpenSpec.ofChange Rows.exactFloatsSpec).bare.plain.varTypes Tryz.pinned.checked.prog).any (Tryz.pinned.checked.prog.loopsFrom ·) := by kernel_rfl
theorem hwk : Rows.exactFloatsRow.wideKeys = (Tryz.f3.params.toList ++ (OpenSpec.ofChange Rows.exactFloatsSpec).bare.plain.varTypes Tryz.pinned.checked.prog ++ Tryz.f3.resultTypes.toList).any (Tryz.pinned.checked.prog.wideKeysFrom ·) := by kernel_rfl
theorem hvars : ((OpenSpec.ofChange Rows.exactFloatsSpec).vars.all fun n => Tryz.pinned.checked.prog.varReadable n) = true := by kernel_rfl
theorem hmain : Tryz.pinned.checked.prog.mainIs = some (Rows.exactFloatsCard.stood.harness.1, Rows.exactFloatsCard.stood.harness.2.toList) := by kernel_rfl
theorem hlooks : Rows.exactFloatsCard.stood.looks = Tryz.pinned.checked.prog.looks [] := by kernel_rfl
theorem hfun : (Tryz.f3.params.toList.all fun t => !Tryz.pinned.checked.prog.wantsStandIn t) = true := by kernel_rfl
end Go.Proofs.YtgbpglojbgicjaaGreatFmt.exactFloats
