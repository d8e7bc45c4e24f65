/- Closed facts of the card of ExactFloats: each by the kernel alone. -/
import Derived.Test.YtgbpglojbgicjaaGreatFmtCards
import Derived.SevenTiedAt
import Derived.KernelRfl
namespace Go.Proofs.YtgbpglojbgicjaaGreatFmt.exactFloats
open Go.Extern.Stop Go.Stop Go.Extern

theorem m2 : Tryz.pinned.checked.prog.mayEnter = true := by kernel_rfl
theorem m4 : (Tryz.f3.resultTypes.toList.all fun t => Tryz.pinned.checked.prog.readableRec t && decide (t < Tryz.pinned.checked.prog.types.size)) = true := by kernel_rfl
theorem m5 : Tryz.pinned.checked.prog.stopsHeard = true := by kernel_rfl
theorem m6 : Rows.exactFloatsRow.ifacesOut = Tryz.f3.resultTypes.toList.any (Tryz.pinned.checked.prog.ifacesRec ·) := by kernel_rfl
theorem m7 : Rows.exactFloatsRow.loopsOut = Tryz.f3.resultTypes.toList.any (Tryz.pinned.checked.prog.loopsFrom ·) := by kernel_rfl
theorem m8 : Rows.exactFloatsRow.kinds = (if Rows.exactFloatsRow.domain.isEmpty then [] else Tryz.f3.params.toList.map fun t => match Tryz.pinned.checked.prog.underlying t with | some (.int k) => some k | _ => none) := by kernel_rfl
theorem m9 : Rows.exactFloatsRow.pinned = Rows.exactFloatsRow.pinnedBy := by kernel_rfl
theorem m10 : Rows.exactFloatsRow.plainKeys = Tryz.pinned.checked.prog.plainKeys := by kernel_rfl
theorem m11 : Rows.exactFloatsRow.lifted = Tryz.pinned.checked.prog.liftsFinal := by kernel_rfl
theorem m12 : Tryz.pinned.checked.prog.make = some Rows.exactFloatsRow.make := by kernel_rfl
theorem v1 : Rows.exactFloatsRow.veiled = (Tryz.f3.params.toList ++ (OpenSpec.ofChange Rows.exactFloatsSpec).bare.plain.varTypes Tryz.pinned.checked.prog ++ Tryz.f3.resultTypes.toList).any (Tryz.pinned.checked.prog.veiledRec ·) := by kernel_rfl
theorem v2 : Rows.exactFloatsRow.veiledFits Tryz.pinned.checked.prog Tryz.f3.params.toList (Tryz.f3.params.toList ++ (OpenSpec.ofChange Rows.exactFloatsSpec).bare.plain.varTypes Tryz.pinned.checked.prog ++ Tryz.f3.resultTypes.toList) = true := by kernel_rfl
end Go.Proofs.YtgbpglojbgicjaaGreatFmt.exactFloats
