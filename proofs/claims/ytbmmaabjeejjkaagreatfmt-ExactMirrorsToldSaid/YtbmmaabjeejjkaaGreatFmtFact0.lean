/- Closed facts of the card. -/
import Derived.Test.YtbmmaabjeejjkaaGreatFmtCards
import Derived.SevenTiedAt
import Derived.KernelRfl
namespace Go.Proofs.YtbmmaabjeejjkaaGreatFmt.exactMirrors
open Go.Extern.Stop Go.Stop Go.Extern
theorem hw : Rows.exactMirrorsRow.wfByText (OpenSpec.ofChange Rows.exactMirrorsSpec) = true := by kernel_rfl
theorem hl : laidOutB Tryz.pinned.checked.prog = true := by kernel_rfl
theorem hmr : mapsRowed Tryz.pinned.checked.prog = true := by kernel_rfl
theorem htie : namedTie Tryz.pinned.checked.prog Rows.exactMirrorsRow.namedList (OpenSpec.ofChange Rows.exactMirrorsSpec).vars = true := by kernel_rfl
theorem hfn : Tryz.pinned.checked.prog.funcNamed Rows.exactMirrorsRow.func = some 3 := by kernel_rfl
theorem hr : (Tryz.f3.params.toList.all fun t => Tryz.pinned.checked.prog.readableRec t) = true := by kernel_rfl
theorem hinst : Tryz.f3.isInstance Tryz.pinned.checked.prog Rows.exactMirrorsRow.origin Rows.exactMirrorsRow.targs := of_decide_eq_true (by kernel_rfl)
theorem hwrap : Tryz.f3.isWrapper Tryz.pinned.checked.prog Rows.exactMirrorsRow.wrapper Rows.exactMirrorsRow.mainSum := by unfold Func.isWrapper; first | (rw [if_pos (by decide +kernel)]; kernel_rfl) | (rw [if_neg (by decide +kernel)]; exact ⟨rfl, rfl⟩)
theorem hstops : Rows.exactMirrorsRow.stops = Tryz.pinned.checked.prog.stops := by kernel_rfl
theorem hknobs : Rows.exactMirrorsRow.knobs = Tryz.pinned.checked.prog.stopKnobs := by kernel_rfl
theorem hword : Tryz.pinned.checked.prog.envWorded = true := by kernel_rfl
end Go.Proofs.YtbmmaabjeejjkaaGreatFmt.exactMirrors
