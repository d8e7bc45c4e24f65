/- Closed facts of the card of BitsWidths: each by the kernel alone. -/
import Derived.Test.YtpdodboldicibaaGreatFmtCards
import Derived.SevenTiedAt
import Derived.KernelRfl
namespace Go.Proofs.YtpdodboldicibaaGreatFmt.bitsWidths
open Go.Extern.Stop Go.Stop Go.Extern

theorem hw : Rows.bitsWidthsRow.wfByText (OpenSpec.ofChange Rows.bitsWidthsSpec) = true := by kernel_rfl
theorem hl : laidOutB Tryz.pinned.checked.prog = true := by kernel_rfl
theorem hmr : mapsRowed Tryz.pinned.checked.prog = true := by kernel_rfl
theorem htie : namedTie Tryz.pinned.checked.prog Rows.bitsWidthsRow.namedList (OpenSpec.ofChange Rows.bitsWidthsSpec).vars = true := by kernel_rfl
theorem hfn : Tryz.pinned.checked.prog.funcNamed Rows.bitsWidthsRow.func = some 3 := by kernel_rfl
theorem hr : (Tryz.f3.params.toList.all fun t => Tryz.pinned.checked.prog.readableRec t) = true := by kernel_rfl
theorem hinst : Tryz.f3.isInstance Tryz.pinned.checked.prog Rows.bitsWidthsRow.origin Rows.bitsWidthsRow.targs := of_decide_eq_true (by kernel_rfl)
theorem hwrap : Tryz.f3.isWrapper Tryz.pinned.checked.prog Rows.bitsWidthsRow.wrapper Rows.bitsWidthsRow.mainSum := by unfold Func.isWrapper; first | (rw [if_pos (by decide +kernel)]; kernel_rfl) | (rw [if_neg (by decide +kernel)]; exact ⟨rfl, rfl⟩)
theorem hstops : Rows.bitsWidthsRow.stops = Tryz.pinned.checked.prog.stops := by kernel_rfl
theorem hknobs : Rows.bitsWidthsRow.knobs = Tryz.pinned.checked.prog.stopKnobs := by kernel_rfl
theorem hword : Tryz.pinned.checked.prog.envWorded = true := by kernel_rfl
end Go.Proofs.YtpdodboldicibaaGreatFmt.bitsWidths
