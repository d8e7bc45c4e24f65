/- Closed facts of the card. -/
import Derived.Test.YtlfmgdpbjapdjaaGreatFmtBesafterCards
import Derived.SevenTiedAt
import Derived.KernelRfl
namespace Go.Proofs.YtlfmgdpbjapdjaaGreatFmtBesafter.exactBetween
open Go.Extern.Stop Go.Stop Go.Extern
theorem hw : Rows.exactBetweenRow.wfByText (OpenSpec.ofChange Rows.exactBetweenSpec) = true := by kernel_rfl
theorem hl : laidOutB Tryz.pinned.checked.prog = true := by kernel_rfl
theorem hmr : mapsRowed Tryz.pinned.checked.prog = true := by kernel_rfl
theorem htie : namedTie Tryz.pinned.checked.prog Rows.exactBetweenRow.namedList (OpenSpec.ofChange Rows.exactBetweenSpec).vars = true := by kernel_rfl
theorem hfn : Tryz.pinned.checked.prog.funcNamed Rows.exactBetweenRow.func = some 3 := by kernel_rfl
theorem hr : (Tryz.f3.params.toList.all fun t => Tryz.pinned.checked.prog.readableRec t) = true := by kernel_rfl
theorem hinst : Tryz.f3.isInstance Tryz.pinned.checked.prog Rows.exactBetweenRow.origin Rows.exactBetweenRow.targs := of_decide_eq_true (by kernel_rfl)
theorem hwrap : Tryz.f3.isWrapper Tryz.pinned.checked.prog Rows.exactBetweenRow.wrapper Rows.exactBetweenRow.mainSum := by unfold Func.isWrapper; first | (rw [if_pos (by decide +kernel)]; kernel_rfl) | (rw [if_neg (by decide +kernel)]; exact ⟨rfl, rfl⟩)
theorem hstops : Rows.exactBetweenRow.stops = Tryz.pinned.checked.prog.stops := by kernel_rfl
theorem hknobs : Rows.exactBetweenRow.knobs = Tryz.pinned.checked.prog.stopKnobs := by kernel_rfl
theorem hword : Tryz.pinned.checked.prog.envWorded = true := by kernel_rfl
end Go.Proofs.YtlfmgdpbjapdjaaGreatFmtBesafter.exactBetween
