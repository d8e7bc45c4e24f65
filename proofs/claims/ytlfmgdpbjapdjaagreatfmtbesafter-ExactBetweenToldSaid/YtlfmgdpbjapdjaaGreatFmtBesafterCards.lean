/-
  DERIVED. GIVEN WITH THE SEED: THE CARDS: each row of YtlfmgdpbjapdjaaGreatFmtBesafterRows.lean that lists a variable, with what it lists TIED to the program's text (the seventh form; the later family's looks); each row that meets fmt, with fmt's text TOLD by the authors' own Lean function (tested against real Go, not proved from fmt's source: count such statements apart). THE CARD IS WHAT COUNTS. Prove the row's statement (the work); the ties are given (YtlfmgdpbjapdjaaGreatFmtBesafterTie.lean); close each card by the builder's one call (the guide's Derived/Test/ToyasCard.lean, 'card_holds'). Laid BY PROGRAM, IN A SANDBOX (cutbox-door.mjs). By AI agents, Wed Nov 11 2026. No macro, syntax, notation, axiom, sorry.
-/
import Derived.Test.YtlfmgdpbjapdjaaGreatFmtBesafterRows
import GoSem.ClaimSeven
namespace Go.Proofs.YtlfmgdpbjapdjaaGreatFmtBesafter
namespace Rows

/-- THE TOLD AND TIED CARD OF 'pupillaw2.ExactBetween'. -/
def exactBetweenCard : Claim7 := { stood := { row := exactBetweenRow, standIns := [], harness := (true, "46e29b377c7a806441196a779f76219f02036654a7460410a4cd10f7cae62b5a"), looks := true }, told := true, laidByText := true, laidKinds := [.data, .data, .data, .data, .data, .data, .data, .data, .data, .pinned], laidTests := true, laidLooks := .later, goes := false }
def ExactBetweenToldSaid : Prop := Claim7.holds Tryz.pinned (.plain (OpenSpec.ofChange exactBetweenSpec)) exactBetweenCard
/-- ITS FALSE NEIGHBOUR. Refute it at one input. -/
def ExactBetweenToldWrongFalsely : Prop := Claim7.holds Tryz.pinned (.plain (OpenSpec.ofChange exactBetweenWrong)) exactBetweenCard
end Rows
end Go.Proofs.YtlfmgdpbjapdjaaGreatFmtBesafter
