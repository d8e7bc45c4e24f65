/-
  DERIVED. GIVEN WITH THE SEED: THE CARDS: each row of YtgbpglojbgicjaaGreatFmtRows.lean that lists a variable, with what it lists TIED to the program's text (the seventh form; the later family's looks); each row that meets fmt, with fmt's text TOLD by the authors' own Lean function (tested against real Go, not proved from fmt's source: count such statements apart). THE CARD IS WHAT COUNTS. Prove the row's statement (the work); the ties are given (YtgbpglojbgicjaaGreatFmtTie.lean); close each card by the builder's one call (the guide's Derived/Test/ToyasCard.lean, 'card_holds'). Laid BY PROGRAM, IN A SANDBOX (cutbox-door.mjs). By AI agents, Wed Nov 11 2026. No macro, syntax, notation, axiom, sorry.
-/
import Derived.Test.YtgbpglojbgicjaaGreatFmtRows
import GoSem.ClaimSeven
namespace Go.Proofs.YtgbpglojbgicjaaGreatFmt
namespace Rows

/-- THE TOLD AND TIED CARD OF 'pupillaw2.ExactFloats'. -/
def exactFloatsCard : Claim7 := { stood := { row := exactFloatsRow, standIns := [], harness := (true, "72f1a9d767478b012a580aa7439d38e6db55563971a3e7c0992c2915dc99b4f6"), looks := true }, told := true, laidByText := true, laidKinds := [.data, .data, .data, .data, .data, .data, .data, .data, .data, .pinned], laidTests := true, laidLooks := .later, goes := false }
def ExactFloatsToldSaid : Prop := Claim7.holds Tryz.pinned (.plain (OpenSpec.ofChange exactFloatsSpec)) exactFloatsCard
/-- ITS FALSE NEIGHBOUR. Refute it at one input. -/
def ExactFloatsToldWrongFalsely : Prop := Claim7.holds Tryz.pinned (.plain (OpenSpec.ofChange exactFloatsWrong)) exactFloatsCard
end Rows
end Go.Proofs.YtgbpglojbgicjaaGreatFmt
