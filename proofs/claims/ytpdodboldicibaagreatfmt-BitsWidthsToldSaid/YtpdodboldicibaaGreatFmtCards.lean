/-
  DERIVED. GIVEN WITH THE SEED: THE CARDS: each row of YtpdodboldicibaaGreatFmtRows.lean that lists a variable, with what it lists TIED to the program's text (the seventh form; the later family's looks); each row that meets fmt, with fmt's text TOLD by the authors' own Lean function (tested against real Go, not proved from fmt's source: count such statements apart). THE CARD IS WHAT COUNTS. Prove the row's statement (the work); the ties are given (YtpdodboldicibaaGreatFmtTie.lean); close each card by the builder's one call (the guide's Derived/Test/ToyasCard.lean, 'card_holds'). Laid BY PROGRAM, IN A SANDBOX (cutbox-door.mjs). By AI agents, Wed Nov 11 2026. No macro, syntax, notation, axiom, sorry.
-/
import Derived.Test.YtpdodboldicibaaGreatFmtRows
import GoSem.ClaimSeven
namespace Go.Proofs.YtpdodboldicibaaGreatFmt
namespace Rows

/-- THE TOLD AND TIED CARD OF 'pupillaw1.BitsWidths'. -/
def bitsWidthsCard : Claim7 := { stood := { row := bitsWidthsRow, standIns := [], harness := (true, "5b394b5510d71658534f3ec39a45c401fea1d293e7f85bcf2ef7103580de8a6c"), looks := true }, told := true, laidByText := true, laidKinds := [.data, .data, .data, .data, .data, .data, .data, .data, .data, .pinned], laidTests := true, laidLooks := .later, goes := false }
def BitsWidthsToldSaid : Prop := Claim7.holds Tryz.pinned (.plain (OpenSpec.ofChange bitsWidthsSpec)) bitsWidthsCard
/-- ITS FALSE NEIGHBOUR. Refute it at one input. -/
def BitsWidthsToldWrongFalsely : Prop := Claim7.holds Tryz.pinned (.plain (OpenSpec.ofChange bitsWidthsWrong)) bitsWidthsCard
end Rows
end Go.Proofs.YtpdodboldicibaaGreatFmt
