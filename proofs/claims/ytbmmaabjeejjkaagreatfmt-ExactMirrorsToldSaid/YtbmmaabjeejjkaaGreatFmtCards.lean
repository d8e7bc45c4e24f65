/-
  DERIVED. GIVEN WITH THE SEED: THE CARDS: each row of YtbmmaabjeejjkaaGreatFmtRows.lean that lists a variable, with what it lists TIED to the program's text (the seventh form; the later family's looks); each row that meets fmt, with fmt's text TOLD by the authors' own Lean function (tested against real Go, not proved from fmt's source: count such statements apart). THE CARD IS WHAT COUNTS. Prove the row's statement (the work); the ties are given (YtbmmaabjeejjkaaGreatFmtTie.lean); close each card by the builder's one call (the guide's Derived/Test/ToyasCard.lean, 'card_holds'). Laid BY PROGRAM, IN A SANDBOX (cutbox-door.mjs). By AI agents, Wed Nov 11 2026. No macro, syntax, notation, axiom, sorry.
-/
import Derived.Test.YtbmmaabjeejjkaaGreatFmtRows
import GoSem.ClaimSeven
namespace Go.Proofs.YtbmmaabjeejjkaaGreatFmt
namespace Rows

/-- THE TOLD AND TIED CARD OF 'pupillaw2.ExactMirrors'. -/
def exactMirrorsCard : Claim7 := { stood := { row := exactMirrorsRow, standIns := [], harness := (true, "c3829bd24930c34166983f0deb5916d284bbcc8a6881cb8eb9352d1606e10af0"), looks := true }, told := true, laidByText := true, laidKinds := [.data, .data, .data, .data, .data, .data, .data, .data, .data, .pinned], laidTests := true, laidLooks := .later, goes := false }
def ExactMirrorsToldSaid : Prop := Claim7.holds Tryz.pinned (.plain (OpenSpec.ofChange exactMirrorsSpec)) exactMirrorsCard
/-- ITS FALSE NEIGHBOUR. Refute it at one input. -/
def ExactMirrorsToldWrongFalsely : Prop := Claim7.holds Tryz.pinned (.plain (OpenSpec.ofChange exactMirrorsWrong)) exactMirrorsCard
end Rows
end Go.Proofs.YtbmmaabjeejjkaaGreatFmt
