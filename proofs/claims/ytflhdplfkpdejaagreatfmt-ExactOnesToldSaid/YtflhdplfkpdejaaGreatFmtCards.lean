/-
  DERIVED. GIVEN WITH THE SEED: THE CARDS: each row of YtflhdplfkpdejaaGreatFmtRows.lean that lists a variable, with what it lists TIED to the program's text (the seventh form; the later family's looks); each row that meets fmt, with fmt's text TOLD by the authors' own Lean function (tested against real Go, not proved from fmt's source: count such statements apart). THE CARD IS WHAT COUNTS. Prove the row's statement (the work); the ties are given (YtflhdplfkpdejaaGreatFmtTie.lean); close each card by the builder's one call (the guide's Derived/Test/ToyasCard.lean, 'card_holds'). Laid BY PROGRAM, IN A SANDBOX (cutbox-door.mjs). By AI agents, Wed Nov 11 2026. No macro, syntax, notation, axiom, sorry.
-/
import Derived.Test.YtflhdplfkpdejaaGreatFmtRows
import GoSem.ClaimSeven
namespace Go.Proofs.YtflhdplfkpdejaaGreatFmt
namespace Rows

/-- THE TOLD AND TIED CARD OF 'pupillaw2.ExactOnes'. -/
def exactOnesCard : Claim7 := { stood := { row := exactOnesRow, standIns := [], harness := (true, "8489e1389cd17b3496e59dc8d95964131d274c3d007cadf2343f1e5c389b8603"), looks := true }, told := true, laidByText := true, laidKinds := [.data, .data, .data, .data, .data, .data, .data, .data, .data, .pinned], laidTests := true, laidLooks := .later, goes := false }
def ExactOnesToldSaid : Prop := Claim7.holds Tryz.pinned (.plain (OpenSpec.ofChange exactOnesSpec)) exactOnesCard
/-- ITS FALSE NEIGHBOUR. Refute it at one input. -/
def ExactOnesToldWrongFalsely : Prop := Claim7.holds Tryz.pinned (.plain (OpenSpec.ofChange exactOnesWrong)) exactOnesCard
end Rows
end Go.Proofs.YtflhdplfkpdejaaGreatFmt
