import Derived.Test.YtpdodboldicibaaGreatFmtProg
import Derived.Below
import Derived.Deep.Draws
import Derived.Deep.AppendLies
import Derived.Maps.AppendAt
import Derived.OwnWalk
import Derived.Laws.BytesArg
import Derived.Laws.MakeOwn
import Derived.Laws.OwnMore
import Derived.Deep.OwnRows
import Derived.Tactics
import Derived.Lib.ConvBytes
import Derived.Laws.Slices
import Derived.WalkKit
import Derived.KernelRfl
import Derived.RowKit3
import Derived.Deep.LoopGhost
import Derived.Deep.QuietTactic
import Derived.BigQuiet
import Derived.WideLaws
import Derived.Deep.DeepCutAuto
import Derived.Deep.CutBlock
import Derived.Deep.RegionHeld3
import Derived.Laws.Rows
import Derived.Lib.AppendStr
import Derived.ArgAppend
import Derived.Laws.IdiomCopy
import Derived.OrdersHeld
import Derived.Laws.BitsLemmas
import Derived.RowKit
import Derived.Test.YtpdodboldicibaaGreatFmtWWords
import Derived.Test.YtpdodboldicibaaGreatFmtWLast
import Derived.Test.YtpdodboldicibaaGreatFmtWTab
import Derived.Test.YtpdodboldicibaaGreatFmtWFour
import Derived.Test.YtpdodboldicibaaGreatFmtWQPut
import Derived.Test.YtpdodboldicibaaGreatFmtWApart
import Derived.Test.YtpdodboldicibaaGreatFmtWArr
import Derived.Test.YtpdodboldicibaaGreatFmtWZeros
import Derived.Test.YtpdodboldicibaaGreatFmtWFoot
import Derived.Test.YtpdodboldicibaaGreatFmtWKept
import Derived.Test.YtpdodboldicibaaGreatFmtWShare
import Derived.Test.YtpdodboldicibaaGreatFmtWN
import Derived.Test.YtpdodboldicibaaGreatFmtWFootNe
import Derived.Test.YtpdodboldicibaaGreatFmtWAt
import Derived.Test.YtpdodboldicibaaGreatFmtWEqStruct
import Derived.Test.YtpdodboldicibaaGreatFmtWRepsOne
import Derived.Test.YtpdodboldicibaaGreatFmtWInv
import Derived.Test.YtpdodboldicibaaGreatFmtWInvWords
import Derived.Test.YtpdodboldicibaaGreatFmtWGuard
import Derived.Test.YtpdodboldicibaaGreatFmtWNEv
import Derived.Test.YtpdodboldicibaaGreatFmtWMore
namespace Go.Proofs.YtpdodboldicibaaGreatFmt.F
open Go.RowKit Go.Proofs.YtpdodboldicibaaGreatFmtW.PrintWords Go.Proofs.YtpdodboldicibaaGreatFmtW.PrintLast Go.Proofs.YtpdodboldicibaaGreatFmtW.PrintMore
attribute [local go_sem] max2_int min2_int max_two min_two max_three min_three max_four min_four   -- for this text's walks alone
set_option linter.unusedVariables false
set_option linter.unusedSimpArgs false



def errW : Option Int → Value
  | none => .nilIface
  | some c => .iface 0 (.int .i64 c)
theorem errW_none : errW none = .nilIface := rfl
theorem errW_some (c : Int) : errW (some c) = .iface 0 (.int .i64 c) := rfl

-- the values' own types

end Go.Proofs.YtpdodboldicibaaGreatFmt.F
