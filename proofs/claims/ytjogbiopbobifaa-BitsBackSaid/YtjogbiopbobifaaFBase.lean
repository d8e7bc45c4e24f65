import Derived.Test.YtjogbiopbobifaaProg
import Derived.Below
import Derived.Deep.Draws
import Derived.Deep.AppendLies
import Derived.Maps.AppendAt
import Derived.OwnWalk
import Derived.Laws.BytesArg
import Derived.Laws.MakeOwn
import Derived.Laws.OwnMore
import Derived.Deep.OwnRows
import Derived.Tactics
import Derived.Lib.ConvBytes
import Derived.Laws.Slices
import Derived.WalkKit
import Derived.KernelRfl
import Derived.RowKit3
import Derived.Deep.LoopGhost
import Derived.Deep.QuietTactic
import Derived.BigQuiet
import Derived.WideLaws
import Derived.Deep.DeepCutAuto
import Derived.Deep.CutBlock
import Derived.Deep.RegionHeld3
import Derived.Laws.Rows
import Derived.Lib.AppendStr
import Derived.ArgAppend
import Derived.Laws.IdiomCopy
import Derived.OrdersHeld
import Derived.Laws.BitsLemmas
import Derived.RowKit
import Derived.Test.YtjogbiopbobifaaWWords
import Derived.Test.YtjogbiopbobifaaWLast
import Derived.Test.YtjogbiopbobifaaWTab
import Derived.Test.YtjogbiopbobifaaWFour
import Derived.Test.YtjogbiopbobifaaWQPut
import Derived.Test.YtjogbiopbobifaaWApart
import Derived.Test.YtjogbiopbobifaaWArr
import Derived.Test.YtjogbiopbobifaaWZeros
import Derived.Test.YtjogbiopbobifaaWFoot
import Derived.Test.YtjogbiopbobifaaWKept
import Derived.Test.YtjogbiopbobifaaWShare
import Derived.Test.YtjogbiopbobifaaWN
import Derived.Test.YtjogbiopbobifaaWFootNe
import Derived.Test.YtjogbiopbobifaaWAt
import Derived.Test.YtjogbiopbobifaaWEqStruct
import Derived.Test.YtjogbiopbobifaaWRepsOne
import Derived.Test.YtjogbiopbobifaaWInv
import Derived.Test.YtjogbiopbobifaaWInvWords
import Derived.Test.YtjogbiopbobifaaWGuard
import Derived.Test.YtjogbiopbobifaaWNEv
import Derived.Test.YtjogbiopbobifaaWMore
namespace Go.Proofs.Ytjogbiopbobifaa.F
open Go.RowKit Go.Proofs.YtjogbiopbobifaaW.PrintWords Go.Proofs.YtjogbiopbobifaaW.PrintLast Go.Proofs.YtjogbiopbobifaaW.PrintMore
attribute [local go_sem] max2_int min2_int max_two min_two max_three min_three max_four min_four   -- for this text's walks alone
set_option linter.unusedVariables false
set_option linter.unusedSimpArgs false



def errW : Option Int → Value
  | none => .nilIface
  | some c => .iface 0 (.int .i64 c)
theorem errW_none : errW none = .nilIface := rfl
theorem errW_some (c : Int) : errW (some c) = .iface 0 (.int .i64 c) := rfl

-- the values' own types

end Go.Proofs.Ytjogbiopbobifaa.F
