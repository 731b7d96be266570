-- Printed for this claim by a program of the session (print2.py), out of the translation; Lean checks it.
import Derived.Test.YtapfpnfdpcgpaaaProg
import Derived.Below
import Derived.Deep.Draws
import Derived.Deep.AppendLies
import Derived.Maps.AppendAt
import Derived.OwnWalk
import Derived.Laws.BytesArg
import Derived.Laws.MakeOwn
import Derived.Laws.OwnMore
import Derived.Deep.OwnRows
import Derived.Tactics
import Derived.Lib.ConvBytes
import Derived.Laws.Slices
import Derived.WalkKit
import Derived.KernelRfl
import Derived.RowKit3
import Derived.Deep.LoopGhost
import Derived.Deep.QuietTactic
import Derived.BigQuiet
import Derived.WideLaws
import Derived.Deep.DeepCutAuto
import Derived.Deep.CutBlock
import Derived.Deep.RegionHeld3
import Derived.Laws.Rows
import Derived.Lib.AppendStr
import Derived.ArgAppend
import Derived.Laws.IdiomCopy
import Derived.OrdersHeld
import Derived.Laws.BitsLemmas
import Derived.RowKit
import Derived.Test.YtapfpnfdpcgpaaaGBase
import Derived.Test.YtapfpnfdpcgpaaaWWords
import Derived.Test.YtapfpnfdpcgpaaaWLast
import Derived.Test.YtapfpnfdpcgpaaaWTab
import Derived.Test.YtapfpnfdpcgpaaaWFour
import Derived.Test.YtapfpnfdpcgpaaaWQPut
import Derived.Test.YtapfpnfdpcgpaaaWApart
import Derived.Test.YtapfpnfdpcgpaaaWArr
import Derived.Test.YtapfpnfdpcgpaaaWZeros
import Derived.Test.YtapfpnfdpcgpaaaWFoot
import Derived.Test.YtapfpnfdpcgpaaaWKept
import Derived.Test.YtapfpnfdpcgpaaaWShare
import Derived.Test.YtapfpnfdpcgpaaaWN
import Derived.Test.YtapfpnfdpcgpaaaWFootNe
import Derived.Test.YtapfpnfdpcgpaaaWAt
import Derived.Test.YtapfpnfdpcgpaaaWEqStruct
import Derived.Test.YtapfpnfdpcgpaaaWRepsOne
import Derived.Test.YtapfpnfdpcgpaaaWInv
import Derived.Test.YtapfpnfdpcgpaaaWInvWords
import Derived.Test.YtapfpnfdpcgpaaaWGuard
import Derived.Test.YtapfpnfdpcgpaaaWNEv
import Derived.Test.YtapfpnfdpcgpaaaWMore
namespace Go.Proofs.Ytapfpnfdpcgpaaa.PMor
open Go.RowKit Go.Proofs.YtapfpnfdpcgpaaaW.PrintWords Go.Proofs.YtapfpnfdpcgpaaaW.PrintLast Go.Proofs.YtapfpnfdpcgpaaaW.PrintMore
attribute [local go_sem] max2_int min2_int max_two min_two max_three min_three max_four min_four   -- for this text's walks alone
set_option linter.unusedVariables false
set_option linter.unusedSimpArgs false



def errW : Option Int → Value
  | none => .nilIface
  | some c => .iface 0 (.int .i64 c)
theorem errW_none : errW none = .nilIface := rfl
theorem errW_some (c : Int) : errW (some c) = .iface 0 (.int .i64 c) := rfl

-- the values' own types

end Go.Proofs.Ytapfpnfdpcgpaaa.PMor
