-- Printed for this claim by a program of the session (print2.py), out of the translation; Lean checks it.
import Derived.Test.YtedchpflcemdkaaProg
import Derived.Below
import Derived.Deep.Draws
import Derived.Deep.AppendLies
import Derived.Maps.AppendAt
import Derived.OwnWalk
import Derived.Laws.BytesArg
import Derived.Laws.MakeOwn
import Derived.Laws.OwnMore
import Derived.Deep.OwnRows
import Derived.Tactics
import Derived.Lib.ConvBytes
import Derived.Laws.Slices
import Derived.WalkKit
import Derived.KernelRfl
import Derived.RowKit3
import Derived.Deep.LoopGhost
import Derived.Deep.QuietTactic
import Derived.BigQuiet
import Derived.WideLaws
import Derived.Deep.DeepCutAuto
import Derived.Deep.CutBlock
import Derived.Deep.RegionHeld3
import Derived.Laws.Rows
import Derived.Lib.AppendStr
import Derived.ArgAppend
import Derived.Laws.IdiomCopy
import Derived.OrdersHeld
import Derived.Laws.BitsLemmas
import Derived.RowKit
import Derived.Test.YtedchpflcemdkaaGBase
import Derived.Test.YtedchpflcemdkaaWWords
import Derived.Test.YtedchpflcemdkaaWLast
import Derived.Test.YtedchpflcemdkaaWTab
import Derived.Test.YtedchpflcemdkaaWFour
import Derived.Test.YtedchpflcemdkaaWQPut
import Derived.Test.YtedchpflcemdkaaWApart
import Derived.Test.YtedchpflcemdkaaWArr
import Derived.Test.YtedchpflcemdkaaWZeros
import Derived.Test.YtedchpflcemdkaaWFoot
import Derived.Test.YtedchpflcemdkaaWKept
import Derived.Test.YtedchpflcemdkaaWShare
import Derived.Test.YtedchpflcemdkaaWN
import Derived.Test.YtedchpflcemdkaaWFootNe
import Derived.Test.YtedchpflcemdkaaWAt
import Derived.Test.YtedchpflcemdkaaWEqStruct
import Derived.Test.YtedchpflcemdkaaWRepsOne
import Derived.Test.YtedchpflcemdkaaWInv
import Derived.Test.YtedchpflcemdkaaWInvWords
import Derived.Test.YtedchpflcemdkaaWGuard
import Derived.Test.YtedchpflcemdkaaWNEv
import Derived.Test.YtedchpflcemdkaaWMore
namespace Go.Proofs.Ytedchpflcemdkaa.PNam
open Go.RowKit Go.Proofs.YtedchpflcemdkaaW.PrintWords Go.Proofs.YtedchpflcemdkaaW.PrintLast Go.Proofs.YtedchpflcemdkaaW.PrintMore
attribute [local go_sem] max2_int min2_int max_two min_two max_three min_three max_four min_four   -- for this text's walks alone
set_option linter.unusedVariables false
set_option linter.unusedSimpArgs false



def errW : Option Int → Value
  | none => .nilIface
  | some c => .iface 0 (.int .i64 c)
theorem errW_none : errW none = .nilIface := rfl
theorem errW_some (c : Int) : errW (some c) = .iface 0 (.int .i64 c) := rfl

-- the values' own types

end Go.Proofs.Ytedchpflcemdkaa.PNam
