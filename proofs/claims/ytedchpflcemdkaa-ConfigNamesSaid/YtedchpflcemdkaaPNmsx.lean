-- Printed for this claim by a program of the session (print2.py), out of the translation; Lean checks it.
import Derived.Test.YtedchpflcemdkaaPNmsx0
import Derived.Test.YtedchpflcemdkaaPNmsx1
import Derived.Test.YtedchpflcemdkaaPNmsx2
import Derived.Test.YtedchpflcemdkaaPNmsx3
import Derived.Test.YtedchpflcemdkaaPNmsx4
import Derived.Test.YtedchpflcemdkaaPNmsx5
import Derived.Test.YtedchpflcemdkaaPNmsx6
import Derived.Test.YtedchpflcemdkaaPNmsx7
import Derived.Test.YtedchpflcemdkaaPNmsx8
import Derived.Test.YtedchpflcemdkaaPNmsx9
import Derived.Test.YtedchpflcemdkaaPNmsx10
namespace Go.Proofs.Ytedchpflcemdkaa.PNms
open Go.RowKit Go.Proofs.YtedchpflcemdkaaW.PrintWords Go.Proofs.YtedchpflcemdkaaW.PrintLast Go.Proofs.YtedchpflcemdkaaW.PrintMore
attribute [local go_sem] max2_int min2_int max_two min_two max_three min_three max_four min_four   -- for this text's walks alone
set_option linter.unusedVariables false
set_option linter.unusedSimpArgs false

end Go.Proofs.Ytedchpflcemdkaa.PNms
