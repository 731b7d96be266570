-- Printed for this claim by a program of the session (print2.py), out of the translation; Lean checks it.
import Derived.Test.YtapfpnfdpcgpaaaPLapx0
import Derived.Test.YtapfpnfdpcgpaaaPLapx1
import Derived.Test.YtapfpnfdpcgpaaaPLapx2
import Derived.Test.YtapfpnfdpcgpaaaPLapx3
import Derived.Test.YtapfpnfdpcgpaaaPLapx4
import Derived.Test.YtapfpnfdpcgpaaaPLapx5
import Derived.Test.YtapfpnfdpcgpaaaPLapx6
import Derived.Test.YtapfpnfdpcgpaaaPLapx7
import Derived.Test.YtapfpnfdpcgpaaaPLapx8
import Derived.Test.YtapfpnfdpcgpaaaPLapx9
import Derived.Test.YtapfpnfdpcgpaaaPLapx10
import Derived.Test.YtapfpnfdpcgpaaaPLapx11
namespace Go.Proofs.Ytapfpnfdpcgpaaa.PLap
open Go.RowKit Go.Proofs.YtapfpnfdpcgpaaaW.PrintWords Go.Proofs.YtapfpnfdpcgpaaaW.PrintLast Go.Proofs.YtapfpnfdpcgpaaaW.PrintMore
set_option linter.unusedVariables false
set_option linter.unusedSimpArgs false

end Go.Proofs.Ytapfpnfdpcgpaaa.PLap
