import Derived.Test.YtapfpnfdpcgpaaaWWords
import Derived.Test.YtapfpnfdpcgpaaaWLast
import Derived.Test.YtapfpnfdpcgpaaaWTab
import Derived.Test.YtapfpnfdpcgpaaaWRepsOne
import Derived.Test.YtapfpnfdpcgpaaaWEqStruct
import Derived.Test.YtapfpnfdpcgpaaaWGuard
/-! The words that a small claim wants, in one; and two marks by which a walk tells at which call it stands. -/
namespace Go.Proofs.YtapfpnfdpcgpaaaW.PrintMore
end Go.Proofs.YtapfpnfdpcgpaaaW.PrintMore
namespace Go.Proofs.YtapfpnfdpcgpaaaW.PrintWords
section
variable {P : Program} {ops : Array Oper} {left : List Oper} {x : Oper} {act : Act} {K : Exit → Act → World → Prop} {w : World}
theorem gate_callee {f : FuncId} {as : Array Operand} {ts : Array TypeId} (_at : x.op = .call { callee := .value (.func f), args := as, argTypes := ts }) (go : wpList P ops K (x :: left) act w) : wpList P ops K (x :: left) act w := go
theorem gate_builtin {b : Builtin} {xs : Array Operand} {ts : Array TypeId} (_at : x.op = .call { callee := .builtin b, args := xs, argTypes := ts }) (go : wpList P ops K (x :: left) act w) : wpList P ops K (x :: left) act w := go
end
end Go.Proofs.YtapfpnfdpcgpaaaW.PrintWords
