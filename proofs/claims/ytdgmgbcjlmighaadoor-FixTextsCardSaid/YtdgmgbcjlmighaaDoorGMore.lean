import Derived.Test.YtdgmgbcjlmighaaDoorWWords
import Derived.Test.YtdgmgbcjlmighaaDoorWLast
import Derived.Test.YtdgmgbcjlmighaaDoorWTab
import Derived.Test.YtdgmgbcjlmighaaDoorWRepsOne
import Derived.Test.YtdgmgbcjlmighaaDoorWEqStruct
import Derived.Test.YtdgmgbcjlmighaaDoorWGuard
/-! The words that a small claim wants, in one; and two marks by which a walk tells at which call it stands. -/
namespace Go.Proofs.YtdgmgbcjlmighaaDoorW.PrintMore
end Go.Proofs.YtdgmgbcjlmighaaDoorW.PrintMore
namespace Go.Proofs.YtdgmgbcjlmighaaDoorW.PrintWords
section
variable {P : Program} {ops : Array Oper} {left : List Oper} {x : Oper} {act : Act} {K : Exit → Act → World → Prop} {w : World}
theorem gate_callee {f : FuncId} {as : Array Operand} {ts : Array TypeId} (_at : x.op = .call { callee := .value (.func f), args := as, argTypes := ts }) (go : wpList P ops K (x :: left) act w) : wpList P ops K (x :: left) act w := go
theorem gate_builtin {b : Builtin} {xs : Array Operand} {ts : Array TypeId} (_at : x.op = .call { callee := .builtin b, args := xs, argTypes := ts }) (go : wpList P ops K (x :: left) act w) : wpList P ops K (x :: left) act w := go
end
end Go.Proofs.YtdgmgbcjlmighaaDoorW.PrintWords
