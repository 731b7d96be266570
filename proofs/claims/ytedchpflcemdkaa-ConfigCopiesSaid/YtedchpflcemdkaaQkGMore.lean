/- A text of this claim, pruned by a program of the session (prune.py) to what the theorem rests on. -/
import Derived.Test.YtedchpflcemdkaaQkWWords
import Derived.Test.YtedchpflcemdkaaQkWLast
import Derived.Test.YtedchpflcemdkaaQkWTab
import Derived.Test.YtedchpflcemdkaaQkWRepsOne
import Derived.Test.YtedchpflcemdkaaQkWEqStruct
namespace Go.Proofs.YtedchpflcemdkaaW.PrintMore
end Go.Proofs.YtedchpflcemdkaaW.PrintMore
namespace Go.Proofs.YtedchpflcemdkaaW.PrintWords
section
variable {P : Program} {ops : Array Oper} {left : List Oper} {x : Oper} {act : Act} {K : Exit → Act → World → Prop} {w : World}
theorem gate_callee {f : FuncId} {as : Array Operand} {ts : Array TypeId} (_at : x.op = .call { callee := .value (.func f), args := as, argTypes := ts }) (go : wpList P ops K (x :: left) act w) : wpList P ops K (x :: left) act w := go
end
end Go.Proofs.YtedchpflcemdkaaW.PrintWords
