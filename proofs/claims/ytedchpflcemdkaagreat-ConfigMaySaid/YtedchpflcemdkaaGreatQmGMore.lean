/- A text of this claim, pruned by a program of the session (prune.py) to what the theorem rests on. -/
import Derived.Test.YtedchpflcemdkaaGreatQmWWords
import Derived.Test.YtedchpflcemdkaaGreatQmWLast
import Derived.Test.YtedchpflcemdkaaGreatQmWTab
import Derived.Test.YtedchpflcemdkaaGreatQmWRepsOne
import Derived.Laws.StructEq
import Derived.Test.YtedchpflcemdkaaGreatQmWGuard
namespace Go.Proofs.YtedchpflcemdkaaGreatW.PrintMore
end Go.Proofs.YtedchpflcemdkaaGreatW.PrintMore
namespace Go.Proofs.YtedchpflcemdkaaGreatW.PrintWords
section
variable {P : Program} {ops : Array Oper} {left : List Oper} {x : Oper} {act : Act} {K : Exit → Act → World → Prop} {w : World}
theorem gate_callee {f : FuncId} {as : Array Operand} {ts : Array TypeId} (_at : x.op = .call { callee := .value (.func f), args := as, argTypes := ts }) (go : wpList P ops K (x :: left) act w) : wpList P ops K (x :: left) act w := go
end
end Go.Proofs.YtedchpflcemdkaaGreatW.PrintWords
