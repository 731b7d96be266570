/- A text of this claim, pruned by a program of the session (prune.py) to what the theorem rests on. -/
import Derived.Test.YtneodhhoejjncaaQcWWords
import Derived.OrdersHeld
import Derived.Deep.RegionHeld3
import Derived.Laws.BitsLemmas
import Derived.RowKit
import Derived.Test.YtneodhhoejjncaaQcWApart
import Derived.Test.YtneodhhoejjncaaQcWKept
import Derived.Test.YtneodhhoejjncaaQcWN
namespace Go.Proofs.YtneodhhoejjncaaW.PrintMore
open Go.RowKit Go.Proofs.YtneodhhoejjncaaW.PrintWords
namespace Kd
open Go.Proofs.YtneodhhoejjncaaW.PrintWords.Kd
end Kd
namespace Kd
open Go.Proofs.YtneodhhoejjncaaW.PrintWords.Kd
end Kd
theorem max2_int (k k' : IntKind) (x y : Int) : Builtin.max2 (.int k x) (.int k' y) = pure (.int k (if x < y then y else x)) := by simp only [Builtin.max2, gt_iff_lt]
theorem max_two (ats : Array TypeId) (ty : TypeId) (a b : Value) : Builtin.max_ ats ty #[a, b] = (Builtin.max2 a b >>= fun s => pure s) := by simp only [Builtin.max_, List.foldlM_cons, List.foldlM_nil]
end Go.Proofs.YtneodhhoejjncaaW.PrintMore
namespace Go.Proofs.YtneodhhoejjncaaW.PrintWords
open Go.RowKit
namespace Kd
end Kd
end Go.Proofs.YtneodhhoejjncaaW.PrintWords
namespace Go.Proofs.YtneodhhoejjncaaW.PrintWords
open Go.RowKit
namespace Kd
end Kd
end Go.Proofs.YtneodhhoejjncaaW.PrintWords
