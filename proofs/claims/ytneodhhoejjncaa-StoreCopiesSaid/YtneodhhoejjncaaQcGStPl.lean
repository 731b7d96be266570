/- A text of this claim, pruned by a program of the session (prune.py) to what the theorem rests on. -/
import Derived.Test.YtneodhhoejjncaaQcGStK
import Derived.Test.YtneodhhoejjncaaQcWEqStruct
import Derived.Laws.StructEq
namespace Go.Proofs.Ytneodhhoejjncaa
open Go.RowKit Go.Proofs.YtneodhhoejjncaaW.PrintWords Go.Proofs.Ytneodhhoejjncaa.PFew
set_option linter.unusedVariables false
set_option linter.unusedSimpArgs false
theorem eqSmp (d : Nat) (w : World) (x y : Smp) : (Op.equalIn (d + 2) 34 (.agg #[.string x.nm, .int .i64 x.val, .int .i64 x.time, .bool x.counts]) (.agg #[.string y.nm, .int .i64 y.val, .int .i64 y.time, .bool y.counts])).run Try.prog w = .ok (x.nm.toList == y.nm.toList && (x.val == y.val && (x.time == y.time && (x.counts == y.counts)))) w := by
  refine eqA_of Try.underlying34 (by kernel_rfl) ?_
  refine eqf_cons (by rfl) (by go_simp; rfl) (by go_simp; rfl) (by go_simp) ?_
  refine eqf_cons (by rfl) (by go_simp; rfl) (by go_simp; rfl) (by go_simp) ?_
  refine eqf_cons (by rfl) (by go_simp; rfl) (by go_simp; rfl) (by go_simp) ?_
  exact eqf_last (by rfl) (by go_simp; rfl) (by go_simp; rfl) (by go_simp)
theorem wrap_in (n : Int) (h1 : -9223372036854775808 ≤ n) (h2 : n ≤ 9223372036854775807) : wrap64 n = n := by unfold wrap64; omega
end Go.Proofs.Ytneodhhoejjncaa
