/- A text of this claim, pruned by a program of the session (prune.py) to what the theorem rests on. -/
import Derived.Test.YtneodhhoejjncaaQcGStPl
namespace Go.Proofs.Ytneodhhoejjncaa
open Go.RowKit Go.Proofs.YtneodhhoejjncaaW.PrintWords Go.Proofs.YtneodhhoejjncaaW.PrintMore Go.Proofs.Ytneodhhoejjncaa.PFew
set_option linter.unusedVariables false
set_option linter.unusedSimpArgs false
theorem toList_inj {a b : ByteArray} (h : a.toList = b.toList) : a = b := by
  rw [ByteArray.toList_eq, ByteArray.toList_eq] at h
  cases a; cases b
  simp only [ByteArray.mk.injEq]
  exact Array.toList_inj.1 h
def PutOk (p : S31) : Prop := p.f1.length ≤ 4398046511104 ∧ ∀ x ∈ p.f1, x.f0.size ≤ 140737488351232
theorem put_ok (p : S31) (h : (Lit.int .i64 p.f0).wf = true ∧ (p.f1.length * 40 ≤ 140737488351232 ∧ ∀ x ∈ p.f1, x.f0.size ≤ 140737488351232 ∧ (Lit.int .i64 x.f1).wf = true ∧ (Lit.int .i64 x.f2).wf = true ∧ True)) : PutOk p := ⟨by omega, fun x hx => (h.2.2 x hx).1⟩
end Go.Proofs.Ytneodhhoejjncaa
