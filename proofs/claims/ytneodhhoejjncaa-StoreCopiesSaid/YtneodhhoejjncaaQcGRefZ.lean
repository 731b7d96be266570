/- A text of this claim, pruned by a program of the session (prune.py) to what the theorem rests on. -/
import Derived.Test.YtneodhhoejjncaaQcGSame
import Derived.Test.YtneodhhoejjncaaQcGStPl
namespace Go.Proofs.Ytneodhhoejjncaa
open Go.RowKit Go.Proofs.YtneodhhoejjncaaW.PrintWords
set_option linter.unusedVariables false
set_option linter.unusedSimpArgs false
theorem rnew_calls (most m : Int) (base : Nat) (hm : ∀ W, (Builtin.max_ #[3, 3] 3 #[.int .i64 most, .int .i64 0]).run Try.prog W = .ok (.int .i64 m) W) (w : World) :
    Calls Try.prog 12 #[.int .i64 most] w fun e w' => ∃ R, e = .returned (.pointer (some ⟨R, 0, none⟩)) ∧ w.heap.size ≤ R ∧ RefAt w' base R m [] (.slice none 0 0) ∧ Below w.heap.size w w' := by
  go_enter Try.func12, Try.ntmps12
  go_wp2_with fail
  go_ret
  exact ⟨w.heap.size, rfl, Nat.le_refl _, ⟨blk_new w _, own_nil _ _ _ _⟩, below_alloc (Below.refl _ _) _⟩
theorem rfoot_not {w : World} {B mb base R : Nat} {most most' : Int} {f : StF} {cnt : Nat} {xs : List Sr} {v : Value} (h : StAt w B mb most f cnt) (hr : RefAt w base R most' xs v) {k : Nat} (hk : rfoot R v k) : ¬ foot B mb f k := by
  rcases hk with rfl | hk
  · exact foot_not_cells h hr.blk (by decide) (by decide)
  · obtain ⟨cs, hc⟩ := own_typed hr.row k hk
    exact foot_not_cells h hc (by decide) (by decide)
end Go.Proofs.Ytneodhhoejjncaa
