/- A text of this claim, pruned by a program of the session (prune.py) to what the theorem rests on. -/
import Derived.Test.YtcikjeiebpmmcaaGreatQmPureRmaMayb
namespace Go.Proofs.YtcikjeiebpmmcaaGreat.PureRma
open Go.RowKit Go.Proofs.YtcikjeiebpmmcaaGreat Go.Proofs.YtcikjeiebpmmcaaGreat.PRma Go.Proofs.YtcikjeiebpmmcaaGreatW.PrintWords
set_option linter.unusedVariables false
set_option linter.unusedSimpArgs false
theorem RelabelMay (l : List S43) (h : ∀ x ∈ l, (Lit.int .i64 x.f0).wf = true ∧ x.f1.size ≤ 140737488351232 ∧ x.f2.size ≤ 140737488351232 ∧ x.f3.size ≤ 140737488351232 ∧ x.f4.size ≤ 140737488351232) : ∃ k, odometerlaw29_RelabelMay.f k l = some true := by
  refine ⟨400000, ?_⟩
  obtain ⟨b, hb, hs⟩ := much_f 400000 l (fun x hx => held_of (h x hx)) (by omega)
  unfold odometerlaw29_RelabelMay.f
  rw [hb, Option.bind_some]
  cases b with
  | true => rw [if_pos rfl, known_ge 400000 (by omega)]; rfl
  | false =>
    obtain ⟨h12, hS⟩ := hs rfl
    rw [if_neg (by simp), mays_f 400000 (by omega) l hS, Option.bind_some, ones_f 400000 l hS (by omega) (by omega), Option.bind_some, if_pos (by simp), known_ge 400000 (by omega)]
    rfl
end Go.Proofs.YtcikjeiebpmmcaaGreat.PureRma
