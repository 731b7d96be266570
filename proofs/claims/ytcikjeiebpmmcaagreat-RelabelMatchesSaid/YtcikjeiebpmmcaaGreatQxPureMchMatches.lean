/- A text of this claim, pruned by a program of the session (prune.py) to what the theorem rests on. -/
import Derived.Test.YtcikjeiebpmmcaaGreatQxPureMchBoth
import Derived.Test.YtcikjeiebpmmcaaGreatQxPureMchFillb
namespace Go.Proofs.YtcikjeiebpmmcaaGreat.PureMch
open Go.RowKit Go.Proofs.YtcikjeiebpmmcaaGreat Go.Proofs.YtcikjeiebpmmcaaGreat.PMch Go.Proofs.YtcikjeiebpmmcaaGreatW.PrintWords
set_option linter.unusedVariables false
set_option linter.unusedSimpArgs false
theorem same_go (l : List ByteArray) (hl : l.length ≤ 100000) : ∀ (n k i : Nat), i + n = l.length → n < k → odometerref29_Same.l0 k l l (i : Int) = some true := by
  intro n
  induction n with
  | zero =>
    intro k i h hk
    obtain ⟨k, rfl⟩ : ∃ q, k = q + 1 := ⟨k - 1, by omega⟩
    rw [odometerref29_Same.l0, if_neg (by omega)]
  | succ n ih =>
    intro k i h hk
    obtain ⟨k, rfl⟩ : ∃ q, k = q + 1 := ⟨k - 1, by omega⟩
    have hw : wrap64 ((i : Int) + 1) = ((i + 1 : Nat) : Int) := by rw [wrap_in' _ (by omega) (by omega)]; omega
    have g1 : (i : Int) < (l.length : Int) := by omega
    have g2 : (0 : Int) ≤ (i : Int) := by omega
    rw [odometerref29_Same.l0, if_pos g1, if_pos g2, if_pos g1, if_pos rfl, hw, ih k (i + 1) (by omega) (by omega)]
theorem same_f (l : List ByteArray) (hl : l.length ≤ 100000) (k : Nat) (hk : l.length < k) : odometerref29_Same.f k l l = some true := by
  unfold odometerref29_Same.f
  rw [if_pos rfl]
  exact same_go l hl l.length k 0 (by omega) hk
theorem RelabelMatches (a0 a1 : ByteArray) : ∃ k, odometerlaw29_RelabelMatches.f k a0 a1 = some true := by
  refine ⟨300001, ?_⟩
  have out : odometerlaw29_RelabelMatches.j0 300001 a0 a1 true = some true := by
    rw [odometerlaw29_RelabelMatches.j0, if_pos rfl, known_ge 300000 (by omega)]
    rfl
  unfold odometerlaw29_RelabelMatches.f
  by_cases h0 : (a0.size : Int) > 300
  · rw [if_pos h0]; exact out
  · rw [if_neg h0]
    by_cases h1 : (a1.size : Int) > 300
    · rw [decide_eq_true h1]; exact out
    · rw [decide_eq_false h1, odometerlaw29_RelabelMatches.j0, if_neg (by decide)]
      obtain ⟨r, hr, e1, e2⟩ := both_match a0 a1 (by omega) (by omega) 300000 (by omega)
      rw [e1, e2, Option.bind_some, Option.bind_some, beq_self_eq_true, if_pos rfl, same_f r.1 (by omega) 300000 (by omega), Option.bind_some, if_pos rfl, known_ge 300000 (by omega)]
      rfl
end Go.Proofs.YtcikjeiebpmmcaaGreat.PureMch
