/- A text of this claim, pruned by a program of the session (prune.py) to what the theorem rests on. -/
import Derived.Test.YtcikjeiebpmmcaaGreatQyPureMchRp2
import Derived.Test.YtcikjeiebpmmcaaGreatQyPureMchRp4
namespace Go.Proofs.YtcikjeiebpmmcaaGreat.PureMch
open Go.RowKit Go.Proofs.YtcikjeiebpmmcaaGreat Go.Proofs.YtcikjeiebpmmcaaGreat.PMch Go.Proofs.YtcikjeiebpmmcaaGreatW.PrintWords
set_option linter.unusedVariables false
set_option linter.unusedSimpArgs false
theorem parse_both (s : ByteArray) (hs : s.size ≤ 3000) : ∃ r, Answer s r ∧ ∀ k, 9200000 ≤ k → label_Parse.f k s = some r ∧ odometerref03_Parse.f k s = some r := by
  have same : ∀ r, r.2.2 = 0 → Answer s r → ∀ k, 9200000 ≤ k → label_Parse.f k s = some (r.1, isort nmL r.2.1, 0) ∧ odometerref03_Parse.f k s = some (r.1, isort nmL r.2.1, 0) := by
    intro r h0 h k hk
    rcases h with rfl | ⟨_, h1, h2, h3⟩
    · cases h0
    · by_cases hr : Right r.1 r.2.1
      · rw [nameF_right hr] at h3
        have e : ba (bl r.1 ++ render (isort nmL r.2.1)) = s := congrArg Prod.fst h3
        have p1 := parse_name r.1 h1 r.2.1 h2 hr k (by omega)
        have p2 := refParse_name r.1 h1 r.2.1 h2 hr k (by omega)
        rw [e] at p1 p2
        exact ⟨p1, p2⟩
      · rw [nameF_not hr] at h3
        cases h3
  obtain ⟨r1, e1, a1⟩ := parse_any s (by omega) 9200000 (by omega)
  obtain ⟨r2, e2, a2⟩ := refParse_any s hs 9200000 (by omega)
  have up1 : ∀ r n, label_Parse.f 9200000 s = some r → label_Parse.f (9200000 + n) s = some r := by
    intro r n h
    induction n with
    | zero => exact h
    | succ n ih => exact label_Parse.mono s _ _ ih
  have up2 : ∀ r n, odometerref03_Parse.f 9200000 s = some r → odometerref03_Parse.f (9200000 + n) s = some r := by
    intro r n h
    induction n with
    | zero => exact h
    | succ n ih => exact odometerref03_Parse.mono s _ _ ih
  have key : r1 = r2 := by
    rcases a1 with h1 | h1
    · rcases a2 with h2 | h2
      · rw [h1, h2]
      · have := (same r2 h2.1 (Or.inr h2) 9200000 (Nat.le_refl _)).1
        rw [e1] at this
        rw [h1] at this
        have := congrArg (fun o : Option (ByteArray × List Lb × Int) => o.map fun r => r.2.2) this
        simp at this
    · have := (same r1 h1.1 (Or.inr h1) 9200000 (Nat.le_refl _))
      rw [e1, e2] at this
      exact Option.some.inj (this.1.trans this.2.symm)
  refine ⟨r1, a1, fun k hk => ?_⟩
  obtain ⟨n, rfl⟩ : ∃ n, k = 9200000 + n := ⟨k - 9200000, by omega⟩
  exact ⟨up1 r1 n e1, by rw [key]; exact up2 r2 n e2⟩
end Go.Proofs.YtcikjeiebpmmcaaGreat.PureMch
