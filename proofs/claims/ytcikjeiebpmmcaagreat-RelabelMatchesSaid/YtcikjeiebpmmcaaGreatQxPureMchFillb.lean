/- A text of this claim, pruned by a program of the session (prune.py) to what the theorem rests on. -/
import Derived.Test.YtcikjeiebpmmcaaGreatQxPMchx0
import Derived.Test.YtcikjeiebpmmcaaGreatQxPMchx2
import Derived.Test.YtcikjeiebpmmcaaGreatQxPMchx3
import Derived.Test.YtcikjeiebpmmcaaGreatQxPMchx4
import Derived.Test.YtcikjeiebpmmcaaGreatQxPMchx5
import Derived.Test.YtcikjeiebpmmcaaGreatQxPMchx6
import Derived.Test.YtcikjeiebpmmcaaGreatQxPMchx7
import Derived.Test.YtcikjeiebpmmcaaGreatQxPMchx8
namespace Go.Proofs.YtcikjeiebpmmcaaGreat.PureMch
open Go.RowKit Go.Proofs.YtcikjeiebpmmcaaGreat Go.Proofs.YtcikjeiebpmmcaaGreat.PMch Go.Proofs.YtcikjeiebpmmcaaGreatW.PrintWords
set_option linter.unusedVariables false
set_option linter.unusedSimpArgs false
set_option maxRecDepth 100000 in
theorem known_K : odometerlaw29_known.f 60 = some true := by kernel_rfl
theorem known_f : ∀ n, odometerlaw29_known.f (n + 60) = some true
  | 0 => known_K
  | n + 1 => odometerlaw29_known.mono (n + 60) _ (known_f n)
theorem known_ge (k : Nat) (h : 60 ≤ k) : odometerlaw29_known.f k = some true := by
  obtain ⟨n, rfl⟩ : ∃ n, k = n + 60 := ⟨k - 60, by omega⟩
  exact known_f n
end Go.Proofs.YtcikjeiebpmmcaaGreat.PureMch
