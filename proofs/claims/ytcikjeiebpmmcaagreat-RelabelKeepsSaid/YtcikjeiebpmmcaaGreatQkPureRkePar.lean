/- A text of this claim, pruned by a program of the session (prune.py) to what the theorem rests on. -/
import Derived.Test.YtcikjeiebpmmcaaGreatQkPRkex0
import Derived.Test.YtcikjeiebpmmcaaGreatQkPRkex1
import Derived.Test.YtcikjeiebpmmcaaGreatQkPRkex2
import Derived.Test.YtcikjeiebpmmcaaGreatQkPRkex3
import Derived.Test.YtcikjeiebpmmcaaGreatQkPRkex4
import Derived.Test.YtcikjeiebpmmcaaGreatQkPRkex5
import Derived.Test.YtcikjeiebpmmcaaGreatQkPRkex6
import Derived.Test.YtcikjeiebpmmcaaGreatQkPRkex7
import Derived.Test.YtcikjeiebpmmcaaGreatQkPRkex8
import Derived.Test.YtcikjeiebpmmcaaGreatQkPRkex9
import Derived.Test.YtcikjeiebpmmcaaGreatQkPRkex10
import Derived.Test.YtcikjeiebpmmcaaGreatQkPRkex11
import Derived.Test.YtcikjeiebpmmcaaGreatQkPureRkeName
import Derived.Test.YtcikjeiebpmmcaaGreatQkPureRkeUne
import Derived.Lib.IndexMore
namespace Go.Proofs.YtcikjeiebpmmcaaGreat.PureRke
open Go.RowKit Go.Proofs.YtcikjeiebpmmcaaGreat Go.Proofs.YtcikjeiebpmmcaaGreat.PRke Go.Proofs.YtcikjeiebpmmcaaGreatW.PrintWords
set_option linter.unusedVariables false
set_option linter.unusedSimpArgs false
theorem named_size (s : ByteArray) (more : Int) (h : namedB s more = true) : 1 ≤ s.size ∧ s.size ≤ 200 := by
  unfold namedB at h
  simp only [Bool.and_eq_true, decide_eq_true_eq] at h
  exact h.2
theorem wrap_one (n : Nat) (h : n ≤ 4000000) : wrap64 ((n : Int) + 1) = ((n + 1 : Nat) : Int) := by rw [wrap_of] <;> omega
theorem wrap_two (n : Nat) (h : n ≤ 4000000) : wrap64 (((n + 1 : Nat) : Int) + 1) = ((n + 2 : Nat) : Int) := by rw [wrap_of] <;> omega
def Right (a0 : ByteArray) (l : List Lb) : Prop := namedB a0 58 = true ∧ l.length ≤ 16 ∧ l.all goodL = true ∧ (l.map nmL).Nodup
theorem nameF_not {a0 : ByteArray} {l : List Lb} (h : ¬ Right a0 l) : nameF a0 l = (⟨#[]⟩, 5) := if_neg h
end Go.Proofs.YtcikjeiebpmmcaaGreat.PureRke
