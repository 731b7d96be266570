/- A text of this claim, pruned by a program of the session (prune.py) to what the theorem rests on. -/
import Derived.Test.YtcikjeiebpmmcaaGreatQyPMchx0
import Derived.Test.YtcikjeiebpmmcaaGreatQyPMchx1
import Derived.Test.YtcikjeiebpmmcaaGreatQyPMchx2
import Derived.Test.YtcikjeiebpmmcaaGreatQyPMchx3
import Derived.Test.YtcikjeiebpmmcaaGreatQyPMchx4
import Derived.Test.YtcikjeiebpmmcaaGreatQyPMchx5
import Derived.Test.YtcikjeiebpmmcaaGreatQyPMchx6
import Derived.Test.YtcikjeiebpmmcaaGreatQyPMchx7
import Derived.Test.YtcikjeiebpmmcaaGreatQyPMchx8
import Derived.Test.YtcikjeiebpmmcaaGreatQyPMchx9
import Derived.Test.YtcikjeiebpmmcaaGreatQyPMchx10
import Derived.Test.YtcikjeiebpmmcaaGreatQyPMchx11
import Derived.Test.YtcikjeiebpmmcaaGreatQyPMchx12
import Derived.Test.YtcikjeiebpmmcaaGreatQyPMchx13
import Derived.Test.YtcikjeiebpmmcaaGreatQyPMchx14
import Derived.Test.YtcikjeiebpmmcaaGreatQyPMchx15
import Derived.Test.YtcikjeiebpmmcaaGreatQyPMchx16
import Derived.Test.YtcikjeiebpmmcaaGreatQyPMchx17
import Derived.Test.YtcikjeiebpmmcaaGreatQyPMchx18
import Derived.Test.YtcikjeiebpmmcaaGreatQyPMchx19
import Derived.Test.YtcikjeiebpmmcaaGreatQyPMchx20
namespace Go.Proofs.YtcikjeiebpmmcaaGreat.PureMch
open Go.RowKit Go.Proofs.YtcikjeiebpmmcaaGreat Go.Proofs.YtcikjeiebpmmcaaGreat.PMch Go.Proofs.YtcikjeiebpmmcaaGreatW.PrintWords
set_option linter.unusedVariables false
set_option linter.unusedSimpArgs false
def letterB (c : Int) : Bool := (decide (97 ≤ c) && decide (c ≤ 122)) || (decide (65 ≤ c) && decide (c ≤ 90)) || decide (c = 95)
theorem letter_f (c : Int) : odometerref03_letter.f c = some (letterB c) := by
  unfold odometerref03_letter.f letterB
  by_cases h1 : 97 ≤ c <;> by_cases h2 : c ≤ 122 <;> by_cases h3 : 65 ≤ c <;> by_cases h4 : c ≤ 90 <;> by_cases h5 : c = 95 <;> first | omega | simp [*]
theorem metric_step (k : Nat) (s : ByteArray) (i : Nat) (hi : i < s.size) (hs : s.size ≤ 1099511627776) :
    odometerref03_IsMetric.l0 (k + 1) s (i : Int) = if okByte 58 (bt s i) (i == 0) = true then odometerref03_IsMetric.l0 k s ((i + 1 : Nat) : Int) else some false := by
  have hw : wrap64 ((i : Int) + 1) = ((i + 1 : Nat) : Int) := by rw [wrap_of] <;> omega
  have h0 : ((i : Int) = 0) = ((i == 0) = true) := by simp
  rw [odometerref03_IsMetric.l0, if_pos (by omega : (i : Int) < (s.size : Int)), if_pos (by omega : (0 : Int) ≤ i), hw]
  simp only [h0, letter_f, Option.bind_some]
  generalize odometerref03_IsMetric.l0 k s ((i + 1 : Nat) : Int) = R
  generalize (i == 0) = z
  generalize bt s i = c
  unfold okByte letterB
  by_cases h1 : 97 ≤ c <;> by_cases h2 : c ≤ 122 <;> by_cases h3 : 65 ≤ c <;> by_cases h4 : c ≤ 90 <;> by_cases h5 : c = 95 <;> by_cases h6 : c = 58 <;> by_cases h7 : 48 ≤ c <;> by_cases h8 : c ≤ 57 <;> cases z <;> first | omega | (simp [*, Int.not_lt.2, Int.not_le.1]; try omega)
theorem metric_go (s : ByteArray) (hs : s.size ≤ 1099511627776) : ∀ (n k i : Nat), i + n = s.size → n < k → odometerref03_IsMetric.l0 k s (i : Int) = some (okFrom s 58 n i)
  | 0, k + 1, i, h, _ => by
    obtain rfl : i = s.size := by omega
    rw [odometerref03_IsMetric.l0, if_neg (by omega)]
    rfl
  | n + 1, k + 1, i, h, hk => by
    rw [metric_step k s i (by omega) hs, okFrom]
    cases okByte 58 (bt s i) (i == 0)
    · simp
    · rw [if_pos rfl, metric_go s hs n k (i + 1) (by omega) (by omega)]
      simp
theorem metric_f (k : Nat) (s : ByteArray) (hs : s.size ≤ 1099511627776) (hk : s.size + 2 ≤ k) : odometerref03_IsMetric.f k s = some (namedB s 58) := by
  obtain ⟨k, rfl⟩ : ∃ j, k = j + 1 := ⟨k - 1, by omega⟩
  unfold odometerref03_IsMetric.f namedB
  by_cases h1 : (s.size : Int) < 1
  · rw [if_pos h1, odometerref03_IsMetric.j0, if_pos rfl]
    have : ¬ 1 ≤ s.size := by omega
    simp [this]
  · rw [if_neg h1, odometerref03_IsMetric.j0]
    have h1' : 1 ≤ s.size := by omega
    by_cases h2 : (s.size : Int) > 200
    · have : ¬ s.size ≤ 200 := by omega
      rw [if_pos (by simpa using h2)]
      simp [this]
    · have h2' : s.size ≤ 200 := by omega
      rw [if_neg (by simpa using h2)]
      have := metric_go s hs s.size k 0 (by omega) (by omega)
      rw [show ((0 : Nat) : Int) = 0 from rfl] at this
      rw [this]
      simp [h1', h2']
def noColon (s : ByteArray) : Nat → Nat → Bool
  | 0, _ => true
  | n + 1, i => !decide (bt s i = 58) && noColon s n (i + 1)
theorem ok_word (c : Int) (z : Bool) : okByte 95 c z = (!decide (c = 58) && okByte 58 c z) := by
  unfold okByte
  by_cases h : c = 58
  · subst h; cases z <;> rfl
  · by_cases h5 : c = 95 <;> simp [h, h5]
theorem word_from (s : ByteArray) : ∀ (n i : Nat), okFrom s 95 n i = (noColon s n i && okFrom s 58 n i)
  | 0, _ => rfl
  | n + 1, i => by
    rw [okFrom, okFrom, noColon, word_from s n (i + 1), ok_word]
    cases decide (bt s i = 58) <;> cases okByte 58 (bt s i) (i == 0) <;> cases noColon s n (i + 1) <;> simp
theorem word_go (s : ByteArray) (hs : s.size ≤ 1099511627776) : ∀ (n k i : Nat), i + n = s.size → n + s.size + 2 < k → odometerref03_IsWord.l0 k s (i : Int) = some (noColon s n i && namedB s 58)
  | 0, k + 1, i, h, hk => by
    obtain rfl : i = s.size := by omega
    rw [odometerref03_IsWord.l0, if_neg (by omega), metric_f k s hs (by omega)]
    simp [noColon]
  | n + 1, k + 1, i, h, hk => by
    have hw : wrap64 ((i : Int) + 1) = ((i + 1 : Nat) : Int) := by rw [wrap_of] <;> omega
    rw [odometerref03_IsWord.l0, if_pos (by omega), if_pos (by omega), hw, word_go s hs n k (i + 1) (by omega) (by omega), noColon]
    by_cases h : bt s i = 58 <;> simp [h]
theorem word_f (k : Nat) (s : ByteArray) (hs : s.size ≤ 1099511627776) (hk : 2 * s.size + 3 ≤ k) : odometerref03_IsWord.f k s = some (namedB s 95) := by
  have := word_go s hs s.size k 0 (by omega) (by omega)
  rw [show ((0 : Nat) : Int) = 0 from rfl] at this
  unfold odometerref03_IsWord.f
  rw [this]
  unfold namedB
  rw [word_from]
  cases noColon s s.size 0 <;> simp
end Go.Proofs.YtcikjeiebpmmcaaGreat.PureMch
