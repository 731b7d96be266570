/- A text of this claim, pruned by a program of the session (prune.py) to what the theorem rests on. -/
import Derived.Test.YtedchpflcemdkaaGreatQmPCmax0
import Derived.Test.YtedchpflcemdkaaGreatQmPCmax1
import Derived.Test.YtedchpflcemdkaaGreatQmPCmax2
import Derived.Test.YtedchpflcemdkaaGreatQmPCmax3
import Derived.Test.YtedchpflcemdkaaGreatQmPCmax4
import Derived.Test.YtedchpflcemdkaaGreatQmPCmax5
import Derived.Test.YtedchpflcemdkaaGreatQmPCmax6
import Derived.Test.YtedchpflcemdkaaGreatQmPCmax7
import Derived.Test.YtedchpflcemdkaaGreatQmPCmax8
import Derived.Test.YtedchpflcemdkaaGreatQmPCmax9
namespace Go.Proofs.YtedchpflcemdkaaGreat.PureCma
open Go.RowKit Go.Proofs.YtedchpflcemdkaaGreat Go.Proofs.YtedchpflcemdkaaGreat.PCma Go.Proofs.YtedchpflcemdkaaGreatW.PrintWords
set_option linter.unusedVariables false
set_option linter.unusedSimpArgs false
theorem known_40 : odometerlaw13_known.f 40 = some true := by kernel_rfl
theorem known_f : ∀ n, odometerlaw13_known.f (n + 40) = some true
  | 0 => known_40
  | n + 1 => odometerlaw13_known.mono (n + 40) _ (known_f n)
theorem known_ge (k : Nat) (h : 40 ≤ k) : odometerlaw13_known.f k = some true := by
  obtain ⟨n, rfl⟩ : ∃ n, k = n + 40 := ⟨k - 40, by omega⟩
  exact known_f n
def letterB (c : Int) : Bool := (decide (97 ≤ c) && decide (c ≤ 122)) || (decide (65 ≤ c) && decide (c ≤ 90)) || decide (c = 95)
theorem letter_f (c : Int) : odometerref03_letter.f c = some (letterB c) := by
  unfold odometerref03_letter.f letterB
  by_cases h1 : 97 ≤ c <;> by_cases h2 : c ≤ 122 <;> by_cases h3 : 65 ≤ c <;> by_cases h4 : c ≤ 90 <;> by_cases h5 : c = 95 <;> first | omega | simp [*]
theorem metric_step (k : Nat) (s : ByteArray) (i : Nat) (hi : i < s.size) (hs : s.size ≤ 1099511627776) :
    odometerref03_IsMetric.l0 (k + 1) s (i : Int) = if okByte 58 (bt s i) (i == 0) = true then odometerref03_IsMetric.l0 k s ((i + 1 : Nat) : Int) else some false := by
  have hw : wrap64 ((i : Int) + 1) = ((i + 1 : Nat) : Int) := by rw [wrap_of] <;> omega
  have h0 : ((i : Int) = 0) = ((i == 0) = true) := by simp
  rw [odometerref03_IsMetric.l0, if_pos (by omega : (i : Int) < (s.size : Int)), if_pos (by omega : (0 : Int) ≤ i), hw]
  simp only [h0, letter_f, Option.bind_some]
  generalize odometerref03_IsMetric.l0 k s ((i + 1 : Nat) : Int) = R
  generalize (i == 0) = z
  generalize bt s i = c
  unfold okByte letterB
  by_cases h1 : 97 ≤ c <;> by_cases h2 : c ≤ 122 <;> by_cases h3 : 65 ≤ c <;> by_cases h4 : c ≤ 90 <;> by_cases h5 : c = 95 <;> by_cases h6 : c = 58 <;> by_cases h7 : 48 ≤ c <;> by_cases h8 : c ≤ 57 <;> cases z <;> first | omega | (simp [*, Int.not_lt.2, Int.not_le.1]; try omega)
theorem metric_go (s : ByteArray) (hs : s.size ≤ 1099511627776) : ∀ (n k i : Nat), i + n = s.size → n < k → odometerref03_IsMetric.l0 k s (i : Int) = some (okFrom s 58 n i)
  | 0, k + 1, i, h, _ => by
    obtain rfl : i = s.size := by omega
    rw [odometerref03_IsMetric.l0, if_neg (by omega)]
    rfl
  | n + 1, k + 1, i, h, hk => by
    rw [metric_step k s i (by omega) hs, okFrom]
    cases okByte 58 (bt s i) (i == 0)
    · simp
    · rw [if_pos rfl, metric_go s hs n k (i + 1) (by omega) (by omega)]
      simp
theorem metric_f (k : Nat) (s : ByteArray) (hs : s.size ≤ 1099511627776) (hk : s.size + 2 ≤ k) : odometerref03_IsMetric.f k s = some (namedB s 58) := by
  obtain ⟨k, rfl⟩ : ∃ j, k = j + 1 := ⟨k - 1, by omega⟩
  unfold odometerref03_IsMetric.f namedB
  by_cases h1 : (s.size : Int) < 1
  · rw [if_pos h1, odometerref03_IsMetric.j0, if_pos rfl]
    have : ¬ 1 ≤ s.size := by omega
    simp [this]
  · rw [if_neg h1, odometerref03_IsMetric.j0]
    have h1' : 1 ≤ s.size := by omega
    by_cases h2 : (s.size : Int) > 200
    · have : ¬ s.size ≤ 200 := by omega
      rw [if_pos (by simpa using h2)]
      simp [this]
    · have h2' : s.size ≤ 200 := by omega
      rw [if_neg (by simpa using h2)]
      have := metric_go s hs s.size k 0 (by omega) (by omega)
      rw [show ((0 : Nat) : Int) = 0 from rfl] at this
      rw [this]
      simp [h1', h2']
def noColon (s : ByteArray) : Nat → Nat → Bool
  | 0, _ => true
  | n + 1, i => !decide (bt s i = 58) && noColon s n (i + 1)
theorem ok_word (c : Int) (z : Bool) : okByte 95 c z = (!decide (c = 58) && okByte 58 c z) := by
  unfold okByte
  by_cases h : c = 58
  · subst h; cases z <;> rfl
  · by_cases h5 : c = 95 <;> simp [h, h5]
theorem word_from (s : ByteArray) : ∀ (n i : Nat), okFrom s 95 n i = (noColon s n i && okFrom s 58 n i)
  | 0, _ => rfl
  | n + 1, i => by
    rw [okFrom, okFrom, noColon, word_from s n (i + 1), ok_word]
    cases decide (bt s i = 58) <;> cases okByte 58 (bt s i) (i == 0) <;> cases noColon s n (i + 1) <;> simp
theorem word_go (s : ByteArray) (hs : s.size ≤ 1099511627776) : ∀ (n k i : Nat), i + n = s.size → n + s.size + 2 < k → odometerref03_IsWord.l0 k s (i : Int) = some (noColon s n i && namedB s 58)
  | 0, k + 1, i, h, hk => by
    obtain rfl : i = s.size := by omega
    rw [odometerref03_IsWord.l0, if_neg (by omega), metric_f k s hs (by omega)]
    simp [noColon]
  | n + 1, k + 1, i, h, hk => by
    have hw : wrap64 ((i : Int) + 1) = ((i + 1 : Nat) : Int) := by rw [wrap_of] <;> omega
    rw [odometerref03_IsWord.l0, if_pos (by omega), if_pos (by omega), hw, word_go s hs n k (i + 1) (by omega) (by omega), noColon]
    by_cases h : bt s i = 58 <;> simp [h]
theorem word_f (k : Nat) (s : ByteArray) (hs : s.size ≤ 1099511627776) (hk : 2 * s.size + 3 ≤ k) : odometerref03_IsWord.f k s = some (namedB s 95) := by
  have := word_go s hs s.size k 0 (by omega) (by omega)
  rw [show ((0 : Nat) : Int) = 0 from rfl] at this
  unfold odometerref03_IsWord.f
  rw [this]
  unfold namedB
  rw [word_from]
  cases noColon s s.size 0 <;> simp
theorem hostB_iff (c : Int) : hostB c = true ↔ ((97 ≤ c ∧ c ≤ 122) ∨ (65 ≤ c ∧ c ≤ 90) ∨ (48 ≤ c ∧ c ≤ 57) ∨ c = 45 ∨ c = 46 ∨ c = 58 ∨ c = 91 ∨ c = 93) := by
  simp [hostB]
set_option maxRecDepth 100000 in
set_option maxHeartbeats 1000000 in
theorem rhost_step (k : Nat) (s : ByteArray) (i : Nat) (hi : i < s.size) (hs : s.size ≤ 1099511627776) :
    odometerref05_MayHost.l0 (k + 1) s (i : Int) = if hostB (bt s i) = true then odometerref05_MayHost.l0 k s ((i + 1 : Nat) : Int) else some false := by
  have hw : wrap64 ((i : Int) + 1) = ((i + 1 : Nat) : Int) := by rw [wrap_of] <;> omega
  rw [odometerref05_MayHost.l0, if_pos (by omega : (i : Int) < (s.size : Int)), if_pos (by omega : (0 : Int) ≤ i), hw]
  generalize odometerref05_MayHost.l0 k s ((i + 1 : Nat) : Int) = R
  generalize bt s i = c
  have hh := hostB_iff c
  by_cases hb : hostB c = true
  · rw [if_pos hb]
    have h := hh.1 hb
    clear hh hb
    rcases h with ⟨h1, h2⟩ | ⟨h1, h2⟩ | ⟨h1, h2⟩ | rfl | rfl | rfl | rfl | rfl
    · rw [if_pos h1, if_pos h2]
    · rw [if_neg (by omega), if_pos h1, if_pos h2]
    · rw [if_neg (by omega), if_neg (by omega), if_pos h1, if_pos h2]
    · rfl
    · rfl
    · rfl
    · rfl
    · rfl
  · rw [if_neg hb]
    have h : ¬ ((97 ≤ c ∧ c ≤ 122) ∨ (65 ≤ c ∧ c ≤ 90) ∨ (48 ≤ c ∧ c ≤ 57) ∨ c = 45 ∨ c = 46 ∨ c = 58 ∨ c = 91 ∨ c = 93) := fun e => hb (hh.2 e)
    have e1 : ¬ c = 45 := by omega
    have e2 : ¬ c = 46 := by omega
    have e3 : ¬ c = 58 := by omega
    have e4 : ¬ c = 91 := by omega
    have e5 : ¬ c = 93 := by omega
    have hr : c > 122 ∨ (90 < c ∧ c < 97) ∨ (57 < c ∧ c < 65) ∨ c < 48 := by omega
    clear hh hb h
    rcases hr with h1 | ⟨h1, h2⟩ | ⟨h1, h2⟩ | h1
    · rw [if_pos (by omega), if_neg (by omega), if_pos (by omega), if_neg (by omega), if_pos (by omega), if_neg (by omega), if_neg e1, if_neg e2, if_neg e3, if_neg e4, if_neg e5]
    · rw [if_neg (by omega), if_pos (by omega), if_neg (by omega), if_pos (by omega), if_neg (by omega), if_neg e1, if_neg e2, if_neg e3, if_neg e4, if_neg e5]
    · rw [if_neg (by omega), if_neg (by omega), if_pos (by omega), if_neg (by omega), if_neg e1, if_neg e2, if_neg e3, if_neg e4, if_neg e5]
    · rw [if_neg (by omega), if_neg (by omega), if_neg (by omega), if_neg e1, if_neg e2, if_neg e3, if_neg e4, if_neg e5]
set_option maxRecDepth 100000 in
theorem rhost_go (s : ByteArray) (hs : s.size ≤ 1099511627776) : ∀ (n k i : Nat), i + n = s.size → n < k → odometerref05_MayHost.l0 k s (i : Int) = some (allB hostB s n i && (decide (1 ≤ s.size) && decide (s.size ≤ 255)))
  | 0, k + 1, i, h, _ => by
    obtain rfl : i = s.size := by omega
    rw [odometerref05_MayHost.l0, if_neg (by omega), allB, Bool.true_and]
    by_cases h1 : 1 ≤ s.size
    · rw [if_pos (by omega), decide_eq_true h1, Bool.true_and]
      congr 1
      exact decide_eq_decide.2 (by omega)
    · rw [if_neg (by omega), decide_eq_false h1, Bool.false_and]
  | n + 1, k + 1, i, h, hk => by
    rw [rhost_step k s i (by omega) hs, allB]
    cases hostB (bt s i)
    · simp
    · rw [if_pos rfl, rhost_go s hs n k (i + 1) (by omega) (by omega)]
      simp
theorem rhost_f (k : Nat) (s : ByteArray) (hs : s.size ≤ 1099511627776) (hk : s.size < k) : odometerref05_MayHost.f k s = some (hostOK s) := rhost_go s hs s.size k 0 (by omega) hk
theorem rpath_go (s : ByteArray) (hs : s.size ≤ 1099511627776) : ∀ (n k i : Nat), i + n = s.size → n < k → odometerref05_MayPath.l0 k s (i : Int) = some (allB pathB s n i)
  | 0, k + 1, i, h, _ => by
    obtain rfl : i = s.size := by omega
    rw [odometerref05_MayPath.l0, if_neg (by omega), allB]
  | n + 1, k + 1, i, h, hk => by
    have hw : wrap64 ((i : Int) + 1) = ((i + 1 : Nat) : Int) := by rw [wrap_of] <;> omega
    rw [odometerref05_MayPath.l0, if_pos (by omega), if_pos (by omega), hw, rpath_go s hs n k (i + 1) (by omega) (by omega), allB]
    generalize allB pathB s n (i + 1) = R
    generalize bt s i = c
    unfold pathB
    by_cases g1 : c ≤ 32 <;> by_cases g2 : c > 126 <;> by_cases g3 : c = 35 <;> first | omega | (simp [g1, g2, g3, Int.not_lt.1]; try omega)
theorem rpath_f (k : Nat) (s : ByteArray) (hs : s.size ≤ 1099511627776) (hk : s.size + 1 < k) : odometerref05_MayPath.f k s = some (pathOK s) := by
  obtain ⟨k, rfl⟩ : ∃ j, k = j + 1 := ⟨k - 1, by omega⟩
  have hg := rpath_go s hs s.size k 0 (by omega) (by omega)
  rw [show ((0 : Nat) : Int) = 0 from rfl] at hg
  unfold odometerref05_MayPath.f pathOK
  by_cases h1 : s.size = 0
  · rw [if_pos (by omega), odometerref05_MayPath.j0, if_pos rfl]
    simp [h1]
  · rw [if_neg (by omega)]
    by_cases h2 : s.size > 1024
    · rw [if_pos (by omega), odometerref05_MayPath.j0, if_pos rfl]
      have : ¬ s.size ≤ 1024 := by omega
      simp [this]
    · rw [if_neg (by omega), if_pos (by omega), odometerref05_MayPath.j0, hg]
      have h3 : s.size ≤ 1024 := by omega
      have h4 : 0 < s.size := by omega
      by_cases h5 : bt s 0 = 47
      · simp [h3, h4, h5]
      · simp [h3, h4, h5]
theorem rtarget_f (k : Nat) (a b c : ByteArray) (i t : Int) (hb : b.size ≤ 1099511627776) (hc : c.size ≤ 1099511627776) (hk : 1099511627780 ≤ k) : odometerref13_MayTarget.f k a b c i t = some (mayTB a b c i t) := by
  unfold odometerref13_MayTarget.f mayTB inB
  rw [rhost_f k b hb (by omega), rpath_f k c hc (by omega)]
  by_cases h1 : a.size = 0
  · have : ¬ (1 : Int) ≤ (a.size : Int) := by omega
    rw [if_pos (by omega), decide_eq_false this]
    rfl
  · rw [if_neg (by omega), decide_eq_true (by omega : (1 : Int) ≤ (a.size : Int))]
    by_cases h2 : (a.size : Int) > 1024
    · rw [if_pos h2, decide_eq_false (by omega : ¬ (a.size : Int) ≤ 1024)]
      rfl
    · rw [if_neg h2, decide_eq_true (by omega : (a.size : Int) ≤ 1024)]
      simp only [Option.bind_some]
      cases hostOK b <;> cases pathOK c <;> by_cases g1 : 1 ≤ i <;> by_cases g2 : i ≤ 1073741824 <;> by_cases g3 : 1 ≤ t <;> simp [g1, g2, g3]
end Go.Proofs.YtedchpflcemdkaaGreat.PureCma
