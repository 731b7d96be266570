import Derived.Test.YtapfpnfdpcgpaaaPLabx2
/-! What the words' law computes is true. -/
namespace Go.Proofs.Ytapfpnfdpcgpaaa.Pure
open Go.RowKit Go.Proofs.Ytapfpnfdpcgpaaa Go.Proofs.Ytapfpnfdpcgpaaa.PLab Go.Proofs.YtapfpnfdpcgpaaaW.PrintWords
set_option linter.unusedVariables false
set_option linter.unusedSimpArgs false
theorem known_4 : odometerlaw03_known.f 4 = some true := by kernel_rfl
theorem known_f : ∀ n, odometerlaw03_known.f (n + 4) = some true
  | 0 => known_4
  | n + 1 => odometerlaw03_known.mono (n + 4) _ (known_f n)
theorem known_ge (k : Nat) (h : 4 ≤ k) : odometerlaw03_known.f k = some true := by
  obtain ⟨n, rfl⟩ : ∃ n, k = n + 4 := ⟨k - 4, by omega⟩
  exact known_f n
def letterB (c : Int) : Bool := (decide (97 ≤ c) && decide (c ≤ 122)) || (decide (65 ≤ c) && decide (c ≤ 90)) || decide (c = 95)
theorem letter_f (c : Int) : odometerref03_letter.f c = some (letterB c) := by
  unfold odometerref03_letter.f letterB
  by_cases h1 : 97 ≤ c <;> by_cases h2 : c ≤ 122 <;> by_cases h3 : 65 ≤ c <;> by_cases h4 : c ≤ 90 <;> by_cases h5 : c = 95 <;> first | omega | simp [*]
theorem metric_step (k : Nat) (s : ByteArray) (i : Nat) (hi : i < s.size) (hs : s.size ≤ 1099511627776) :
    odometerref03_IsMetric.l0 (k + 1) s (i : Int) = if okByte 58 (bt s i) (i == 0) = true then odometerref03_IsMetric.l0 k s ((i + 1 : Nat) : Int) else some false := by
  have hw : wrap64 ((i : Int) + 1) = ((i + 1 : Nat) : Int) := by rw [wrap_of] <;> omega
  have h0 : ((i : Int) = 0) = ((i == 0) = true) := by simp
  rw [odometerref03_IsMetric.l0, if_pos (by omega : (i : Int) < (s.size : Int)), if_pos (by omega : (0 : Int) ≤ i), hw]
  simp only [h0, letter_f, Option.bind_some]
  generalize odometerref03_IsMetric.l0 k s ((i + 1 : Nat) : Int) = R
  generalize (i == 0) = z
  generalize bt s i = c
  unfold okByte letterB
  by_cases h1 : 97 ≤ c <;> by_cases h2 : c ≤ 122 <;> by_cases h3 : 65 ≤ c <;> by_cases h4 : c ≤ 90 <;> by_cases h5 : c = 95 <;> by_cases h6 : c = 58 <;> by_cases h7 : 48 ≤ c <;> by_cases h8 : c ≤ 57 <;> cases z <;> first | omega | (simp [*, Int.not_lt.2, Int.not_le.1]; try omega)
theorem metric_go (s : ByteArray) (hs : s.size ≤ 1099511627776) : ∀ (n k i : Nat), i + n = s.size → n < k → odometerref03_IsMetric.l0 k s (i : Int) = some (okFrom s 58 n i)
  | 0, k + 1, i, h, _ => by
    obtain rfl : i = s.size := by omega
    rw [odometerref03_IsMetric.l0, if_neg (by omega)]
    rfl
  | n + 1, k + 1, i, h, hk => by
    rw [metric_step k s i (by omega) hs, okFrom]
    cases okByte 58 (bt s i) (i == 0)
    · simp
    · rw [if_pos rfl, metric_go s hs n k (i + 1) (by omega) (by omega)]
      simp
theorem metric_f (k : Nat) (s : ByteArray) (hs : s.size ≤ 1099511627776) (hk : s.size + 2 ≤ k) : odometerref03_IsMetric.f k s = some (namedB s 58) := by
  obtain ⟨k, rfl⟩ : ∃ j, k = j + 1 := ⟨k - 1, by omega⟩
  unfold odometerref03_IsMetric.f namedB
  by_cases h1 : (s.size : Int) < 1
  · rw [if_pos h1, odometerref03_IsMetric.j0, if_pos rfl]
    have : ¬ 1 ≤ s.size := by omega
    simp [this]
  · rw [if_neg h1, odometerref03_IsMetric.j0]
    have h1' : 1 ≤ s.size := by omega
    by_cases h2 : (s.size : Int) > 200
    · have : ¬ s.size ≤ 200 := by omega
      rw [if_pos (by simpa using h2)]
      simp [this]
    · have h2' : s.size ≤ 200 := by omega
      rw [if_neg (by simpa using h2)]
      have := metric_go s hs s.size k 0 (by omega) (by omega)
      rw [show ((0 : Nat) : Int) = 0 from rfl] at this
      rw [this]
      simp [h1', h2']
def noColon (s : ByteArray) : Nat → Nat → Bool
  | 0, _ => true
  | n + 1, i => !decide (bt s i = 58) && noColon s n (i + 1)
theorem ok_word (c : Int) (z : Bool) : okByte 95 c z = (!decide (c = 58) && okByte 58 c z) := by
  unfold okByte
  by_cases h : c = 58
  · subst h; cases z <;> rfl
  · by_cases h5 : c = 95 <;> simp [h, h5]
theorem word_from (s : ByteArray) : ∀ (n i : Nat), okFrom s 95 n i = (noColon s n i && okFrom s 58 n i)
  | 0, _ => rfl
  | n + 1, i => by
    rw [okFrom, okFrom, noColon, word_from s n (i + 1), ok_word]
    cases decide (bt s i = 58) <;> cases okByte 58 (bt s i) (i == 0) <;> cases noColon s n (i + 1) <;> simp
theorem word_go (s : ByteArray) (hs : s.size ≤ 1099511627776) : ∀ (n k i : Nat), i + n = s.size → n + s.size + 2 < k → odometerref03_IsWord.l0 k s (i : Int) = some (noColon s n i && namedB s 58)
  | 0, k + 1, i, h, hk => by
    obtain rfl : i = s.size := by omega
    rw [odometerref03_IsWord.l0, if_neg (by omega), metric_f k s hs (by omega)]
    simp [noColon]
  | n + 1, k + 1, i, h, hk => by
    have hw : wrap64 ((i : Int) + 1) = ((i + 1 : Nat) : Int) := by rw [wrap_of] <;> omega
    rw [odometerref03_IsWord.l0, if_pos (by omega), if_pos (by omega), hw, word_go s hs n k (i + 1) (by omega) (by omega), noColon]
    by_cases h : bt s i = 58 <;> simp [h]
theorem word_f (k : Nat) (s : ByteArray) (hs : s.size ≤ 1099511627776) (hk : 2 * s.size + 3 ≤ k) : odometerref03_IsWord.f k s = some (namedB s 95) := by
  have := word_go s hs s.size k 0 (by omega) (by omega)
  rw [show ((0 : Nat) : Int) = 0 from rfl] at this
  unfold odometerref03_IsWord.f
  rw [this]
  unfold namedB
  rw [word_from]
  cases noColon s s.size 0 <;> simp
theorem words_true (a0 a1 : ByteArray) (h0 : a0.size ≤ 300) (h1 : a1.size ≤ 300) : odometerlaw03_LabelWords.f 2000 a0 a1 = some true := by
  have e1 : ¬ (a0.size : Int) > 300 := by omega
  have e2 : ¬ (a1.size : Int) > 300 := by omega
  have l1 : label_IsWord.f a0 = some (namedB a0 95) := by simp [label_IsWord.f, label_named.f, show a0.size ≤ 1099511627776 by omega]
  have l2 : label_IsMetric.f a0 = some (namedB a0 58) := by simp [label_IsMetric.f, label_named.f, show a0.size ≤ 1099511627776 by omega]
  have r1 : ∀ k, 1000 ≤ k → odometerref03_IsWord.f k a0 = some (namedB a0 95) := fun k hk => word_f k a0 (by omega) (by omega)
  have r2 : ∀ k, 1000 ≤ k → odometerref03_IsMetric.f k a0 = some (namedB a0 58) := fun k hk => metric_f k a0 (by omega) (by omega)
  have key : ∀ x, (if Op.bytesLess a0.toList a1.toList then (-1 : Int) else if Op.bytesLess a1.toList a0.toList then 1 else 0) = x → (if Op.bytesLess a1.toList a0.toList then (-1 : Int) else if Op.bytesLess a0.toList a1.toList then 1 else 0) = wrap64 (-x) → odometerlaw03_LabelWords.j2 1998 a0 a1 x = some true := by
    intro x hx hy
    rw [odometerlaw03_LabelWords.j2, l1, r1 1997 (by omega), l2, r2 1997 (by omega), known_ge 1997 (by omega)]
    simp only [Option.bind_some, label_Compare.f, cmp_Compare_string.f, hx, hy, BEq.rfl, if_true]
  unfold odometerlaw03_LabelWords.f
  rw [if_neg e1, odometerlaw03_LabelWords.j0, if_neg (by simpa using e2)]
  cases h3 : Op.bytesLess a0.toList a1.toList with
  | true =>
    have h4 : Op.bytesLess a1.toList a0.toList = false := by
      cases h4 : Op.bytesLess a1.toList a0.toList with
      | false => rfl
      | true => have := less_trans h3 h4; rw [less_irrefl] at this; cases this
    rw [if_pos rfl, odometerlaw03_LabelWords.j1, h4, if_neg (by simp), key (-1) (by simp [h3]) (by simp [h3, h4]; (first | rfl | (rw [wrap_of] <;> omega)))]
  | false =>
    rw [if_neg (by simp), odometerlaw03_LabelWords.j1]
    cases h4 : Op.bytesLess a1.toList a0.toList with
    | true => rw [if_pos rfl, key 1 (by simp [h3, h4]) (by simp [h4]; (first | rfl | (rw [wrap_of] <;> omega)))]
    | false => rw [if_neg (by simp), key 0 (by simp [h3, h4]) (by simp [h3, h4]; (first | rfl | (rw [wrap_of] <;> omega)))]
theorem LabelWords : odometerlaw03_LabelWords.Pure := by
  intro a0 a1 _ _
  by_cases h0 : a0.size ≤ 300
  · by_cases h1 : a1.size ≤ 300
    · exact ⟨2000, words_true a0 a1 h0 h1⟩
    · refine ⟨10, ?_⟩
      have e1 : ¬ (a0.size : Int) > 300 := by omega
      have e2 : (a1.size : Int) > 300 := by omega
      unfold odometerlaw03_LabelWords.f
      rw [if_neg e1, odometerlaw03_LabelWords.j0, if_pos (by simpa using e2), known_ge 9 (by omega)]
      rfl
  · refine ⟨10, ?_⟩
    have e1 : (a0.size : Int) > 300 := by omega
    unfold odometerlaw03_LabelWords.f
    rw [if_pos e1, odometerlaw03_LabelWords.j0, if_pos rfl, known_ge 9 (by omega)]
    rfl
end Go.Proofs.Ytapfpnfdpcgpaaa.Pure
