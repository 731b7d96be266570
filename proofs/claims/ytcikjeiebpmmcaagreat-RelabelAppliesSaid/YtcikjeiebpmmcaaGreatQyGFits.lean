/- Pruned. -/
import Derived.Test.YtcikjeiebpmmcaaGreatQyGMat
namespace Go.Proofs.YtcikjeiebpmmcaaGreat
open Go.RowKit
set_option linter.unusedVariables false
set_option linter.unusedSimpArgs false
inductive Tok (β : Type) where
  | star : Tok β
  | one : β → Tok β
section
variable {β : Type} (ok : β → Nat → Bool) (n : Nat)
def fitsF : List (Tok β) → Nat → Bool
  | [], k => decide (k = n)
  | .star :: r, k => (List.range (n + 1 - k)).any fun j => fitsF r (k + j)
  | .one b :: r, k => decide (k < n) && (ok b k && fitsF r (k + 1))
def standsB : List β → Nat → Bool
  | [], k => decide (k ≤ n)
  | b :: r, k => decide (k < n) && (ok b k && standsB r (k + 1))
def ones (p : List β) : List (Tok β) := p.map .one
def stars : List (List β) → List (Tok β)
  | [] => []
  | p :: r => .star :: (ones p ++ stars r)
theorem fits_star (r : List (Tok β)) (k : Nat) : fitsF ok n (.star :: r) k = true ↔ ∃ k', k ≤ k' ∧ k' ≤ n ∧ fitsF ok n r k' = true := by
  rw [fitsF, List.any_eq_true]
  constructor
  · rintro ⟨j, hj, h⟩
    have := List.mem_range.1 hj
    exact ⟨k + j, by omega, by omega, h⟩
  · rintro ⟨k', h1, h2, h⟩
    exact ⟨k' - k, List.mem_range.2 (by omega), by rwa [show k + (k' - k) = k' by omega]⟩
theorem fits_step (r : List (Tok β)) (k : Nat) (hk : k ≤ n) : fitsF ok n (.star :: r) k = (fitsF ok n r k || (decide (k < n) && fitsF ok n (.star :: r) (k + 1))) := by
  rw [Bool.eq_iff_iff, Bool.or_eq_true, Bool.and_eq_true, decide_eq_true_eq, fits_star, fits_star]
  constructor
  · rintro ⟨k', h1, h2, h⟩
    rcases Nat.eq_or_lt_of_le h1 with rfl | hlt
    · exact .inl h
    · exact .inr ⟨by omega, k', hlt, h2, h⟩
  · rintro (h | ⟨h0, k', h1, h2, h⟩)
    · exact ⟨k, Nat.le_refl _, hk, h⟩
    · exact ⟨k', by omega, h2, h⟩
theorem fits_down (r : List (Tok β)) {k k' : Nat} (h : k ≤ k') (hf : fitsF ok n (.star :: r) k' = true) : fitsF ok n (.star :: r) k = true := by
  rw [fits_star] at hf ⊢
  obtain ⟨q, h1, h2, h3⟩ := hf
  exact ⟨q, by omega, h2, h3⟩
theorem fits_ones (r : List (Tok β)) : ∀ (p : List β) (k : Nat), k ≤ n → fitsF ok n (ones p ++ r) k = (standsB ok n p k && fitsF ok n r (k + p.length))
  | [], k, hk => by simp [ones, standsB, hk]
  | b :: p, k, hk => by
    show (decide (k < n) && (ok b k && fitsF ok n (ones p ++ r) (k + 1))) = _
    rw [standsB]
    by_cases h : k < n
    · rw [fits_ones r p (k + 1) (by omega)]
      simp only [h, decide_true, Bool.true_and, List.length_cons]
      rw [show k + (p.length + 1) = k + 1 + p.length by omega, Bool.and_assoc]
    · simp [h]
theorem stands_le : ∀ (p : List β) (k : Nat), standsB ok n p k = true → k + p.length ≤ n
  | [], k, h => by simpa [standsB] using h
  | b :: p, k, h => by
    rw [standsB, Bool.and_eq_true, Bool.and_eq_true] at h
    have := stands_le p (k + 1) h.2.2
    simp only [List.length_cons]
    omega
def leastF (P : Nat → Bool) : Nat → Nat → Nat
  | 0, a => a
  | m + 1, a => if P a then a else leastF P m (a + 1)
theorem least_ge (P : Nat → Bool) : ∀ m a, a ≤ leastF P m a ∧ leastF P m a ≤ a + m
  | 0, a => by simp [leastF]
  | m + 1, a => by
    rw [leastF]
    split
    · omega
    · have := least_ge P m (a + 1); omega
theorem least_at (P : Nat → Bool) : ∀ m a, leastF P m a < a + m → P (leastF P m a) = true
  | 0, a, h => by simp [leastF] at h
  | m + 1, a, h => by
    rw [leastF] at h ⊢
    split
    · assumption
    · rename_i hp
      rw [if_neg hp] at h
      exact least_at P m (a + 1) (by omega)
theorem least_lt (P : Nat → Bool) : ∀ m a k, a ≤ k → k < leastF P m a → P k = false
  | 0, a, k, h1, h2 => by simp [leastF] at h2; omega
  | m + 1, a, k, h1, h2 => by
    rw [leastF] at h2
    split at h2
    · omega
    · rename_i hp
      rcases Nat.eq_or_lt_of_le h1 with rfl | hlt
      · simpa using hp
      · exact least_lt P m (a + 1) k hlt h2
theorem least_eq (P : Nat → Bool) (m a k : Nat) (h1 : a ≤ k) (h2 : k < a + m) (h3 : P k = true) (h4 : ∀ q, a ≤ q → q < k → P q = false) : leastF P m a = k := by
  have g1 := least_ge P m a
  rcases Nat.lt_trichotomy (leastF P m a) k with h | h | h
  · have := least_at P m a (by omega)
    rw [h4 _ g1.1 h] at this
    cases this
  · exact h
  · have := least_lt P m a k h1 h
    rw [h3] at this
    cases this
variable (text : ByteArray)
def tookF : List (Tok β) → Nat → List ByteArray
  | [], _ => []
  | .one _ :: r, k => tookF r (k + 1)
  | .star :: r, k => text.extract k (leastF (fitsF ok n r) (n + 1 - k) k) :: tookF r (leastF (fitsF ok n r) (n + 1 - k) k)
theorem took_ones (r : List (Tok β)) : ∀ (p : List β) (k : Nat), tookF ok n text (ones p ++ r) k = tookF ok n text r (k + p.length)
  | [], k => rfl
  | b :: p, k => by
    show tookF ok n text (ones p ++ r) (k + 1) = _
    rw [took_ones r p (k + 1), List.length_cons, show k + 1 + p.length = k + (p.length + 1) by omega]
theorem find_least (st : List β → Int → Option Bool) (p : List β) (hst : ∀ a, a ≤ n → st p (a : Int) = some (standsB ok n p a)) : ∀ (m a : Nat), a + m ≤ n + 1 → findF st p m a = some (leastF (standsB ok n p) m a)
  | 0, a, _ => rfl
  | m + 1, a, h => by
    rw [findF, hst a (by omega), Option.bind_some, leastF]
    split
    · rfl
    · exact find_least st p hst m (a + 1) (by omega)
theorem rest_eq (st : List β → Int → Option Bool) (hn : n = text.size) : ∀ (r : List (List β)) (a : Nat) (took : List ByteArray), (∀ p ∈ r, ∀ a, a ≤ n → st p (a : Int) = some (standsB ok n p a)) → r ≠ [] → a ≤ n →
    restF st text r a took = some (if fitsF ok n (stars r) a = true then (took ++ tookF ok n text (stars r) a, true) else ([], false))
  | [], _, _, _, h, _ => absurd rfl h
  | [p], a, took, hst, _, ha => by
    have hs := hst p List.mem_cons_self
    rw [restF, if_pos rfl]
    generalize hA : max a (text.size - p.length) = A
    have hAn : A ≤ n := by omega
    rw [find_least ok n st p hs _ _ (by omega), Option.bind_some]
    have hfit : ∀ k, k ≤ n → fitsF ok n (ones p ++ []) k = (standsB ok n p k && decide (k + p.length = n)) := fun k hk => by
      rw [fits_ones ok n [] p k hk, fitsF]
    show (if text.size < leastF (standsB ok n p) (text.size + 1 - A) A then some ([], false) else restF st text [] (leastF (standsB ok n p) (text.size + 1 - A) A + p.length) (took ++ [text.extract a (leastF (standsB ok n p) (text.size + 1 - A) A)])) = some (if fitsF ok n (.star :: (ones p ++ [])) a = true then (took ++ tookF ok n text (.star :: (ones p ++ [])) a, true) else ([], false))
    by_cases hf : fitsF ok n (.star :: (ones p ++ [])) a = true
    · rw [if_pos hf]
      obtain ⟨k, h1, h2, h3⟩ := (fits_star ok n _ a).1 hf
      rw [hfit k h2, Bool.and_eq_true, decide_eq_true_eq] at h3
      have hk : A = k := by omega
      have hl : leastF (standsB ok n p) (text.size + 1 - A) A = k := least_eq _ _ _ _ (by omega) (by omega) h3.1 (fun q q1 q2 => by omega)
      have hl2 : leastF (fitsF ok n (ones p ++ [])) (n + 1 - a) a = k := least_eq _ _ _ _ h1 (by omega) (by rw [hfit k h2, h3.1, decide_eq_true h3.2]; rfl) (fun q q1 q2 => by
        rw [hfit q (by omega), decide_eq_false (by omega), Bool.and_false])
      rw [hl, if_neg (by omega), restF, tookF, hl2, took_ones]
      rfl
    · rw [if_neg hf]
      have hno : ∀ k, A ≤ k → k ≤ n → standsB ok n p k = false := fun k h1 h2 => by
        rw [Bool.eq_false_iff]
        intro hs'
        have := stands_le ok n p k hs'
        exact hf ((fits_star ok n _ a).2 ⟨k, by omega, h2, by rw [hfit k h2, hs', decide_eq_true (by omega)]; rfl⟩)
      have hge := least_ge (standsB ok n p) (text.size + 1 - A) A
      have hlt : text.size < leastF (standsB ok n p) (text.size + 1 - A) A := by
        refine Nat.lt_of_not_le (fun hle => ?_)
        have := least_at (standsB ok n p) (text.size + 1 - A) A (by omega)
        rw [hno _ hge.1 (by omega)] at this
        cases this
      rw [if_pos hlt]
  | p :: p2 :: r, a, took, hst, _, ha => by
    have hs := hst p List.mem_cons_self
    have ih := fun a took ha => rest_eq st hn (p2 :: r) a took (fun q hq => hst q (List.mem_cons_of_mem _ hq)) (by simp) ha
    rw [restF, if_neg (by simp), find_least ok n st p hs _ _ (by omega), Option.bind_some]
    have hfit : ∀ k, k ≤ n → fitsF ok n (ones p ++ stars (p2 :: r)) k = (standsB ok n p k && fitsF ok n (stars (p2 :: r)) (k + p.length)) := fun k hk => fits_ones ok n _ p k hk
    have hge := least_ge (standsB ok n p) (text.size + 1 - a) a
    generalize hL : leastF (standsB ok n p) (text.size + 1 - a) a = L at *
    by_cases hL2 : text.size < L
    · rw [if_pos hL2, if_neg]
      intro hf
      obtain ⟨k, h1, h2, h3⟩ := (fits_star ok n _ a).1 hf
      rw [hfit k h2, Bool.and_eq_true] at h3
      have := least_lt (standsB ok n p) (text.size + 1 - a) a k h1 (by omega)
      rw [h3.1] at this
      cases this
    · rw [if_neg hL2]
      have hLs : standsB ok n p L = true := by rw [← hL]; exact least_at _ _ _ (by omega)
      have hLn := stands_le ok n p L hLs
      rw [ih (L + p.length) _ hLn]
      have hall : fitsF ok n (stars (p :: p2 :: r)) a = fitsF ok n (stars (p2 :: r)) (L + p.length) := by
        rw [Bool.eq_iff_iff]
        constructor
        · intro hf
          obtain ⟨k, h1, h2, h3⟩ := (fits_star ok n _ a).1 hf
          rw [hfit k h2, Bool.and_eq_true] at h3
          have hLk : L ≤ k := by
            refine Nat.le_of_not_lt (fun hlt => ?_)
            have := least_lt (standsB ok n p) (text.size + 1 - a) a k h1 (by omega)
            rw [h3.1] at this
            cases this
          exact fits_down ok n _ (by omega : L + p.length ≤ k + p.length) h3.2
        · intro hf
          exact (fits_star ok n _ a).2 ⟨L, hge.1, by omega, by rw [hfit L (by omega), hLs, hf]; rfl⟩
      rw [hall]
      by_cases hf : fitsF ok n (stars (p2 :: r)) (L + p.length) = true
      · rw [if_pos hf, if_pos hf]
        have hl2 : leastF (fitsF ok n (ones p ++ stars (p2 :: r))) (n + 1 - a) a = L := least_eq _ _ _ _ hge.1 (by omega) (by rw [hfit L (by omega), hLs, hf]; rfl) (fun q q1 q2 => by
          rw [hfit q (by omega), least_lt (standsB ok n p) (text.size + 1 - a) a q q1 (by omega), Bool.false_and])
        show some (took ++ [text.extract a L] ++ tookF ok n text (stars (p2 :: r)) (L + p.length), true) = some (took ++ (text.extract a (leastF (fitsF ok n (ones p ++ stars (p2 :: r))) (n + 1 - a) a) :: tookF ok n text (ones p ++ stars (p2 :: r)) (leastF (fitsF ok n (ones p ++ stars (p2 :: r))) (n + 1 - a) a)), true)
        rw [hl2, took_ones]
        simp
      · rw [if_neg hf, if_neg hf]
theorem match_eq (st : List β → Int → Option Bool) (hn : n = text.size) (p0 : List β) (r : List (List β)) (hst : ∀ p ∈ p0 :: r, ∀ a, a ≤ n → st p (a : Int) = some (standsB ok n p a)) :
    matchF st text (p0 :: r) true = some (if fitsF ok n (ones p0 ++ stars r) 0 = true then (tookF ok n text (ones p0 ++ stars r) 0, true) else ([], false)) := by
  have h0 := hst p0 List.mem_cons_self 0 (Nat.zero_le _)
  rw [show ((0 : Nat) : Int) = 0 from rfl] at h0
  unfold matchF
  rw [if_neg (by decide)]
  dsimp only
  rw [h0, Option.bind_some, fits_ones ok n _ p0 0 (Nat.zero_le _), took_ones, Nat.zero_add]
  by_cases hs : standsB ok n p0 0 = true
  · rw [hs, if_neg (by decide), Bool.true_and]
    have hl := stands_le ok n p0 0 hs
    rcases r with _ | ⟨p, r⟩
    · by_cases he : p0.length = text.size
      · rw [if_neg (by simp [he])]
        rw [restF, stars, fitsF, if_pos (decide_eq_true (by omega))]
        rfl
      · rw [if_pos ⟨rfl, he⟩, stars, fitsF, if_neg (by simp; omega)]
    · rw [if_neg (by simp), rest_eq ok n text st hn (p :: r) p0.length [] (fun q hq => hst q (List.mem_cons_of_mem _ hq)) (by simp) (by omega)]
      rfl
  · have hs' : standsB ok n p0 0 = false := by simpa using hs
    rw [hs', if_pos rfl, Bool.false_and, if_neg (by decide)]
end
end Go.Proofs.YtcikjeiebpmmcaaGreat
