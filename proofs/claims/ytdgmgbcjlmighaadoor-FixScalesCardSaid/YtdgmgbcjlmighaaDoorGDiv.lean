/-! Long division of two words by one (the arithmetic of math/bits.Div64): one digit of 32 bits at a time. -/
namespace Go.Proofs.YtdgmgbcjlmighaaDoor.DivArith
/-- What holds of a guess q of the digit, and of what is left. -/
structure Guess (u n1 yn1 yn0 q rh : Nat) : Prop where
  sum : q * yn1 + rh = u
  above : (u * 4294967296 + n1) / (yn1 * 4294967296 + yn0) ≤ q
theorem mul_parts (a b c q : Nat) : (a * c + b) * q = q * a * c + q * b := by
  rw [Nat.add_mul, Nat.mul_right_comm, Nat.mul_comm a q, Nat.mul_comm b q]
theorem parts_mul (a b c q : Nat) : q * (a * c + b) = q * a * c + q * b := by
  rw [Nat.mul_comm, mul_parts]
theorem too_great {u n1 a b rh : Nat} (hs : a + rh = u) (h : rh * 4294967296 + n1 < b) : u * 4294967296 + n1 < a * 4294967296 + b := by
  have e : u * 4294967296 = a * 4294967296 + rh * 4294967296 := by rw [← hs, Nat.add_mul]
  rw [e, Nat.add_assoc]
  exact Nat.add_lt_add_left h _
theorem not_great {u n1 a b rh : Nat} (hs : a + rh = u) (h : b ≤ rh * 4294967296 + n1) : a * 4294967296 + b ≤ u * 4294967296 + n1 := by
  have e : u * 4294967296 = a * 4294967296 + rh * 4294967296 := by rw [← hs, Nat.add_mul]
  rw [e, Nat.add_assoc]
  exact Nat.add_le_add_left h _
theorem guess_start {u n1 yn1 yn0 : Nat} (h1 : 0 < yn1) (hn1 : n1 < 4294967296) : Guess u n1 yn1 yn0 (u / yn1) (u - u / yn1 * yn1) := by
  have h := Nat.div_mul_le_self u yn1
  refine ⟨by omega, ?_⟩
  have hy : 0 < yn1 * 4294967296 := by omega
  have e1 : (u * 4294967296 + n1) / (yn1 * 4294967296 + yn0) ≤ (u * 4294967296 + n1) / (yn1 * 4294967296) := Nat.div_le_div_left (by omega) hy
  have e2 : (u * 4294967296 + n1) / (yn1 * 4294967296) = u / yn1 := by
    rw [Nat.mul_comm yn1, ← Nat.div_div_eq_div_mul]
    congr 1
    omega
  omega
theorem guess_rest {u yn1 : Nat} (h1 : 0 < yn1) : u - u / yn1 * yn1 < yn1 := by
  have h := Nat.div_add_mod u yn1
  have h2 := Nat.mod_lt u h1
  rw [Nat.mul_comm] at h
  omega
theorem guess_below {u n1 yn1 yn0 : Nat} (hu : u < yn1 * 4294967296 + yn0) (hn1 : n1 < 4294967296) : (u * 4294967296 + n1) / (yn1 * 4294967296 + yn0) < 4294967296 := by
  apply Nat.div_lt_of_lt_mul
  have : (u + 1) * 4294967296 ≤ (yn1 * 4294967296 + yn0) * 4294967296 := Nat.mul_le_mul_right _ hu
  omega
/-- The test says that the guess is too great. -/
theorem guess_less {u n1 yn1 yn0 q rh : Nat} (g : Guess u n1 yn1 yn0 q rh) (hu : u < yn1 * 4294967296 + yn0) (hn1 : n1 < 4294967296) (h : 4294967296 ≤ q ∨ rh * 4294967296 + n1 < q * yn0) :
    1 ≤ q ∧ Guess u n1 yn1 yn0 (q - 1) (rh + yn1) := by
  have hlt : (u * 4294967296 + n1) / (yn1 * 4294967296 + yn0) < q := by
    rcases h with h | h
    · exact Nat.lt_of_lt_of_le (guess_below hu hn1) h
    · exact Nat.div_lt_of_lt_mul (Nat.lt_of_lt_of_eq (too_great g.sum h) (mul_parts yn1 yn0 4294967296 q).symm)
  have hq : 0 < q := Nat.lt_of_le_of_lt (Nat.zero_le _) hlt
  obtain ⟨p, rfl⟩ : ∃ p, q = p + 1 := ⟨q - 1, by omega⟩
  have hs := g.sum
  rw [Nat.succ_mul] at hs
  refine ⟨Nat.succ_pos _, ?_, Nat.le_of_lt_succ hlt⟩
  show p * yn1 + (rh + yn1) = u
  omega
/-- The test says that it is not. -/
theorem guess_end {u n1 yn1 yn0 q rh : Nat} (g : Guess u n1 yn1 yn0 q rh) (hy : 0 < yn1) (h : q * yn0 ≤ rh * 4294967296 + n1) : q = (u * 4294967296 + n1) / (yn1 * 4294967296 + yn0) := by
  apply Nat.le_antisymm _ g.above
  rw [Nat.le_div_iff_mul_le (by omega)]
  exact Nat.le_trans (Nat.le_of_eq (parts_mul yn1 yn0 4294967296 q)) (not_great g.sum h)
/-- What is left has grown beyond a word's half: the guess is right. -/
theorem guess_break {u n1 yn1 yn0 q rh : Nat} (g : Guess u n1 yn1 yn0 q rh) (hy : 0 < yn1) (hu : u < yn1 * 4294967296 + yn0) (hy0 : yn0 < 4294967296) (h : 4294967296 ≤ rh) : q = (u * 4294967296 + n1) / (yn1 * 4294967296 + yn0) := by
  apply guess_end g hy
  have hs := g.sum
  have hq : q * yn1 < 4294967296 * yn1 := by
    rw [Nat.mul_comm 4294967296]
    omega
  have hq' : q < 4294967296 := Nat.lt_of_mul_lt_mul_right hq
  have : q * yn0 ≤ 4294967296 * 4294967296 := Nat.mul_le_mul (by omega) (by omega)
  have : 4294967296 * 4294967296 ≤ rh * 4294967296 := Nat.mul_le_mul_right _ h
  omega
/-- Two digits are the quotient. -/
theorem two_digits {u n1 n0 y q1 q0 r : Nat} (hy : 0 < y) (h1 : q1 = (u * 4294967296 + n1) / y) (h0 : q0 = ((u * 4294967296 + n1) % y * 4294967296 + n0) / y) (hr : r = ((u * 4294967296 + n1) % y * 4294967296 + n0) % y) :
    ((u * 4294967296 + n1) * 4294967296 + n0) / y = q1 * 4294967296 + q0 ∧ ((u * 4294967296 + n1) * 4294967296 + n0) % y = r := by
  have e1 := Nat.div_add_mod (u * 4294967296 + n1) y
  have e0 := Nat.div_add_mod ((u * 4294967296 + n1) % y * 4294967296 + n0) y
  rw [← h1] at e1
  rw [← h0, ← hr] at e0
  have hrl : r < y := by rw [hr]; exact Nat.mod_lt _ hy
  have e : (u * 4294967296 + n1) * 4294967296 + n0 = y * (q1 * 4294967296 + q0) + r := by
    have e2 := parts_mul q1 q0 4294967296 y
    omega
  rw [e]
  exact ⟨by rw [Nat.mul_add_div hy, Nat.div_eq_of_lt hrl, Nat.add_zero], by rw [Nat.mul_add_mod, Nat.mod_eq_of_lt hrl]⟩
end Go.Proofs.YtdgmgbcjlmighaaDoor.DivArith
