import Derived.Test.YtdgmgbcjlmighaaDoorGDiv
import Derived.Lib.ItoaNum
import Derived.Laws.BitsAllLaws
import Derived.Laws.Bits64b
/-! Long division of two words by one: the words that are divided, shifted. -/
namespace Go.Proofs.YtdgmgbcjlmighaaDoor.DivArith
set_option linter.unusedVariables false
set_option linter.unusedSimpArgs false
open Go
structure Prep (hi lo y s t Y H L1 U L2 : Nat) : Prop where
  st : s + t = 64
  s63 : s ≤ 63
  t1 : 1 ≤ t
  eY : Y = y * 2 ^ s
  Y1 : 9223372036854775808 ≤ Y
  Y2 : Y < 18446744073709551616
  eH : H = hi * 2 ^ s
  eL1 : L1 = lo / 2 ^ t
  eU : U = H + L1
  eor : H ||| L1 = U
  eL2 : L2 = lo * 2 ^ s % 18446744073709551616
  UY : U < Y
  num : (hi * 18446744073709551616 + lo) * 2 ^ s = U * 18446744073709551616 + L2
theorem prep (hi lo y : Nat) (hy : y < 18446744073709551616) (hh : hi < y) (hl : lo < 18446744073709551616) :
    ∃ s t Y H L1 U L2 : Nat, 64 - (Lib.bitLen y : Int) = (s : Int) ∧ Prep hi lo y s t Y H L1 U L2 := by
  have hb := Lib.bitLenAux_bounds 64 y hy (by omega)
  have hbl : Lib.bitLen y = Lib.bitLenAux 64 y := rfl
  rw [← hbl] at hb
  obtain ⟨b1, b2, b3⟩ := hb
  have b64 : Lib.bitLen y ≤ 64 := by
    rcases Nat.lt_or_ge 64 (Lib.bitLen y) with h | h
    · have : (2 : Nat) ^ 64 ≤ 2 ^ (Lib.bitLen y - 1) := Nat.pow_le_pow_right (by omega) (by omega)
      have e : (2 : Nat) ^ 64 = 18446744073709551616 := by decide
      omega
    · exact h
  generalize Lib.bitLen y = b at *
  obtain ⟨s, hs⟩ : ∃ s, s + b = 64 := ⟨64 - b, by omega⟩
  have e64 : (2 : Nat) ^ b * 2 ^ s = 18446744073709551616 := by rw [← Nat.pow_add, show b + s = 64 by omega]
  have e63 : (2 : Nat) ^ (b - 1) * 2 ^ s = 9223372036854775808 := by rw [← Nat.pow_add, show b - 1 + s = 63 by omega]
  have p0 : 0 < (2 : Nat) ^ s := Nat.two_pow_pos s
  have hY1 : 9223372036854775808 ≤ y * 2 ^ s := by rw [← e63]; exact Nat.mul_le_mul_right _ b2
  have hY2 : y * 2 ^ s < 18446744073709551616 := by rw [← e64]; exact Nat.mul_lt_mul_of_pos_right b3 p0
  have hlo : lo / 2 ^ b < 2 ^ s := Nat.div_lt_of_lt_mul (by rw [e64]; exact hl)
  have hU : (hi + 1) * 2 ^ s ≤ y * 2 ^ s := Nat.mul_le_mul_right _ hh
  rw [Nat.add_mul, Nat.one_mul] at hU
  refine ⟨s, b, y * 2 ^ s, hi * 2 ^ s, lo / 2 ^ b, hi * 2 ^ s + lo / 2 ^ b, lo * 2 ^ s % 18446744073709551616, by omega, hs, by omega, b1, rfl, hY1, hY2, rfl, rfl, rfl, ?_, rfl, by omega, ?_⟩
  · rw [Nat.mul_comm hi, ← Nat.two_pow_add_eq_or_of_lt hlo hi]
  · have h1 : lo * 2 ^ s = lo / 2 ^ b * 18446744073709551616 + lo * 2 ^ s % 18446744073709551616 := by
      have h2 := Nat.div_add_mod (lo * 2 ^ s) 18446744073709551616
      have h3 : lo * 2 ^ s / 18446744073709551616 = lo / 2 ^ b := by rw [← e64, Nat.mul_div_mul_right _ _ p0]
      rw [h3] at h2
      omega
    rw [Nat.add_mul, Nat.add_mul]
    have h4 : hi * 18446744073709551616 * 2 ^ s = hi * 2 ^ s * 18446744073709551616 := Nat.mul_right_comm _ _ _
    omega
/-- The quotient and the rest, out of the shifted ones. -/
theorem unshift {X y s Q R : Nat} (hy : 0 < y) (h : X * 2 ^ s / (y * 2 ^ s) = Q ∧ X * 2 ^ s % (y * 2 ^ s) = R) : X / y = Q ∧ X % y = R / 2 ^ s := by
  have p0 : 0 < (2 : Nat) ^ s := Nat.two_pow_pos s
  rw [Nat.mul_div_mul_right _ _ p0, Nat.mul_mod_mul_right] at h
  refine ⟨h.1, ?_⟩
  rw [← h.2, Nat.mul_div_cancel _ p0]
theorem or_cast (a b c : Nat) (ha : a < 18446744073709551616) (hb : b < 18446744073709551616) (h : a ||| b = c) : bits .or .u64 (a : Int) (b : Int) = (c : Int) := by
  rw [bits_or_u64_nat a b ha hb, h]
theorem mask_cast (a : Nat) (ha : a < 18446744073709551616) : bits .and .u64 (a : Int) 4294967295 = ((a % 4294967296 : Nat) : Int) := by
  have h := bits_and_u64_nat a 4294967295 ha (by omega)
  have e : a &&& 4294967295 = a % 4294967296 := Nat.and_two_pow_sub_one_eq_mod a 32
  rw [e] at h
  exact h
end Go.Proofs.YtdgmgbcjlmighaaDoor.DivArith
