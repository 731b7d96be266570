import Derived.Test.YtapfpnfdpcgpaaaPLapx
import Derived.Test.YtapfpnfdpcgpaaaPureLapPar
/-! The reference's Same and Much. -/
namespace Go.Proofs.Ytapfpnfdpcgpaaa.PureLap
open Go.RowKit Go.Proofs.Ytapfpnfdpcgpaaa Go.Proofs.Ytapfpnfdpcgpaaa.PLap Go.Proofs.YtapfpnfdpcgpaaaW.PrintWords
set_option linter.unusedVariables false
set_option linter.unusedSimpArgs false
theorem same_go (l : List Lb) (hl : l.length ≤ 40) : ∀ (n k i : Nat), i + n = l.length → n < k → odometerref03_Same.l0 k l l (i : Int) = some true
  | 0, k + 1, i, h, hk => by
    rw [odometerref03_Same.l0, if_neg (by omega)]
  | n + 1, k + 1, i, h, hk => by
    rw [odometerref03_Same.l0, if_pos (by omega), if_pos (by omega), if_pos (by omega), if_neg (by simp), wrap_one i (by omega)]
    exact same_go l hl n k (i + 1) (by omega) (by omega)
theorem same_f (l : List Lb) (hl : l.length ≤ 40) (k : Nat) (hk : 41 ≤ k) : odometerref03_Same.f k l l = some true := by
  unfold odometerref03_Same.f
  rw [if_pos rfl]
  exact same_go l hl l.length k 0 (by omega) (by omega)
/-! Much -/
def sumFrom (l : List Lb) : Nat → Nat → Nat
  | 0, _ => 0
  | n + 1, i => (l.getD i z45).f0.size + (l.getD i z45).f1.size + sumFrom l n (i + 1)
theorem much_many (l : List Lb) (hl : 20 < l.length) : ∀ (n k i : Nat) (a : Int), i + n = 21 → n < k → odometerref03_Much.l0 k l a (i : Int) = some true
  | 0, k + 1, i, a, h, hk => by
    rw [odometerref03_Much.l0]
    by_cases h1 : (i : Int) < (l.length : Int)
    · rw [if_pos h1, if_neg (by omega), if_pos (by omega)]
    · rw [if_neg h1, if_pos (by omega)]
  | n + 1, k + 1, i, a, h, hk => by
    rw [odometerref03_Much.l0, if_pos (by omega), if_pos (by omega), if_pos (by omega), wrap_one i (by omega)]
    exact much_many l hl n k (i + 1) _ (by omega) (by omega)
theorem much_few (l : List Lb) (hl : l.length ≤ 20) (hs : ∀ x ∈ l, x.f0.size ≤ 140737488351232 ∧ x.f1.size ≤ 140737488351232) : ∀ (n k i a : Nat), i + n = l.length → n < k → a + n * 281474976710656 ≤ 9000000000000000 →
    odometerref03_Much.l0 k l (a : Int) (i : Int) = some (decide (3000 < a + sumFrom l n i))
  | 0, k + 1, i, a, h, hk, ha => by
    rw [odometerref03_Much.l0, if_neg (by omega), if_neg (by omega), sumFrom]
    congr 1
    rw [decide_eq_decide]
    omega
  | n + 1, k + 1, i, a, h, hk, ha => by
    have hi : i < l.length := by omega
    have hx := hs l[i] (List.getElem_mem hi)
    have g1 : l.getD i z45 = l[i] := by simp [List.getD, List.getElem?_eq_getElem hi]
    have hw : wrap64 (wrap64 ((a : Int) + ((l[i]).f0.size : Int)) + ((l[i]).f1.size : Int)) = ((a + (l[i]).f0.size + (l[i]).f1.size : Nat) : Int) := by
      rw [wrap_of ((a : Int) + ((l[i]).f0.size : Int)) (by omega) (by omega), wrap_of _ (by omega) (by omega)]
      omega
    rw [odometerref03_Much.l0, if_pos (by omega), if_pos (by omega), if_pos (by omega), wrap_one i (by omega), rd_get l i hi, hw, much_few l hl hs n k (i + 1) _ (by omega) (by omega) (by omega), sumFrom, g1]
    congr 1
    rw [decide_eq_decide]
    omega
theorem sum_small (l : List Lb) : ∀ (n i : Nat), i + n = l.length → sumFrom l n i ≤ 3000 → ∀ t, i ≤ t → (h : t < l.length) → (l[t]).f0.size ≤ 3000 ∧ (l[t]).f1.size ≤ 3000
  | 0, i, h, hs, t, h1, h2 => by omega
  | n + 1, i, h, hs, t, h1, h2 => by
    have hi : i < l.length := by omega
    have g1 : l.getD i z45 = l[i] := by simp [List.getD, List.getElem?_eq_getElem hi]
    rw [sumFrom, g1] at hs
    rcases Nat.eq_or_lt_of_le h1 with rfl | h3
    · omega
    · exact sum_small l n (i + 1) (by omega) (by omega) t (by omega) h2
theorem much_f (l : List Lb) (hs : ∀ x ∈ l, x.f0.size ≤ 140737488351232 ∧ x.f1.size ≤ 140737488351232) (k : Nat) (hk : 30 ≤ k) : (odometerref03_Much.f k l = some true) ∨ (odometerref03_Much.f k l = some false ∧ l.length ≤ 20 ∧ ∀ x ∈ l, x.f0.size ≤ 3000 ∧ x.f1.size ≤ 3000) := by
  unfold odometerref03_Much.f
  by_cases hl : 20 < l.length
  · exact Or.inl (much_many l hl 21 k 0 0 (by omega) (by omega))
  · have h := much_few l (by omega) hs l.length k 0 0 (by omega) (by omega) (by omega)
    rw [show ((0 : Nat) : Int) = 0 from rfl] at h
    rw [h]
    by_cases h3 : 3000 < 0 + sumFrom l l.length 0
    · exact Or.inl (by rw [decide_eq_true h3])
    · refine Or.inr ⟨by rw [decide_eq_false h3], by omega, fun x hx => ?_⟩
      obtain ⟨t, ht, rfl⟩ := List.getElem_of_mem hx
      exact sum_small l l.length 0 (by omega) (by omega) t (Nat.zero_le _) ht
end Go.Proofs.Ytapfpnfdpcgpaaa.PureLap
