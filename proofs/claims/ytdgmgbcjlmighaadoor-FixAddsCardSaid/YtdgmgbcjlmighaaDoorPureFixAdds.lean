import Derived.Test.YtdgmgbcjlmighaaDoorPAddx2
namespace Go.Proofs.YtdgmgbcjlmighaaDoor.Pure
open Go.RowKit Go.Proofs.YtdgmgbcjlmighaaDoor.PAdd Go.Proofs.YtdgmgbcjlmighaaDoorW.PrintWords Go.Proofs.YtdgmgbcjlmighaaDoorW.PrintLast
set_option maxRecDepth 100000 in
theorem known_ok : odometerlaw01_known.f = some true := by kernel_rfl
/-- A whole number, kept in 64 bits. -/
def satF (n : Int) : Int × Bool := if 9223372036854775807 < n then (9223372036854775807, true) else if n < -9223372036854775808 then (-9223372036854775808, true) else (n, false)
theorem sat_in {n : Int} (h1 : -9223372036854775808 ≤ n) (h2 : n ≤ 9223372036854775807) : satF n = (n, false) := by unfold satF; rw [if_neg (by omega), if_neg (by omega)]
theorem sat_over {n : Int} (h2 : 9223372036854775807 < n) : satF n = (9223372036854775807, true) := by unfold satF; rw [if_pos h2]
theorem sat_under {n : Int} (h2 : n < -9223372036854775808) : satF n = (-9223372036854775808, true) := by unfold satF; rw [if_neg (by omega), if_pos h2]
theorem add_sat (a b : Int) (a1 : -9223372036854775808 ≤ a) (a2 : a ≤ 9223372036854775807) (b1 : -9223372036854775808 ≤ b) (b2 : b ≤ 9223372036854775807) : fix_Add.f 1 a b = some (satF (a + b)) := by
  simp only [fix_Add.f, fix_Add.j0]
  rcases Int.lt_or_le 9223372036854775807 (a + b) with h | h
  · have hw : wrap64 (a + b) = a + b - 18446744073709551616 := by unfold wrap64; omega
    rw [sat_over h, hw, if_pos (by omega), if_pos (by omega), if_pos (decide_eq_true (by omega))]
  · rcases Int.lt_or_le (a + b) (-9223372036854775808) with h2 | h2
    · have hw : wrap64 (a + b) = a + b + 18446744073709551616 := by unfold wrap64; omega
      rw [sat_under h2, hw, if_neg (by omega : ¬ a > 0), if_neg (by simp), if_pos (by omega), if_pos (by omega), if_pos (by omega)]
    · have hw : wrap64 (a + b) = a + b := by unfold wrap64; omega
      rw [sat_in h2 h, hw]
      repeat' split
      all_goals first
        | rfl
        | (exfalso; omega)
        | (exfalso; rename_i h5; have h6 := of_decide_eq_true h5; omega)
        | (exfalso; rename_i h4 h5; first | exact Bool.false_ne_true h4 | exact Bool.false_ne_true h5 | (have h6 := of_decide_eq_true h4; omega))
        | (rename_i h5; exact absurd h5 Bool.false_ne_true)
theorem ref_add_sat (a b : Int) (a1 : -9223372036854775808 ≤ a) (a2 : a ≤ 9223372036854775807) (b1 : -9223372036854775808 ≤ b) (b2 : b ≤ 9223372036854775807) : odometerref01_Add.f 1 a b = some (satF (a + b)) := by
  simp only [odometerref01_Add.f, odometerref01_Add.j0]
  rcases Int.lt_or_le 9223372036854775807 (a + b) with h | h
  · have hw : wrap64 (9223372036854775807 - b) = 9223372036854775807 - b := by unfold wrap64; omega
    rw [sat_over h, hw, if_pos (by omega), if_pos (decide_eq_true (by omega))]
  · rcases Int.lt_or_le (a + b) (-9223372036854775808) with h2 | h2
    · have hw : wrap64 ((-9223372036854775808) - b) = (-9223372036854775808) - b := by unfold wrap64; omega
      rw [sat_under h2, hw, if_neg (by omega : ¬ b > 0), if_neg (by simp), if_pos (by omega), if_pos (by omega)]
    · have hw : wrap64 (a + b) = a + b := by unfold wrap64; omega
      rw [sat_in h2 h, hw]
      by_cases hb : b > 0
      · have hw2 : wrap64 (9223372036854775807 - b) = 9223372036854775807 - b := by unfold wrap64; omega
        rw [if_pos hb, hw2, if_neg (by simp only [decide_eq_true_eq]; omega), if_neg (by omega)]
      · rw [if_neg hb, if_neg (by simp)]
        by_cases hb2 : b < 0
        · have hw2 : wrap64 ((-9223372036854775808) - b) = (-9223372036854775808) - b := by unfold wrap64; omega
          rw [if_pos hb2, hw2, if_neg (by omega)]
        · rw [if_neg hb2]
theorem sub_sat (a b : Int) (a1 : -9223372036854775808 ≤ a) (a2 : a ≤ 9223372036854775807) (b1 : -9223372036854775808 ≤ b) (b2 : b ≤ 9223372036854775807) : fix_Sub.f 1 a b = some (satF (a - b)) := by
  simp only [fix_Sub.f, fix_Sub.j0]
  rcases Int.lt_or_le 9223372036854775807 (a - b) with h | h
  · have hw : wrap64 (a - b) = a - b - 18446744073709551616 := by unfold wrap64; omega
    rw [sat_over h, hw, if_pos (by omega), if_pos (by omega), if_pos (decide_eq_true (by omega))]
  · rcases Int.lt_or_le (a - b) (-9223372036854775808) with h2 | h2
    · have hw : wrap64 (a - b) = a - b + 18446744073709551616 := by unfold wrap64; omega
      rw [sat_under h2, hw, if_neg (by omega : ¬ a ≥ 0), if_neg (by simp), if_pos (by omega), if_pos (by omega), if_pos (by omega)]
    · have hw : wrap64 (a - b) = a - b := by unfold wrap64; omega
      rw [sat_in h2 h, hw]
      repeat' split
      all_goals first
        | rfl
        | (exfalso; omega)
        | (exfalso; rename_i h5; have h6 := of_decide_eq_true h5; omega)
        | (exfalso; rename_i h4 h5; first | exact Bool.false_ne_true h4 | exact Bool.false_ne_true h5 | (have h6 := of_decide_eq_true h4; omega))
        | (rename_i h5; exact absurd h5 Bool.false_ne_true)
theorem ref_sub_sat (a b : Int) (a1 : -9223372036854775808 ≤ a) (a2 : a ≤ 9223372036854775807) (b1 : -9223372036854775808 ≤ b) (b2 : b ≤ 9223372036854775807) : odometerref01_Sub.f 1 a b = some (satF (a - b)) := by
  simp only [odometerref01_Sub.f, odometerref01_Sub.j0]
  rcases Int.lt_or_le 9223372036854775807 (a - b) with h | h
  · have hw : wrap64 (9223372036854775807 + b) = 9223372036854775807 + b := by unfold wrap64; omega
    rw [sat_over h, hw, if_pos (by omega), if_pos (decide_eq_true (by omega))]
  · rcases Int.lt_or_le (a - b) (-9223372036854775808) with h2 | h2
    · have hw : wrap64 ((-9223372036854775808) + b) = (-9223372036854775808) + b := by unfold wrap64; omega
      rw [sat_under h2, hw, if_neg (by omega : ¬ b < 0), if_neg (by simp), if_pos (by omega), if_pos (by omega)]
    · have hw : wrap64 (a - b) = a - b := by unfold wrap64; omega
      rw [sat_in h2 h, hw]
      by_cases hb : b < 0
      · have hw2 : wrap64 (9223372036854775807 + b) = 9223372036854775807 + b := by unfold wrap64; omega
        rw [if_pos hb, hw2, if_neg (by simp only [decide_eq_true_eq]; omega), if_neg (by omega)]
      · rw [if_neg hb, if_neg (by simp)]
        by_cases hb2 : b > 0
        · have hw2 : wrap64 ((-9223372036854775808) + b) = (-9223372036854775808) + b := by unfold wrap64; omega
          rw [if_pos hb2, hw2, if_neg (by omega)]
        · rw [if_neg hb2]
theorem FixAdds : odometerlaw01_FixAdds.Pure := by
  intro a b ha hb
  have ba := bounds_i64 ha
  have bb := bounds_i64 hb
  refine ⟨1, ?_⟩
  unfold odometerlaw01_FixAdds.f
  rw [add_sat a b ba.1 ba.2 bb.1 bb.2, ref_add_sat a b ba.1 ba.2 bb.1 bb.2, sub_sat a b ba.1 ba.2 bb.1 bb.2, ref_sub_sat a b ba.1 ba.2 bb.1 bb.2, known_ok]
  simp
end Go.Proofs.YtdgmgbcjlmighaaDoor.Pure
