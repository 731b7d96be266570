-- Printed for this claim by a program of the session (print2.py), out of the translation; Lean checks it.
import Derived.Test.YtdgmgbcjlmighaaDoorPScax0
namespace Go.Proofs.YtdgmgbcjlmighaaDoor.PSca
open Go.RowKit Go.Proofs.YtdgmgbcjlmighaaDoorW.PrintWords Go.Proofs.YtdgmgbcjlmighaaDoorW.PrintLast Go.Proofs.YtdgmgbcjlmighaaDoorW.PrintMore
attribute [local go_sem] max2_int min2_int max_two min_two max_three min_three max_four min_four   -- for this text's walks alone
set_option linter.unusedVariables false
set_option linter.unusedSimpArgs false

/-! ### odometerref01_Scale: function 18 -/
mutual
def odometerref01_Scale.j0 : Nat → Int → Int → Int → Option (Int × Bool)
  | 0, _, _, _ => none
  | k + 1, x0, x1, x8 => if x0 < 0 then (odometerref01_Scale.j1 k x1 x8 ((decide (x0 < 0)) != (decide (x1 < 0))) (IntKind.u64.wrap (-(IntKind.u64.wrap (x0)))) (IntKind.u64.wrap (x1))) else (odometerref01_Scale.j1 k x1 x8 ((decide (x0 < 0)) != (decide (x1 < 0))) (IntKind.u64.wrap (x0)) (IntKind.u64.wrap (x1)))
def odometerref01_Scale.j1 : Nat → Int → Int → Bool → Int → Int → Option (Int × Bool)
  | 0, _, _, _, _, _ => none
  | k + 1, x1, x8, x9, x10, x11 => if x1 < 0 then (odometerref01_Scale.j2 k x8 x9 x10 (IntKind.u64.wrap (-x11))) else (odometerref01_Scale.j2 k x8 x9 x10 x11)
def odometerref01_Scale.j2 : Nat → Int → Bool → Int → Int → Option (Int × Bool)
  | 0, _, _, _, _ => none
  | k + 1, x8, x9, x10, x11 => odometerref01_Scale.l0 k x8 x9 x10 x11 0 0 false 63
def odometerref01_Scale.l0 : Nat → Int → Bool → Int → Int → Int → Int → Bool → Int → Option (Int × Bool)
  | 0, _, _, _, _, _, _, _, _ => none
  | k + 1, x8, x9, x10, x11, x12, x13, x14, x15 => if x15 ≥ 0 then (if x14 = true then (odometerref01_Scale.j4 k x8 x9 x10 x11 x12 x13 true x15) else (odometerref01_Scale.j4 k x8 x9 x10 x11 x12 x13 (decide (x12 > 9223372036854775807)) x15)) else (if x9 = true then (odometerref01_Scale.j6 k x9 x12 x14 (decide (x13 > 0))) else (odometerref01_Scale.j6 k x9 x12 x14 false))
def odometerref01_Scale.j4 : Nat → Int → Bool → Int → Int → Int → Int → Bool → Int → Option (Int × Bool)
  | 0, _, _, _, _, _, _, _, _ => none
  | k + 1, x8, x9, x10, x11, x12, x13, x14, x15 => if x13 ≥ (IntKind.u64.wrap (x8 - x13)) then (odometerref01_Scale.j5 k x8 x9 x10 x11 (IntKind.u64.wrap ((IntKind.u64.wrap (2 * x12)) + 1)) (IntKind.u64.wrap ((IntKind.u64.wrap (x13 + x13)) - x8)) x14 x15) else (odometerref01_Scale.j5 k x8 x9 x10 x11 (IntKind.u64.wrap (2 * x12)) (IntKind.u64.wrap (x13 + x13)) x14 x15)
def odometerref01_Scale.j5 : Nat → Int → Bool → Int → Int → Int → Int → Bool → Int → Option (Int × Bool)
  | 0, _, _, _, _, _, _, _, _ => none
  | k + 1, x8, x9, x10, x11, x12, x13, x14, x15 => if 0 ≤ x15 then (if (Int.tmod (shr .u64 x10 x15) 2) = 1 then (if x8 = 0 then (none) else (if x14 = true then (if x13 ≥ (IntKind.u64.wrap (x8 - (Int.tmod x11 x8))) then (odometerref01_Scale.l0 k x8 x9 x10 x11 (IntKind.u64.wrap ((IntKind.u64.wrap (x12 + (IntKind.u64.wrap (Int.tdiv x11 x8)))) + 1)) (IntKind.u64.wrap (x13 - (IntKind.u64.wrap (x8 - (Int.tmod x11 x8))))) true (wrap64 (x15 - 1))) else (odometerref01_Scale.l0 k x8 x9 x10 x11 (IntKind.u64.wrap (x12 + (IntKind.u64.wrap (Int.tdiv x11 x8)))) (IntKind.u64.wrap (x13 + (Int.tmod x11 x8))) true (wrap64 (x15 - 1)))) else (if x13 ≥ (IntKind.u64.wrap (x8 - (Int.tmod x11 x8))) then (if (IntKind.u64.wrap (x12 + (IntKind.u64.wrap (Int.tdiv x11 x8)))) < x12 then (odometerref01_Scale.l0 k x8 x9 x10 x11 (IntKind.u64.wrap ((IntKind.u64.wrap (x12 + (IntKind.u64.wrap (Int.tdiv x11 x8)))) + 1)) (IntKind.u64.wrap (x13 - (IntKind.u64.wrap (x8 - (Int.tmod x11 x8))))) true (wrap64 (x15 - 1))) else (odometerref01_Scale.l0 k x8 x9 x10 x11 (IntKind.u64.wrap ((IntKind.u64.wrap (x12 + (IntKind.u64.wrap (Int.tdiv x11 x8)))) + 1)) (IntKind.u64.wrap (x13 - (IntKind.u64.wrap (x8 - (Int.tmod x11 x8))))) ((IntKind.u64.wrap ((IntKind.u64.wrap (x12 + (IntKind.u64.wrap (Int.tdiv x11 x8)))) + 1)) == 0) (wrap64 (x15 - 1)))) else (odometerref01_Scale.l0 k x8 x9 x10 x11 (IntKind.u64.wrap (x12 + (IntKind.u64.wrap (Int.tdiv x11 x8)))) (IntKind.u64.wrap (x13 + (Int.tmod x11 x8))) (decide ((IntKind.u64.wrap (x12 + (IntKind.u64.wrap (Int.tdiv x11 x8)))) < x12)) (wrap64 (x15 - 1)))))) else (odometerref01_Scale.l0 k x8 x9 x10 x11 x12 x13 x14 (wrap64 (x15 - 1)))) else (none)
def odometerref01_Scale.j6 : Nat → Bool → Int → Bool → Bool → Option (Int × Bool)
  | 0, _, _, _, _ => none
  | k + 1, x9, x12, x14, x111 => if x111 = true then (if x14 = true then (odometerref01_Scale.j7 k x9 (IntKind.u64.wrap (x12 + 1)) true) else (odometerref01_Scale.j7 k x9 (IntKind.u64.wrap (x12 + 1)) ((IntKind.u64.wrap (x12 + 1)) == 0))) else (odometerref01_Scale.j7 k x9 x12 x14)
def odometerref01_Scale.j7 : Nat → Bool → Int → Bool → Option (Int × Bool)
  | 0, _, _, _ => none
  | k + 1, x9, x12, x14 => if x9 = true then (if x14 = true then (odometerref01_Scale.j8 k x9 x12 x14 true) else (odometerref01_Scale.j8 k x9 x12 x14 (decide (x12 > 9223372036854775808)))) else (odometerref01_Scale.j8 k x9 x12 x14 false)
def odometerref01_Scale.j8 : Nat → Bool → Int → Bool → Bool → Option (Int × Bool)
  | 0, _, _, _, _ => none
  | k + 1, x9, x12, x14, x126 => if x126 = true then (some ((-9223372036854775808), true)) else (if x9 = true then (some (wrap64 (IntKind.u64.wrap (-x12)), false)) else (if x14 = true then (some (9223372036854775807, true)) else (if x12 > 9223372036854775807 then (some (9223372036854775807, true)) else (some (wrap64 (x12), false)))))
end
def odometerref01_Scale.f (k : Nat) (a0 : Int) (a1 : Int) (a2 : Int) : Option (Int × Bool) := if a2 < 1 then (odometerref01_Scale.j0 k a0 a1 1) else (odometerref01_Scale.j0 k a0 a1 (IntKind.u64.wrap (a2)))
theorem odometerref01_Scale.mono_l : ∀ k, (∀ y0 y1 y2, LeO (odometerref01_Scale.j0 k y0 y1 y2) (odometerref01_Scale.j0 (k + 1) y0 y1 y2)) ∧ (∀ y0 y1 y2 y3 y4, LeO (odometerref01_Scale.j1 k y0 y1 y2 y3 y4) (odometerref01_Scale.j1 (k + 1) y0 y1 y2 y3 y4)) ∧ (∀ y0 y1 y2 y3, LeO (odometerref01_Scale.j2 k y0 y1 y2 y3) (odometerref01_Scale.j2 (k + 1) y0 y1 y2 y3)) ∧ (∀ y0 y1 y2 y3 y4 y5 y6 y7, LeO (odometerref01_Scale.l0 k y0 y1 y2 y3 y4 y5 y6 y7) (odometerref01_Scale.l0 (k + 1) y0 y1 y2 y3 y4 y5 y6 y7)) ∧ (∀ y0 y1 y2 y3 y4 y5 y6 y7, LeO (odometerref01_Scale.j4 k y0 y1 y2 y3 y4 y5 y6 y7) (odometerref01_Scale.j4 (k + 1) y0 y1 y2 y3 y4 y5 y6 y7)) ∧ (∀ y0 y1 y2 y3 y4 y5 y6 y7, LeO (odometerref01_Scale.j5 k y0 y1 y2 y3 y4 y5 y6 y7) (odometerref01_Scale.j5 (k + 1) y0 y1 y2 y3 y4 y5 y6 y7)) ∧ (∀ y0 y1 y2 y3, LeO (odometerref01_Scale.j6 k y0 y1 y2 y3) (odometerref01_Scale.j6 (k + 1) y0 y1 y2 y3)) ∧ (∀ y0 y1 y2, LeO (odometerref01_Scale.j7 k y0 y1 y2) (odometerref01_Scale.j7 (k + 1) y0 y1 y2)) ∧ (∀ y0 y1 y2 y3, LeO (odometerref01_Scale.j8 k y0 y1 y2 y3) (odometerref01_Scale.j8 (k + 1) y0 y1 y2 y3))
  | 0 => ⟨fun _ _ _ r h => by simp [odometerref01_Scale.j0] at h, fun _ _ _ _ _ r h => by simp [odometerref01_Scale.j1] at h, fun _ _ _ _ r h => by simp [odometerref01_Scale.j2] at h, fun _ _ _ _ _ _ _ _ r h => by simp [odometerref01_Scale.l0] at h, fun _ _ _ _ _ _ _ _ r h => by simp [odometerref01_Scale.j4] at h, fun _ _ _ _ _ _ _ _ r h => by simp [odometerref01_Scale.j5] at h, fun _ _ _ _ r h => by simp [odometerref01_Scale.j6] at h, fun _ _ _ r h => by simp [odometerref01_Scale.j7] at h, fun _ _ _ _ r h => by simp [odometerref01_Scale.j8] at h⟩
  | k + 1 => by
    obtain ⟨ih0, ih1, ih2, ih3, ih4, ih5, ih6, ih7, ih8⟩ := odometerref01_Scale.mono_l k
    refine ⟨?_, ?_, ?_, ?_, ?_, ?_, ?_, ?_, ?_⟩
    · intro y0 y1 y2
      unfold odometerref01_Scale.j0
      repeat' first
      | (with_reducible exact ih0 _ _ _)
      | (with_reducible exact ih1 _ _ _ _ _)
      | (with_reducible exact ih2 _ _ _ _)
      | (with_reducible exact ih3 _ _ _ _ _ _ _ _)
      | (with_reducible exact ih4 _ _ _ _ _ _ _ _)
      | (with_reducible exact ih5 _ _ _ _ _ _ _ _)
      | (with_reducible exact ih6 _ _ _ _)
      | (with_reducible exact ih7 _ _ _)
      | (with_reducible exact ih8 _ _ _ _)
      | (with_reducible exact LeO.refl _)
      | (with_reducible exact LeO.none _)
      | (with_reducible refine LeO.ite ?_ ?_)
      | (with_reducible refine LeO.bind ?_ (fun _ => ?_))
      | exact ih0 _ _ _
      | exact ih1 _ _ _ _ _
      | exact ih2 _ _ _ _
      | exact ih3 _ _ _ _ _ _ _ _
      | exact ih4 _ _ _ _ _ _ _ _
      | exact ih5 _ _ _ _ _ _ _ _
      | exact ih6 _ _ _ _
      | exact ih7 _ _ _
      | exact ih8 _ _ _ _
      | exact LeO.none _
      | refine LeO.ite ?_ ?_
      | refine LeO.bind ?_ (fun _ => ?_)
    · intro y0 y1 y2 y3 y4
      unfold odometerref01_Scale.j1
      repeat' first
      | (with_reducible exact ih0 _ _ _)
      | (with_reducible exact ih1 _ _ _ _ _)
      | (with_reducible exact ih2 _ _ _ _)
      | (with_reducible exact ih3 _ _ _ _ _ _ _ _)
      | (with_reducible exact ih4 _ _ _ _ _ _ _ _)
      | (with_reducible exact ih5 _ _ _ _ _ _ _ _)
      | (with_reducible exact ih6 _ _ _ _)
      | (with_reducible exact ih7 _ _ _)
      | (with_reducible exact ih8 _ _ _ _)
      | (with_reducible exact LeO.refl _)
      | (with_reducible exact LeO.none _)
      | (with_reducible refine LeO.ite ?_ ?_)
      | (with_reducible refine LeO.bind ?_ (fun _ => ?_))
      | exact ih0 _ _ _
      | exact ih1 _ _ _ _ _
      | exact ih2 _ _ _ _
      | exact ih3 _ _ _ _ _ _ _ _
      | exact ih4 _ _ _ _ _ _ _ _
      | exact ih5 _ _ _ _ _ _ _ _
      | exact ih6 _ _ _ _
      | exact ih7 _ _ _
      | exact ih8 _ _ _ _
      | exact LeO.none _
      | refine LeO.ite ?_ ?_
      | refine LeO.bind ?_ (fun _ => ?_)
    · intro y0 y1 y2 y3
      unfold odometerref01_Scale.j2
      repeat' first
      | (with_reducible exact ih0 _ _ _)
      | (with_reducible exact ih1 _ _ _ _ _)
      | (with_reducible exact ih2 _ _ _ _)
      | (with_reducible exact ih3 _ _ _ _ _ _ _ _)
      | (with_reducible exact ih4 _ _ _ _ _ _ _ _)
      | (with_reducible exact ih5 _ _ _ _ _ _ _ _)
      | (with_reducible exact ih6 _ _ _ _)
      | (with_reducible exact ih7 _ _ _)
      | (with_reducible exact ih8 _ _ _ _)
      | (with_reducible exact LeO.refl _)
      | (with_reducible exact LeO.none _)
      | (with_reducible refine LeO.ite ?_ ?_)
      | (with_reducible refine LeO.bind ?_ (fun _ => ?_))
      | exact ih0 _ _ _
      | exact ih1 _ _ _ _ _
      | exact ih2 _ _ _ _
      | exact ih3 _ _ _ _ _ _ _ _
      | exact ih4 _ _ _ _ _ _ _ _
      | exact ih5 _ _ _ _ _ _ _ _
      | exact ih6 _ _ _ _
      | exact ih7 _ _ _
      | exact ih8 _ _ _ _
      | exact LeO.none _
      | refine LeO.ite ?_ ?_
      | refine LeO.bind ?_ (fun _ => ?_)
    · intro y0 y1 y2 y3 y4 y5 y6 y7
      unfold odometerref01_Scale.l0
      repeat' first
      | (with_reducible exact ih0 _ _ _)
      | (with_reducible exact ih1 _ _ _ _ _)
      | (with_reducible exact ih2 _ _ _ _)
      | (with_reducible exact ih3 _ _ _ _ _ _ _ _)
      | (with_reducible exact ih4 _ _ _ _ _ _ _ _)
      | (with_reducible exact ih5 _ _ _ _ _ _ _ _)
      | (with_reducible exact ih6 _ _ _ _)
      | (with_reducible exact ih7 _ _ _)
      | (with_reducible exact ih8 _ _ _ _)
      | (with_reducible exact LeO.refl _)
      | (with_reducible exact LeO.none _)
      | (with_reducible refine LeO.ite ?_ ?_)
      | (with_reducible refine LeO.bind ?_ (fun _ => ?_))
      | exact ih0 _ _ _
      | exact ih1 _ _ _ _ _
      | exact ih2 _ _ _ _
      | exact ih3 _ _ _ _ _ _ _ _
      | exact ih4 _ _ _ _ _ _ _ _
      | exact ih5 _ _ _ _ _ _ _ _
      | exact ih6 _ _ _ _
      | exact ih7 _ _ _
      | exact ih8 _ _ _ _
      | exact LeO.none _
      | refine LeO.ite ?_ ?_
      | refine LeO.bind ?_ (fun _ => ?_)
    · intro y0 y1 y2 y3 y4 y5 y6 y7
      unfold odometerref01_Scale.j4
      repeat' first
      | (with_reducible exact ih0 _ _ _)
      | (with_reducible exact ih1 _ _ _ _ _)
      | (with_reducible exact ih2 _ _ _ _)
      | (with_reducible exact ih3 _ _ _ _ _ _ _ _)
      | (with_reducible exact ih4 _ _ _ _ _ _ _ _)
      | (with_reducible exact ih5 _ _ _ _ _ _ _ _)
      | (with_reducible exact ih6 _ _ _ _)
      | (with_reducible exact ih7 _ _ _)
      | (with_reducible exact ih8 _ _ _ _)
      | (with_reducible exact LeO.refl _)
      | (with_reducible exact LeO.none _)
      | (with_reducible refine LeO.ite ?_ ?_)
      | (with_reducible refine LeO.bind ?_ (fun _ => ?_))
      | exact ih0 _ _ _
      | exact ih1 _ _ _ _ _
      | exact ih2 _ _ _ _
      | exact ih3 _ _ _ _ _ _ _ _
      | exact ih4 _ _ _ _ _ _ _ _
      | exact ih5 _ _ _ _ _ _ _ _
      | exact ih6 _ _ _ _
      | exact ih7 _ _ _
      | exact ih8 _ _ _ _
      | exact LeO.none _
      | refine LeO.ite ?_ ?_
      | refine LeO.bind ?_ (fun _ => ?_)
    · intro y0 y1 y2 y3 y4 y5 y6 y7
      unfold odometerref01_Scale.j5
      repeat' first
      | (with_reducible exact ih0 _ _ _)
      | (with_reducible exact ih1 _ _ _ _ _)
      | (with_reducible exact ih2 _ _ _ _)
      | (with_reducible exact ih3 _ _ _ _ _ _ _ _)
      | (with_reducible exact ih4 _ _ _ _ _ _ _ _)
      | (with_reducible exact ih5 _ _ _ _ _ _ _ _)
      | (with_reducible exact ih6 _ _ _ _)
      | (with_reducible exact ih7 _ _ _)
      | (with_reducible exact ih8 _ _ _ _)
      | (with_reducible exact LeO.refl _)
      | (with_reducible exact LeO.none _)
      | (with_reducible refine LeO.ite ?_ ?_)
      | (with_reducible refine LeO.bind ?_ (fun _ => ?_))
      | exact ih0 _ _ _
      | exact ih1 _ _ _ _ _
      | exact ih2 _ _ _ _
      | exact ih3 _ _ _ _ _ _ _ _
      | exact ih4 _ _ _ _ _ _ _ _
      | exact ih5 _ _ _ _ _ _ _ _
      | exact ih6 _ _ _ _
      | exact ih7 _ _ _
      | exact ih8 _ _ _ _
      | exact LeO.none _
      | refine LeO.ite ?_ ?_
      | refine LeO.bind ?_ (fun _ => ?_)
    · intro y0 y1 y2 y3
      unfold odometerref01_Scale.j6
      repeat' first
      | (with_reducible exact ih0 _ _ _)
      | (with_reducible exact ih1 _ _ _ _ _)
      | (with_reducible exact ih2 _ _ _ _)
      | (with_reducible exact ih3 _ _ _ _ _ _ _ _)
      | (with_reducible exact ih4 _ _ _ _ _ _ _ _)
      | (with_reducible exact ih5 _ _ _ _ _ _ _ _)
      | (with_reducible exact ih6 _ _ _ _)
      | (with_reducible exact ih7 _ _ _)
      | (with_reducible exact ih8 _ _ _ _)
      | (with_reducible exact LeO.refl _)
      | (with_reducible exact LeO.none _)
      | (with_reducible refine LeO.ite ?_ ?_)
      | (with_reducible refine LeO.bind ?_ (fun _ => ?_))
      | exact ih0 _ _ _
      | exact ih1 _ _ _ _ _
      | exact ih2 _ _ _ _
      | exact ih3 _ _ _ _ _ _ _ _
      | exact ih4 _ _ _ _ _ _ _ _
      | exact ih5 _ _ _ _ _ _ _ _
      | exact ih6 _ _ _ _
      | exact ih7 _ _ _
      | exact ih8 _ _ _ _
      | exact LeO.none _
      | refine LeO.ite ?_ ?_
      | refine LeO.bind ?_ (fun _ => ?_)
    · intro y0 y1 y2
      unfold odometerref01_Scale.j7
      repeat' first
      | (with_reducible exact ih0 _ _ _)
      | (with_reducible exact ih1 _ _ _ _ _)
      | (with_reducible exact ih2 _ _ _ _)
      | (with_reducible exact ih3 _ _ _ _ _ _ _ _)
      | (with_reducible exact ih4 _ _ _ _ _ _ _ _)
      | (with_reducible exact ih5 _ _ _ _ _ _ _ _)
      | (with_reducible exact ih6 _ _ _ _)
      | (with_reducible exact ih7 _ _ _)
      | (with_reducible exact ih8 _ _ _ _)
      | (with_reducible exact LeO.refl _)
      | (with_reducible exact LeO.none _)
      | (with_reducible refine LeO.ite ?_ ?_)
      | (with_reducible refine LeO.bind ?_ (fun _ => ?_))
      | exact ih0 _ _ _
      | exact ih1 _ _ _ _ _
      | exact ih2 _ _ _ _
      | exact ih3 _ _ _ _ _ _ _ _
      | exact ih4 _ _ _ _ _ _ _ _
      | exact ih5 _ _ _ _ _ _ _ _
      | exact ih6 _ _ _ _
      | exact ih7 _ _ _
      | exact ih8 _ _ _ _
      | exact LeO.none _
      | refine LeO.ite ?_ ?_
      | refine LeO.bind ?_ (fun _ => ?_)
    · intro y0 y1 y2 y3
      unfold odometerref01_Scale.j8
      repeat' first
      | (with_reducible exact ih0 _ _ _)
      | (with_reducible exact ih1 _ _ _ _ _)
      | (with_reducible exact ih2 _ _ _ _)
      | (with_reducible exact ih3 _ _ _ _ _ _ _ _)
      | (with_reducible exact ih4 _ _ _ _ _ _ _ _)
      | (with_reducible exact ih5 _ _ _ _ _ _ _ _)
      | (with_reducible exact ih6 _ _ _ _)
      | (with_reducible exact ih7 _ _ _)
      | (with_reducible exact ih8 _ _ _ _)
      | (with_reducible exact LeO.refl _)
      | (with_reducible exact LeO.none _)
      | (with_reducible refine LeO.ite ?_ ?_)
      | (with_reducible refine LeO.bind ?_ (fun _ => ?_))
      | exact ih0 _ _ _
      | exact ih1 _ _ _ _ _
      | exact ih2 _ _ _ _
      | exact ih3 _ _ _ _ _ _ _ _
      | exact ih4 _ _ _ _ _ _ _ _
      | exact ih5 _ _ _ _ _ _ _ _
      | exact ih6 _ _ _ _
      | exact ih7 _ _ _
      | exact ih8 _ _ _ _
      | exact LeO.none _
      | refine LeO.ite ?_ ?_
      | refine LeO.bind ?_ (fun _ => ?_)
theorem odometerref01_Scale.mono : ∀ a0 a1 a2 k, LeO (odometerref01_Scale.f k a0 a1 a2) (odometerref01_Scale.f (k + 1) a0 a1 a2) := by
  intro a0 a1 a2 k
  obtain ⟨ih0, ih1, ih2, ih3, ih4, ih5, ih6, ih7, ih8⟩ := odometerref01_Scale.mono_l k
  unfold odometerref01_Scale.f
  repeat' first
      | (with_reducible exact ih0 _ _ _)
      | (with_reducible exact ih1 _ _ _ _ _)
      | (with_reducible exact ih2 _ _ _ _)
      | (with_reducible exact ih3 _ _ _ _ _ _ _ _)
      | (with_reducible exact ih4 _ _ _ _ _ _ _ _)
      | (with_reducible exact ih5 _ _ _ _ _ _ _ _)
      | (with_reducible exact ih6 _ _ _ _)
      | (with_reducible exact ih7 _ _ _)
      | (with_reducible exact ih8 _ _ _ _)
      | (with_reducible exact LeO.refl _)
      | (with_reducible exact LeO.none _)
      | (with_reducible refine LeO.ite ?_ ?_)
      | (with_reducible refine LeO.bind ?_ (fun _ => ?_))
      | exact ih0 _ _ _
      | exact ih1 _ _ _ _ _
      | exact ih2 _ _ _ _
      | exact ih3 _ _ _ _ _ _ _ _
      | exact ih4 _ _ _ _ _ _ _ _
      | exact ih5 _ _ _ _ _ _ _ _
      | exact ih6 _ _ _ _
      | exact ih7 _ _ _
      | exact ih8 _ _ _ _
      | exact LeO.none _
      | refine LeO.ite ?_ ?_
      | refine LeO.bind ?_ (fun _ => ?_)
set_option maxHeartbeats 8000000 in
set_option maxRecDepth 100000 in
theorem odometerref01_Scale.calls_true (k : Nat) (a0 : Int) (a1 : Int) (a2 : Int) (r1 : Int) (r2 : Bool) (w : World) (hng0_ : ((decide (a0 < 0)) != (decide (a1 < 0))) = true) (h : odometerref01_Scale.f k a0 a1 a2 = some (r1, r2)) :
    Calls Tryd.prog 18 #[.int .i64 a0, .int .i64 a1, .int .i64 a2] w fun e w' => e = .returned (.tuple #[.int .i64 r1, .bool r2]) ∧ Drawn0 w w' := by
  have H : (if a2 < 1 then (odometerref01_Scale.j0 k a0 a1 1) else (odometerref01_Scale.j0 k a0 a1 (IntKind.u64.wrap (a2)))) = some (r1, r2) := h
  clear h
  (try rw [hng0_] at H)
  have hng_ : (!(decide (a0 < 0) == decide (a1 < 0))) = true := hng0_
  have HNG_ := Aside0.mk hng0_
  clear hng0_
  have HC4 := Aside0.mk H
  clear H
  go_enter Tryd.func18, Tryd.ntmps18
  go_upto_if 22 with (fail)
  repeat (go_quiet (fail); go_upto_if 22 with (fail))
  go_cut [8] (fun v8 wc => ∃ (kq : Nat) (x8_3 : Int), v8 = .int .u64 x8_3 ∧ Aside0 (odometerref01_Scale.j0 kq a0 a1 x8_3 = some (r1, r2)) ∧ Aside0 (kq ≤ k) ∧ Drawn0 w wc)
  case first =>
    have H := HC4.out
    clear HC4
    by_cases c5 : a2 < 1
    · rw [if_pos c5] at H
      have c5b0 : decide (a2 < 1) = true := decide_eq_true c5
      clear c5
      (first | rw [c5b0] | (simp only [i64_w, i32_w]; rw [c5b0]) | skip)
      have H' := Aside0.mk H
      clear H
      go_wp2
      repeat (go_quiet (fail); try go_wp2)
      go_meet
      case rel => exact ⟨_, (1), (by first | rfl | (simp; done) | (simp [*]; done)), H', ⟨by first | omega | exact Nat.le_refl _⟩, by repeat (first | exact Drawn0.refl _ | apply Drawn0.step)⟩
    · rw [if_neg c5] at H
      have c5b0 : decide (a2 < 1) = false := decide_eq_false c5
      clear c5
      (first | rw [c5b0] | (simp only [i64_w, i32_w]; rw [c5b0]) | skip)
      have H' := Aside0.mk H
      clear H
      go_wp2
      repeat (go_quiet (fail); try go_wp2)
      go_meet
      case rel => exact ⟨_, (IntKind.u64.wrap (a2)), (by first | rfl | (simp; done) | (simp [*]; done)), H', ⟨by first | omega | exact Nat.le_refl _⟩, by repeat (first | exact Drawn0.refl _ | apply Drawn0.step)⟩
  case rest =>
    clear HC4
    try clear c1
    try clear p2
    try clear c5
    try clear c5b0
    obtain ⟨kq, x8_3, rfl, HA, HJ3, ⟨mc3, rfl⟩⟩ := hcut
    cases kq with
    | zero => exact absurd HA.out (by simp [odometerref01_Scale.j0])
    | succ kj3 =>
      have H := HA.out
      clear HA
      simp only [odometerref01_Scale.j0] at H
      (try rw [HNG_.out] at H)
      have HC6 := Aside0.mk H
      clear H
      go_upto_if 33 with (fail)
      repeat (go_quiet (fail); go_upto_if 33 with (fail))
      go_cut [10] (fun v10 wc => ∃ (kq : Nat) (x10_5 : Int), v10 = .int .u64 x10_5 ∧ Aside0 (odometerref01_Scale.j1 kq a1 x8_3 true x10_5 (IntKind.u64.wrap (a1)) = some (r1, r2)) ∧ Aside0 (kq ≤ kj3) ∧ Drawn0 w wc)
      case first =>
        have H := HC6.out
        clear HC6
        by_cases c7 : a0 < 0
        · rw [if_pos c7] at H
          have c7b0 : decide (a0 < 0) = true := decide_eq_true c7
          (try (have hng2_ : (!decide (a1 < 0)) = true := by simpa [c7b0] using hng_))
          clear c7
          (first | rw [c7b0] | (simp only [i64_w, i32_w]; rw [c7b0]) | skip)
          have H' := Aside0.mk H
          clear H
          go_wp2
          repeat (go_quiet (fail); try go_wp2)
          go_meet
          case rel => exact ⟨_, (IntKind.u64.wrap (-(IntKind.u64.wrap (a0)))), (by first | rfl | (simp; done) | (simp [*]; done)), H', ⟨by have := HJ3.out; first | omega | exact Nat.le_refl _⟩, by repeat (first | exact Drawn0.refl _ | apply Drawn0.step)⟩
        · rw [if_neg c7] at H
          have c7b0 : decide (a0 < 0) = false := decide_eq_false c7
          (try (have hng2_ : decide (a1 < 0) = true := by simpa [c7b0] using hng_))
          clear c7
          (first | rw [c7b0] | (simp only [i64_w, i32_w]; rw [c7b0]) | skip)
          have H' := Aside0.mk H
          clear H
          go_wp2
          repeat (go_quiet (fail); try go_wp2)
          go_meet
          case rel => exact ⟨_, (IntKind.u64.wrap (a0)), (by first | rfl | (simp; done) | (simp [*]; done)), H', ⟨by have := HJ3.out; first | omega | exact Nat.le_refl _⟩, by repeat (first | exact Drawn0.refl _ | apply Drawn0.step)⟩
      case rest =>
        clear HC6
        try clear c1
        try clear p2
        try clear c3
        try clear c5
        try clear c5b0
        try clear c7
        try clear c7b0
        try clear p2
        obtain ⟨kq, x10_5, rfl, HA, HJ5, ⟨mc5, rfl⟩⟩ := hcut
        cases kq with
        | zero => exact absurd HA.out (by simp [odometerref01_Scale.j1])
        | succ kj5 =>
          have H := HA.out
          clear HA
          simp only [odometerref01_Scale.j1] at H
          (try rw [HNG_.out] at H)
          have HC8 := Aside0.mk H
          clear H
          go_upto_if 37 with (fail)
          repeat (go_quiet (fail); go_upto_if 37 with (fail))
          go_cut [11] (fun v11 wc => ∃ (kq : Nat) (x11_7 : Int), v11 = .int .u64 x11_7 ∧ Aside0 (odometerref01_Scale.j2 kq x8_3 true x10_5 x11_7 = some (r1, r2)) ∧ Aside0 (kq ≤ kj5) ∧ Drawn0 w wc)
          case first =>
            have H := HC8.out
            clear HC8
            by_cases c9 : a1 < 0
            · rw [if_pos c9] at H
              have c9b0 : decide (a1 < 0) = true := decide_eq_true c9
              clear c9
              (first | rw [c9b0] | (simp only [i64_w, i32_w]; rw [c9b0]) | skip)
              have H' := Aside0.mk H
              clear H
              go_wp2
              repeat (go_quiet (fail); try go_wp2)
              go_meet
              case rel => exact ⟨_, (IntKind.u64.wrap (-(IntKind.u64.wrap (a1)))), (by first | rfl | (simp; done) | (simp [*]; done)), H', ⟨by have := HJ3.out; have := HJ5.out; first | omega | exact Nat.le_refl _⟩, by repeat (first | exact Drawn0.refl _ | apply Drawn0.step)⟩
            · rw [if_neg c9] at H
              have c9b0 : decide (a1 < 0) = false := decide_eq_false c9
              clear c9
              (first | rw [c9b0] | (simp only [i64_w, i32_w]; rw [c9b0]) | skip)
              have H' := Aside0.mk H
              clear H
              go_wp2
              repeat (go_quiet (fail); try go_wp2)
              go_meet
              case rel => exact ⟨_, ((IntKind.u64.wrap (a1))), (by first | rfl | (simp; done) | (simp [*]; done)), H', ⟨by have := HJ3.out; have := HJ5.out; first | omega | exact Nat.le_refl _⟩, by repeat (first | exact Drawn0.refl _ | apply Drawn0.step)⟩
          case rest =>
            clear HC8
            try clear c1
            try clear p2
            try clear c3
            try clear c5
            try clear c5b0
            try clear c7
            try clear c7b0
            try clear c9
            try clear c9b0
            try clear p2
            obtain ⟨kq, x11_7, rfl, HA, HJ7, ⟨mc7, rfl⟩⟩ := hcut
            cases kq with
            | zero => exact absurd HA.out (by simp [odometerref01_Scale.j2])
            | succ kj7 =>
              have H := HA.out
              clear HA
              simp only [odometerref01_Scale.j2] at H
              (try rw [HNG_.out] at H)
              have H' := Aside0.mk H
              clear H
              go_wp2
              repeat (go_quiet (fail); try go_wp2)
              go_loopg [12, 13, 14, 15] kj7 (fun kq v12 v13 v14 v15 w' => ∃ (x12_4 : Int) (x13_4 : Int) (x14_4 : Bool) (x15_4 : Int), v12 = .int .u64 x12_4 ∧ v13 = .int .u64 x13_4 ∧ v14 = .bool x14_4 ∧ v15 = .int .i64 x15_4 ∧ Aside0 (odometerref01_Scale.l0 kq x8_3 true x10_5 x11_7 x12_4 x13_4 x14_4 x15_4 = some (r1, r2)) ∧ Aside0 (kq ≤ kj7) ∧ Drawn0 w w')
              case atStart => exact ⟨(0), (0), (false), (63), (by first | rfl | (simp; done) | (simp [*]; done)), (by first | rfl | (simp; done) | (simp [*]; done)), (by first | rfl | (simp; done) | (simp [*]; done)), (by first | rfl | (simp; done) | (simp [*]; done)), H', ⟨Nat.le_refl _⟩, by repeat (first | exact Drawn0.refl _ | apply Drawn0.step)⟩
              case round =>
                clear H'
                try clear c1
                try clear p2
                try clear c3
                try clear c5
                try clear c5b0
                try clear c7
                try clear c7b0
                try clear c9
                try clear c9b0
                try clear p2
                obtain ⟨x12_4, x13_4, x14_4, x15_4, rfl, rfl, rfl, rfl, HA, HK4, ⟨m4, rfl⟩⟩ := hrel
                cases gk with
                | zero => exact absurd HA.out (by simp [odometerref01_Scale.l0])
                | succ k4 =>
                  have H := HA.out
                  clear HA
                  simp only [odometerref01_Scale.l0] at H
                  (try rw [HNG_.out] at H)
                  by_cases c10 : x15_4 ≥ 0
                  · rw [if_pos c10] at H
                    have c10b0 : decide (0 ≤ x15_4) = true := decide_eq_true c10
                    clear c10
                    have HC11 := Aside0.mk H
                    clear H
                    go_upto_region 14 with (fail)
                    repeat (go_quiet (fail); go_upto_region 14 with (fail))
                    go_cut [14] (fun v14 wc => ∃ (kq : Nat) (x14_10 : Bool), v14 = .bool x14_10 ∧ Aside0 (odometerref01_Scale.j4 kq x8_3 true x10_5 x11_7 x12_4 x13_4 x14_10 x15_4 = some (r1, r2)) ∧ Aside0 (kq ≤ k4) ∧ Drawn0 w wc)
                    case first =>
                      have H := HC11.out
                      clear HC11
                      by_cases c12 : x14_4 = true
                      · subst c12
                        have H1 : (odometerref01_Scale.j4 k4 x8_3 true x10_5 x11_7 x12_4 x13_4 true x15_4) = some (r1, r2) := by rw [if_pos rfl] at H; exact H
                        clear H
                        have H := H1
                        clear H1
                        have H' := Aside0.mk H
                        clear H
                        go_wp2
                        repeat (go_quiet (fail); try go_wp2)
                        go_meet
                        case rel => exact ⟨_, (true), (by first | rfl | (simp; done) | (simp [*]; done)), H', ⟨by have := HJ3.out; have := HJ5.out; have := HJ7.out; have := HK4.out; first | omega | exact Nat.le_refl _⟩, by repeat (first | exact Drawn0.refl _ | apply Drawn0.step)⟩
                      · replace c12 := Bool.eq_false_iff.mpr c12
                        subst c12
                        have H1 : (odometerref01_Scale.j4 k4 x8_3 true x10_5 x11_7 x12_4 x13_4 (decide (x12_4 > 9223372036854775807)) x15_4) = some (r1, r2) := by rw [if_neg (show ¬ (false = true) by decide)] at H; exact H
                        clear H
                        have H := H1
                        clear H1
                        have H' := Aside0.mk H
                        clear H
                        go_wp2
                        repeat (go_quiet (fail); try go_wp2)
                        go_meet
                        case rel => exact ⟨_, (decide (x12_4 > 9223372036854775807)), (by first | rfl | (simp; done) | (simp [*]; done)), H', ⟨by have := HJ3.out; have := HJ5.out; have := HJ7.out; have := HK4.out; first | omega | exact Nat.le_refl _⟩, by repeat (first | exact Drawn0.refl _ | apply Drawn0.step)⟩
                    case rest =>
                      clear HC11
                      try clear c1
                      try clear p2
                      try clear c3
                      try clear c5
                      try clear c5b0
                      try clear c7
                      try clear c7b0
                      try clear c9
                      try clear c9b0
                      try clear c10
                      try clear c10b0
                      try clear c12
                      try clear p2
                      obtain ⟨kq, x14_10, rfl, HA, HJ10, ⟨mc10, rfl⟩⟩ := hcut
                      cases kq with
                      | zero => exact absurd HA.out (by simp [odometerref01_Scale.j4])
                      | succ kj10 =>
                        have H := HA.out
                        clear HA
                        simp only [odometerref01_Scale.j4] at H
                        (try rw [HNG_.out] at H)
                        have HC13 := Aside0.mk H
                        clear H
                        go_upto_if 59 with (fail)
                        repeat (go_quiet (fail); go_upto_if 59 with (fail))
                        go_cut [12, 13, 16] (fun v12 v13 v16 wc => ∃ (kq : Nat) (x12_12 : Int) (x13_12 : Int), v12 = .int .u64 x12_12 ∧ v13 = .int .u64 x13_12 ∧ Aside0 (odometerref01_Scale.j5 kq x8_3 true x10_5 x11_7 x12_12 x13_12 x14_10 x15_4 = some (r1, r2)) ∧ Aside0 (kq ≤ kj10) ∧ Drawn0 w wc)
                        case first =>
                          have H := HC13.out
                          clear HC13
                          by_cases c14 : x13_4 ≥ (IntKind.u64.wrap (x8_3 - x13_4))
                          · rw [if_pos c14] at H
                            have c14b0 : decide ((IntKind.u64.wrap (x8_3 - x13_4)) ≤ x13_4) = true := decide_eq_true c14
                            clear c14
                            (first | rw [c14b0] | (simp only [i64_w, i32_w]; rw [c14b0]) | skip)
                            have H' := Aside0.mk H
                            clear H
                            go_wp2
                            repeat (go_quiet (fail); try go_wp2)
                            go_meet
                            case rel => exact ⟨_, (IntKind.u64.wrap ((IntKind.u64.wrap (2 * x12_4)) + 1)), (IntKind.u64.wrap ((IntKind.u64.wrap (x13_4 + x13_4)) - x8_3)), (by first | rfl | (simp; done) | (simp [*]; done)), (by first | rfl | (simp; done) | (simp [*]; done)), H', ⟨by have := HJ3.out; have := HJ5.out; have := HJ7.out; have := HK4.out; have := HJ10.out; first | omega | exact Nat.le_refl _⟩, by repeat (first | exact Drawn0.refl _ | apply Drawn0.step)⟩
                          · rw [if_neg c14] at H
                            have c14b0 : decide ((IntKind.u64.wrap (x8_3 - x13_4)) ≤ x13_4) = false := decide_eq_false c14
                            clear c14
                            (first | rw [c14b0] | (simp only [i64_w, i32_w]; rw [c14b0]) | skip)
                            have H' := Aside0.mk H
                            clear H
                            go_wp2
                            repeat (go_quiet (fail); try go_wp2)
                            go_meet
                            case rel => exact ⟨_, (IntKind.u64.wrap (2 * x12_4)), (IntKind.u64.wrap (x13_4 + x13_4)), (by first | rfl | (simp; done) | (simp [*]; done)), (by first | rfl | (simp; done) | (simp [*]; done)), H', ⟨by have := HJ3.out; have := HJ5.out; have := HJ7.out; have := HK4.out; have := HJ10.out; first | omega | exact Nat.le_refl _⟩, by repeat (first | exact Drawn0.refl _ | apply Drawn0.step)⟩
                        case rest =>
                          clear HC13
                          try clear c1
                          try clear p2
                          try clear c3
                          try clear c5
                          try clear c5b0
                          try clear c7
                          try clear c7b0
                          try clear c9
                          try clear c9b0
                          try clear c10
                          try clear c10b0
                          try clear c12
                          try clear c14
                          try clear c14b0
                          try clear p2
                          obtain ⟨kq, x12_12, x13_12, rfl, rfl, HA, HJ12, ⟨mc12, rfl⟩⟩ := hcut
                          cases kq with
                          | zero => exact absurd HA.out (by simp [odometerref01_Scale.j5])
                          | succ kj12 =>
                            have H := HA.out
                            clear HA
                            simp only [odometerref01_Scale.j5] at H
                            (try rw [HNG_.out] at H)
                            by_cases c15 : 0 ≤ x15_4
                            · rw [if_pos c15] at H
                              have c15b0 := eq_true c15
                              have c15b1 : decide (0 ≤ x15_4) = true := decide_eq_true c15
                              clear c15
                              obtain ⟨ji16, hji16⟩ : ∃ j_ : Int, (shr .u64 x10_5 x15_4) = j_ := ⟨_, rfl⟩
                              replace H : (if (Int.tmod (ji16) 2) = 1 then (if x8_3 = 0 then (none) else (if x14_10 = true then (if x13_12 ≥ (IntKind.u64.wrap (x8_3 - (Int.tmod x11_7 x8_3))) then (odometerref01_Scale.l0 kj12 x8_3 true x10_5 x11_7 (IntKind.u64.wrap ((IntKind.u64.wrap (x12_12 + (IntKind.u64.wrap (Int.tdiv x11_7 x8_3)))) + 1)) (IntKind.u64.wrap (x13_12 - (IntKind.u64.wrap (x8_3 - (Int.tmod x11_7 x8_3))))) true (wrap64 (x15_4 - 1))) else (odometerref01_Scale.l0 kj12 x8_3 true x10_5 x11_7 (IntKind.u64.wrap (x12_12 + (IntKind.u64.wrap (Int.tdiv x11_7 x8_3)))) (IntKind.u64.wrap (x13_12 + (Int.tmod x11_7 x8_3))) true (wrap64 (x15_4 - 1)))) else (if x13_12 ≥ (IntKind.u64.wrap (x8_3 - (Int.tmod x11_7 x8_3))) then (if (IntKind.u64.wrap (x12_12 + (IntKind.u64.wrap (Int.tdiv x11_7 x8_3)))) < x12_12 then (odometerref01_Scale.l0 kj12 x8_3 true x10_5 x11_7 (IntKind.u64.wrap ((IntKind.u64.wrap (x12_12 + (IntKind.u64.wrap (Int.tdiv x11_7 x8_3)))) + 1)) (IntKind.u64.wrap (x13_12 - (IntKind.u64.wrap (x8_3 - (Int.tmod x11_7 x8_3))))) true (wrap64 (x15_4 - 1))) else (odometerref01_Scale.l0 kj12 x8_3 true x10_5 x11_7 (IntKind.u64.wrap ((IntKind.u64.wrap (x12_12 + (IntKind.u64.wrap (Int.tdiv x11_7 x8_3)))) + 1)) (IntKind.u64.wrap (x13_12 - (IntKind.u64.wrap (x8_3 - (Int.tmod x11_7 x8_3))))) ((IntKind.u64.wrap ((IntKind.u64.wrap (x12_12 + (IntKind.u64.wrap (Int.tdiv x11_7 x8_3)))) + 1)) == 0) (wrap64 (x15_4 - 1)))) else (odometerref01_Scale.l0 kj12 x8_3 true x10_5 x11_7 (IntKind.u64.wrap (x12_12 + (IntKind.u64.wrap (Int.tdiv x11_7 x8_3)))) (IntKind.u64.wrap (x13_12 + (Int.tmod x11_7 x8_3))) (decide ((IntKind.u64.wrap (x12_12 + (IntKind.u64.wrap (Int.tdiv x11_7 x8_3)))) < x12_12)) (wrap64 (x15_4 - 1)))))) else (odometerref01_Scale.l0 kj12 x8_3 true x10_5 x11_7 x12_12 x13_12 x14_10 (wrap64 (x15_4 - 1)))) = some (r1, r2) := by first | (rw [hji16] at H; exact H) | (simp only [hji16] at H ⊢; exact H)
                              have hji16_ : (x10_5 / 2 ^ min x15_4.toNat 64) = ji16 := hji16
                              have hji16z : x15_4 ≤ 64 → (x10_5 / 2 ^ x15_4.toNat) = ji16 := shr_small hji16
                              by_cases c17 : (Int.tmod (ji16) 2) = 1
                              · rw [if_pos c17] at H
                                have c17b0 : ((Int.tmod (ji16) 2) == 1) = true := beq_iff_eq.mpr c17
                                have c17b1 : ((Int.tmod (ji16) 2) != 1) = false := bne_eq_false_iff_eq.mpr c17
                                clear c17
                                by_cases c18 : x8_3 = 0
                                · rw [if_pos c18] at H
                                  exact absurd H (by simp)
                                · rw [if_neg c18] at H
                                  have c18b0 : (x8_3 == 0) = false := beq_eq_false_iff_ne.mpr c18
                                  have c18b1 : (x8_3 != 0) = true := bne_iff_ne.mpr c18
                                  by_cases c19 : x14_10 = true
                                  · subst c19
                                    have H1 : (if x13_12 ≥ (IntKind.u64.wrap (x8_3 - (Int.tmod x11_7 x8_3))) then (odometerref01_Scale.l0 kj12 x8_3 true x10_5 x11_7 (IntKind.u64.wrap ((IntKind.u64.wrap (x12_12 + (IntKind.u64.wrap (Int.tdiv x11_7 x8_3)))) + 1)) (IntKind.u64.wrap (x13_12 - (IntKind.u64.wrap (x8_3 - (Int.tmod x11_7 x8_3))))) true (wrap64 (x15_4 - 1))) else (odometerref01_Scale.l0 kj12 x8_3 true x10_5 x11_7 (IntKind.u64.wrap (x12_12 + (IntKind.u64.wrap (Int.tdiv x11_7 x8_3)))) (IntKind.u64.wrap (x13_12 + (Int.tmod x11_7 x8_3))) true (wrap64 (x15_4 - 1)))) = some (r1, r2) := by rw [if_pos rfl] at H; exact H
                                    clear H
                                    have H := H1
                                    clear H1
                                    by_cases c20 : x13_12 ≥ (IntKind.u64.wrap (x8_3 - (Int.tmod x11_7 x8_3)))
                                    · rw [if_pos c20] at H
                                      have c20b0 : decide ((IntKind.u64.wrap (x8_3 - (Int.tmod x11_7 x8_3))) ≤ x13_12) = true := decide_eq_true c20
                                      clear c20
                                      have H' := Aside0.mk H
                                      clear H
                                      go_wp2
                                      repeat (go_quiet (fail); try go_wp2)
                                      go_roundg kj12
                                      case measure => have := HJ3.out; have := HJ5.out; have := HJ7.out; have := HK4.out; have := HJ10.out; have := HJ12.out; omega
                                      case rel => exact ⟨(IntKind.u64.wrap ((IntKind.u64.wrap (x12_12 + (IntKind.u64.wrap (Int.tdiv x11_7 x8_3)))) + 1)), (IntKind.u64.wrap (x13_12 - (IntKind.u64.wrap (x8_3 - (Int.tmod x11_7 x8_3))))), (true), (wrap64 (x15_4 - 1)), (by first | rfl | (simp; done) | (simp [*]; done)), (by first | rfl | (simp; done) | (simp [*]; done)), (by first | rfl | (simp; done) | (simp [*]; done)), (by first | rfl | (simp; done) | (simp [*]; done)), H', ⟨by have := HJ3.out; have := HJ5.out; have := HJ7.out; have := HK4.out; have := HJ10.out; have := HJ12.out; omega⟩, by repeat (first | exact Drawn0.refl _ | apply Drawn0.step)⟩
                                    · rw [if_neg c20] at H
                                      have c20b0 : decide ((IntKind.u64.wrap (x8_3 - (Int.tmod x11_7 x8_3))) ≤ x13_12) = false := decide_eq_false c20
                                      clear c20
                                      have H' := Aside0.mk H
                                      clear H
                                      go_wp2
                                      repeat (go_quiet (fail); try go_wp2)
                                      go_roundg kj12
                                      case measure => have := HJ3.out; have := HJ5.out; have := HJ7.out; have := HK4.out; have := HJ10.out; have := HJ12.out; omega
                                      case rel => exact ⟨(IntKind.u64.wrap (x12_12 + (IntKind.u64.wrap (Int.tdiv x11_7 x8_3)))), (IntKind.u64.wrap (x13_12 + (Int.tmod x11_7 x8_3))), (true), (wrap64 (x15_4 - 1)), (by first | rfl | (simp; done) | (simp [*]; done)), (by first | rfl | (simp; done) | (simp [*]; done)), (by first | rfl | (simp; done) | (simp [*]; done)), (by first | rfl | (simp; done) | (simp [*]; done)), H', ⟨by have := HJ3.out; have := HJ5.out; have := HJ7.out; have := HK4.out; have := HJ10.out; have := HJ12.out; omega⟩, by repeat (first | exact Drawn0.refl _ | apply Drawn0.step)⟩
                                  · replace c19 := Bool.eq_false_iff.mpr c19
                                    subst c19
                                    have H1 : (if x13_12 ≥ (IntKind.u64.wrap (x8_3 - (Int.tmod x11_7 x8_3))) then (if (IntKind.u64.wrap (x12_12 + (IntKind.u64.wrap (Int.tdiv x11_7 x8_3)))) < x12_12 then (odometerref01_Scale.l0 kj12 x8_3 true x10_5 x11_7 (IntKind.u64.wrap ((IntKind.u64.wrap (x12_12 + (IntKind.u64.wrap (Int.tdiv x11_7 x8_3)))) + 1)) (IntKind.u64.wrap (x13_12 - (IntKind.u64.wrap (x8_3 - (Int.tmod x11_7 x8_3))))) true (wrap64 (x15_4 - 1))) else (odometerref01_Scale.l0 kj12 x8_3 true x10_5 x11_7 (IntKind.u64.wrap ((IntKind.u64.wrap (x12_12 + (IntKind.u64.wrap (Int.tdiv x11_7 x8_3)))) + 1)) (IntKind.u64.wrap (x13_12 - (IntKind.u64.wrap (x8_3 - (Int.tmod x11_7 x8_3))))) ((IntKind.u64.wrap ((IntKind.u64.wrap (x12_12 + (IntKind.u64.wrap (Int.tdiv x11_7 x8_3)))) + 1)) == 0) (wrap64 (x15_4 - 1)))) else (odometerref01_Scale.l0 kj12 x8_3 true x10_5 x11_7 (IntKind.u64.wrap (x12_12 + (IntKind.u64.wrap (Int.tdiv x11_7 x8_3)))) (IntKind.u64.wrap (x13_12 + (Int.tmod x11_7 x8_3))) (decide ((IntKind.u64.wrap (x12_12 + (IntKind.u64.wrap (Int.tdiv x11_7 x8_3)))) < x12_12)) (wrap64 (x15_4 - 1)))) = some (r1, r2) := by rw [if_neg (show ¬ (false = true) by decide)] at H; exact H
                                    clear H
                                    have H := H1
                                    clear H1
                                    by_cases c21 : x13_12 ≥ (IntKind.u64.wrap (x8_3 - (Int.tmod x11_7 x8_3)))
                                    · rw [if_pos c21] at H
                                      have c21b0 : decide ((IntKind.u64.wrap (x8_3 - (Int.tmod x11_7 x8_3))) ≤ x13_12) = true := decide_eq_true c21
                                      clear c21
                                      by_cases c22 : (IntKind.u64.wrap (x12_12 + (IntKind.u64.wrap (Int.tdiv x11_7 x8_3)))) < x12_12
                                      · rw [if_pos c22] at H
                                        have c22b0 : decide ((IntKind.u64.wrap (x12_12 + (IntKind.u64.wrap (Int.tdiv x11_7 x8_3)))) < x12_12) = true := decide_eq_true c22
                                        clear c22
                                        have H' := Aside0.mk H
                                        clear H
                                        go_wp2
                                        repeat (go_quiet (fail); try go_wp2)
                                        go_roundg kj12
                                        case measure => have := HJ3.out; have := HJ5.out; have := HJ7.out; have := HK4.out; have := HJ10.out; have := HJ12.out; omega
                                        case rel => exact ⟨(IntKind.u64.wrap ((IntKind.u64.wrap (x12_12 + (IntKind.u64.wrap (Int.tdiv x11_7 x8_3)))) + 1)), (IntKind.u64.wrap (x13_12 - (IntKind.u64.wrap (x8_3 - (Int.tmod x11_7 x8_3))))), (true), (wrap64 (x15_4 - 1)), (by first | rfl | (simp; done) | (simp [*]; done)), (by first | rfl | (simp; done) | (simp [*]; done)), (by first | rfl | (simp; done) | (simp [*]; done)), (by first | rfl | (simp; done) | (simp [*]; done)), H', ⟨by have := HJ3.out; have := HJ5.out; have := HJ7.out; have := HK4.out; have := HJ10.out; have := HJ12.out; omega⟩, by repeat (first | exact Drawn0.refl _ | apply Drawn0.step)⟩
                                      · rw [if_neg c22] at H
                                        have c22b0 : decide ((IntKind.u64.wrap (x12_12 + (IntKind.u64.wrap (Int.tdiv x11_7 x8_3)))) < x12_12) = false := decide_eq_false c22
                                        clear c22
                                        have H' := Aside0.mk H
                                        clear H
                                        go_wp2
                                        repeat (go_quiet (fail); try go_wp2)
                                        go_roundg kj12
                                        case measure => have := HJ3.out; have := HJ5.out; have := HJ7.out; have := HK4.out; have := HJ10.out; have := HJ12.out; omega
                                        case rel => exact ⟨(IntKind.u64.wrap ((IntKind.u64.wrap (x12_12 + (IntKind.u64.wrap (Int.tdiv x11_7 x8_3)))) + 1)), (IntKind.u64.wrap (x13_12 - (IntKind.u64.wrap (x8_3 - (Int.tmod x11_7 x8_3))))), (((IntKind.u64.wrap ((IntKind.u64.wrap (x12_12 + (IntKind.u64.wrap (Int.tdiv x11_7 x8_3)))) + 1)) == 0)), (wrap64 (x15_4 - 1)), (by first | rfl | (simp; done) | (simp [*]; done)), (by first | rfl | (simp; done) | (simp [*]; done)), (by first | rfl | (simp; done) | (simp [*]; done)), (by first | rfl | (simp; done) | (simp [*]; done)), H', ⟨by have := HJ3.out; have := HJ5.out; have := HJ7.out; have := HK4.out; have := HJ10.out; have := HJ12.out; omega⟩, by repeat (first | exact Drawn0.refl _ | apply Drawn0.step)⟩
                                    · rw [if_neg c21] at H
                                      have c21b0 : decide ((IntKind.u64.wrap (x8_3 - (Int.tmod x11_7 x8_3))) ≤ x13_12) = false := decide_eq_false c21
                                      clear c21
                                      have H' := Aside0.mk H
                                      clear H
                                      go_wp2
                                      repeat (go_quiet (fail); try go_wp2)
                                      go_roundg kj12
                                      case measure => have := HJ3.out; have := HJ5.out; have := HJ7.out; have := HK4.out; have := HJ10.out; have := HJ12.out; omega
                                      case rel => exact ⟨(IntKind.u64.wrap (x12_12 + (IntKind.u64.wrap (Int.tdiv x11_7 x8_3)))), (IntKind.u64.wrap (x13_12 + (Int.tmod x11_7 x8_3))), (decide ((IntKind.u64.wrap (x12_12 + (IntKind.u64.wrap (Int.tdiv x11_7 x8_3)))) < x12_12)), (wrap64 (x15_4 - 1)), (by first | rfl | (simp; done) | (simp [*]; done)), (by first | rfl | (simp; done) | (simp [*]; done)), (by first | rfl | (simp; done) | (simp [*]; done)), (by first | rfl | (simp; done) | (simp [*]; done)), H', ⟨by have := HJ3.out; have := HJ5.out; have := HJ7.out; have := HK4.out; have := HJ10.out; have := HJ12.out; omega⟩, by repeat (first | exact Drawn0.refl _ | apply Drawn0.step)⟩
                              · rw [if_neg c17] at H
                                have c17b0 : ((Int.tmod (ji16) 2) == 1) = false := beq_eq_false_iff_ne.mpr c17
                                have c17b1 : ((Int.tmod (ji16) 2) != 1) = true := bne_iff_ne.mpr c17
                                have H' := Aside0.mk H
                                clear H
                                go_wp2
                                repeat (go_quiet (fail); try go_wp2)
                                go_roundg kj12
                                case measure => have := HJ3.out; have := HJ5.out; have := HJ7.out; have := HK4.out; have := HJ10.out; have := HJ12.out; omega
                                case rel => exact ⟨(x12_12), (x13_12), (x14_10), (wrap64 (x15_4 - 1)), (by first | rfl | (simp; done) | (simp [*]; done)), (by first | rfl | (simp; done) | (simp [*]; done)), (by first | rfl | (simp; done) | (simp [*]; done)), (by first | rfl | (simp; done) | (simp [*]; done)), H', ⟨by have := HJ3.out; have := HJ5.out; have := HJ7.out; have := HK4.out; have := HJ10.out; have := HJ12.out; omega⟩, by repeat (first | exact Drawn0.refl _ | apply Drawn0.step)⟩
                            · rw [if_neg c15] at H
                              exact absurd H (by simp)
                  · rw [if_neg c10] at H
                    have c10b0 : decide (0 ≤ x15_4) = false := decide_eq_false c10
                    clear c10
                    have HC23 := Aside0.mk H
                    clear H
                    go_upto_region 30 with (fail)
                    repeat (go_quiet (fail); go_upto_region 30 with (fail))
                    go_cut [111] (fun v111 wc => ∃ (kq : Nat) (x111_22 : Bool), v111 = .bool x111_22 ∧ Aside0 (odometerref01_Scale.j6 kq true x12_4 x14_4 x111_22 = some (r1, r2)) ∧ Aside0 (kq ≤ k4) ∧ Drawn0 w wc)
                    case first =>
                      have H := HC23.out
                      clear HC23
                      by_cases c24 : true = true
                      · (first | rw [if_pos c24] at H | rw [if_pos trivial] at H | rw [if_neg not_false] at H)
                        have c24b0 : true = true := rfl
                        (try (have c24b1 : decide ((decide (a0 < 0)) = (decide (a1 < 0))) = false := by simpa using c24))
                        (try (have c24b2 : ((decide (a0 < 0)) == (decide (a1 < 0))) = false := by simpa using c24))
                        (try (have c24b3 : ¬ ((decide (a0 < 0)) = (decide (a1 < 0))) := by simpa using c24))
                        clear c24
                        (first | rw [c24b0] | (simp only [i64_w, i32_w]; rw [c24b0]) | rw [c24b1] | skip)
                        have H' := Aside0.mk H
                        clear H
                        go_wp2
                        repeat (go_quiet (fail); try go_wp2)
                        go_meet
                        case rel => exact ⟨_, (decide (x13_4 > 0)), (by first | rfl | (simp; done) | (simp [*]; done)), H', ⟨by have := HJ3.out; have := HJ5.out; have := HJ7.out; have := HK4.out; first | omega | exact Nat.le_refl _⟩, by repeat (first | exact Drawn0.refl _ | apply Drawn0.step)⟩
                      · exact absurd rfl c24
                    case rest =>
                      clear HC23
                      try clear c1
                      try clear c2
                      try clear p2
                      try clear c3
                      try clear c5
                      try clear c5b0
                      try clear p6
                      try clear c7
                      try clear c7b0
                      try clear c9
                      try clear c9b0
                      try clear c10
                      try clear c10b0
                      try clear c12
                      try clear c14
                      try clear c14b0
                      try clear c15
                      try clear c15b0
                      try clear c15b1
                      try clear c17
                      try clear c17b0
                      try clear c17b1
                      try clear c18
                      try clear c18b0
                      try clear c18b1
                      try clear c19
                      try clear c20
                      try clear c20b0
                      try clear c21
                      try clear c21b0
                      try clear c22
                      try clear c22b0
                      try clear c24
                      try clear c24b0
                      try clear c24b1
                      try clear c24b2
                      try clear p2
                      obtain ⟨kq, x111_22, rfl, HA, HJ22, ⟨mc22, rfl⟩⟩ := hcut
                      cases kq with
                      | zero => exact absurd HA.out (by simp [odometerref01_Scale.j6])
                      | succ kj22 =>
                        have H := HA.out
                        clear HA
                        simp only [odometerref01_Scale.j6] at H
                        (try rw [HNG_.out] at H)
                        have HC25 := Aside0.mk H
                        clear H
                        go_upto_if 111 with (fail)
                        repeat (go_quiet (fail); go_upto_if 111 with (fail))
                        go_cut [12, 14] (fun v12 v14 wc => ∃ (kq : Nat) (x12_24 : Int) (x14_24 : Bool), v12 = .int .u64 x12_24 ∧ v14 = .bool x14_24 ∧ Aside0 (odometerref01_Scale.j7 kq true x12_24 x14_24 = some (r1, r2)) ∧ Aside0 (kq ≤ kj22) ∧ Drawn0 w wc)
                        case first =>
                          have H := HC25.out
                          clear HC25
                          by_cases c26 : x111_22 = true
                          · subst c26
                            have H1 : (if x14_4 = true then (odometerref01_Scale.j7 kj22 true (IntKind.u64.wrap (x12_4 + 1)) true) else (odometerref01_Scale.j7 kj22 true (IntKind.u64.wrap (x12_4 + 1)) ((IntKind.u64.wrap (x12_4 + 1)) == 0))) = some (r1, r2) := by rw [if_pos rfl] at H; exact H
                            clear H
                            have H := H1
                            clear H1
                            by_cases c27 : x14_4 = true
                            · subst c27
                              have H1 : (odometerref01_Scale.j7 kj22 true (IntKind.u64.wrap (x12_4 + 1)) true) = some (r1, r2) := by rw [if_pos rfl] at H; exact H
                              clear H
                              have H := H1
                              clear H1
                              have H' := Aside0.mk H
                              clear H
                              go_wp2
                              repeat (go_quiet (fail); try go_wp2)
                              go_meet
                              case rel => exact ⟨_, (IntKind.u64.wrap (x12_4 + 1)), (true), (by first | rfl | (simp; done) | (simp [*]; done)), (by first | rfl | (simp; done) | (simp [*]; done)), H', ⟨by have := HJ3.out; have := HJ5.out; have := HJ7.out; have := HK4.out; have := HJ22.out; first | omega | exact Nat.le_refl _⟩, by repeat (first | exact Drawn0.refl _ | apply Drawn0.step)⟩
                            · replace c27 := Bool.eq_false_iff.mpr c27
                              subst c27
                              have H1 : (odometerref01_Scale.j7 kj22 true (IntKind.u64.wrap (x12_4 + 1)) ((IntKind.u64.wrap (x12_4 + 1)) == 0)) = some (r1, r2) := by rw [if_neg (show ¬ (false = true) by decide)] at H; exact H
                              clear H
                              have H := H1
                              clear H1
                              have H' := Aside0.mk H
                              clear H
                              go_wp2
                              repeat (go_quiet (fail); try go_wp2)
                              go_meet
                              case rel => exact ⟨_, (IntKind.u64.wrap (x12_4 + 1)), (((IntKind.u64.wrap (x12_4 + 1)) == 0)), (by first | rfl | (simp; done) | (simp [*]; done)), (by first | rfl | (simp; done) | (simp [*]; done)), H', ⟨by have := HJ3.out; have := HJ5.out; have := HJ7.out; have := HK4.out; have := HJ22.out; first | omega | exact Nat.le_refl _⟩, by repeat (first | exact Drawn0.refl _ | apply Drawn0.step)⟩
                          · replace c26 := Bool.eq_false_iff.mpr c26
                            subst c26
                            have H1 : (odometerref01_Scale.j7 kj22 true x12_4 x14_4) = some (r1, r2) := by rw [if_neg (show ¬ (false = true) by decide)] at H; exact H
                            clear H
                            have H := H1
                            clear H1
                            have H' := Aside0.mk H
                            clear H
                            go_wp2
                            repeat (go_quiet (fail); try go_wp2)
                            go_meet
                            case rel => exact ⟨_, (x12_4), (x14_4), (by first | rfl | (simp; done) | (simp [*]; done)), (by first | rfl | (simp; done) | (simp [*]; done)), H', ⟨by have := HJ3.out; have := HJ5.out; have := HJ7.out; have := HK4.out; have := HJ22.out; first | omega | exact Nat.le_refl _⟩, by repeat (first | exact Drawn0.refl _ | apply Drawn0.step)⟩
                        case rest =>
                          clear HC25
                          try clear c1
                          try clear c2
                          try clear p2
                          try clear c3
                          try clear c5
                          try clear c5b0
                          try clear p6
                          try clear c7
                          try clear c7b0
                          try clear c9
                          try clear c9b0
                          try clear c10
                          try clear c10b0
                          try clear c12
                          try clear c14
                          try clear c14b0
                          try clear c15
                          try clear c15b0
                          try clear c15b1
                          try clear c17
                          try clear c17b0
                          try clear c17b1
                          try clear c18
                          try clear c18b0
                          try clear c18b1
                          try clear c19
                          try clear c20
                          try clear c20b0
                          try clear c21
                          try clear c21b0
                          try clear c22
                          try clear c22b0
                          try clear c24
                          try clear c24b0
                          try clear c24b1
                          try clear c24b2
                          try clear c26
                          try clear c27
                          try clear p2
                          try clear p6
                          obtain ⟨kq, x12_24, x14_24, rfl, rfl, HA, HJ24, ⟨mc24, rfl⟩⟩ := hcut
                          cases kq with
                          | zero => exact absurd HA.out (by simp [odometerref01_Scale.j7])
                          | succ kj24 =>
                            have H := HA.out
                            clear HA
                            simp only [odometerref01_Scale.j7] at H
                            (try rw [HNG_.out] at H)
                            have HC28 := Aside0.mk H
                            clear H
                            go_upto_region 33 with (fail)
                            repeat (go_quiet (fail); go_upto_region 33 with (fail))
                            go_cut [126] (fun v126 wc => ∃ (kq : Nat) (x126_27 : Bool), v126 = .bool x126_27 ∧ Aside0 (odometerref01_Scale.j8 kq true x12_24 x14_24 x126_27 = some (r1, r2)) ∧ Aside0 (kq ≤ kj24) ∧ Drawn0 w wc)
                            case first =>
                              have H := HC28.out
                              clear HC28
                              by_cases c29 : true = true
                              · (first | rw [if_pos c29] at H | rw [if_pos trivial] at H | rw [if_neg not_false] at H)
                                have c29b0 : true = true := rfl
                                (try (have c29b1 : decide ((decide (a0 < 0)) = (decide (a1 < 0))) = false := by simpa using c29))
                                (try (have c29b2 : ((decide (a0 < 0)) == (decide (a1 < 0))) = false := by simpa using c29))
                                (try (have c29b3 : ¬ ((decide (a0 < 0)) = (decide (a1 < 0))) := by simpa using c29))
                                clear c29
                                (first | rw [c29b0] | (simp only [i64_w, i32_w]; rw [c29b0]) | rw [c29b1] | skip)
                                by_cases c30 : x14_24 = true
                                · subst c30
                                  have H1 : (odometerref01_Scale.j8 kj24 true x12_24 true true) = some (r1, r2) := by rw [if_pos rfl] at H; exact H
                                  clear H
                                  have H := H1
                                  clear H1
                                  have H' := Aside0.mk H
                                  clear H
                                  go_wp2
                                  repeat (go_quiet (fail); try go_wp2)
                                  go_meet
                                  case rel => exact ⟨_, (true), (by first | rfl | (simp; done) | (simp [*]; done)), H', ⟨by have := HJ3.out; have := HJ5.out; have := HJ7.out; have := HK4.out; have := HJ22.out; have := HJ24.out; first | omega | exact Nat.le_refl _⟩, by repeat (first | exact Drawn0.refl _ | apply Drawn0.step)⟩
                                · replace c30 := Bool.eq_false_iff.mpr c30
                                  subst c30
                                  have H1 : (odometerref01_Scale.j8 kj24 true x12_24 false (decide (x12_24 > 9223372036854775808))) = some (r1, r2) := by rw [if_neg (show ¬ (false = true) by decide)] at H; exact H
                                  clear H
                                  have H := H1
                                  clear H1
                                  have H' := Aside0.mk H
                                  clear H
                                  go_wp2
                                  repeat (go_quiet (fail); try go_wp2)
                                  go_meet
                                  case rel => exact ⟨_, (decide (x12_24 > 9223372036854775808)), (by first | rfl | (simp; done) | (simp [*]; done)), H', ⟨by have := HJ3.out; have := HJ5.out; have := HJ7.out; have := HK4.out; have := HJ22.out; have := HJ24.out; first | omega | exact Nat.le_refl _⟩, by repeat (first | exact Drawn0.refl _ | apply Drawn0.step)⟩
                              · exact absurd rfl c29
                            case rest =>
                              clear HC28
                              try clear c1
                              try clear c2
                              try clear p2
                              try clear c3
                              try clear c5
                              try clear c5b0
                              try clear p6
                              try clear c7
                              try clear c7b0
                              try clear c9
                              try clear c9b0
                              try clear c10
                              try clear c10b0
                              try clear c12
                              try clear c14
                              try clear c14b0
                              try clear c15
                              try clear c15b0
                              try clear c15b1
                              try clear c17
                              try clear c17b0
                              try clear c17b1
                              try clear c18
                              try clear c18b0
                              try clear c18b1
                              try clear c19
                              try clear c20
                              try clear c20b0
                              try clear c21
                              try clear c21b0
                              try clear c22
                              try clear c22b0
                              try clear c24
                              try clear c24b0
                              try clear c24b1
                              try clear c24b2
                              try clear c26
                              try clear c27
                              try clear c29
                              try clear c29b0
                              try clear c29b1
                              try clear c29b2
                              try clear c30
                              try clear p2
                              try clear p6
                              obtain ⟨kq, x126_27, rfl, HA, HJ27, ⟨mc27, rfl⟩⟩ := hcut
                              cases kq with
                              | zero => exact absurd HA.out (by simp [odometerref01_Scale.j8])
                              | succ kj27 =>
                                have H := HA.out
                                clear HA
                                simp only [odometerref01_Scale.j8] at H
                                (try rw [HNG_.out] at H)
                                by_cases c31 : x126_27 = true
                                · subst c31
                                  have H1 : (some ((-9223372036854775808), true)) = some (r1, r2) := by rw [if_pos rfl] at H; exact H
                                  clear H
                                  have H := H1
                                  clear H1
                                  simp only [Option.some.injEq, Prod.mk.injEq] at H
                                  obtain ⟨rfl, rfl⟩ := H
                                  go_wp2
                                  repeat (go_quiet (fail); try go_wp2)
                                  go_ret2
                                  exact ⟨by first | rfl | (simp; done) | (simp [*]; done), by repeat (first | exact Drawn0.refl _ | apply Drawn0.step)⟩
                                · replace c31 := Bool.eq_false_iff.mpr c31
                                  subst c31
                                  have H1 : (if true = true then (some (wrap64 (IntKind.u64.wrap (-x12_24)), false)) else (if x14_24 = true then (some (9223372036854775807, true)) else (if x12_24 > 9223372036854775807 then (some (9223372036854775807, true)) else (some (wrap64 (x12_24), false))))) = some (r1, r2) := by rw [if_neg (show ¬ (false = true) by decide)] at H; exact H
                                  clear H
                                  have H := H1
                                  clear H1
                                  by_cases c32 : true = true
                                  · (first | rw [if_pos c32] at H | rw [if_pos trivial] at H | rw [if_neg not_false] at H)
                                    have c32b0 : true = true := rfl
                                    (try (have c32b1 : decide ((decide (a0 < 0)) = (decide (a1 < 0))) = false := by simpa using c32))
                                    (try (have c32b2 : ((decide (a0 < 0)) == (decide (a1 < 0))) = false := by simpa using c32))
                                    (try (have c32b3 : ¬ ((decide (a0 < 0)) = (decide (a1 < 0))) := by simpa using c32))
                                    clear c32
                                    simp only [Option.some.injEq, Prod.mk.injEq] at H
                                    obtain ⟨rfl, rfl⟩ := H
                                    go_wp2
                                    repeat (go_quiet (fail); try go_wp2)
                                    go_ret2
                                    exact ⟨by first | rfl | (simp; done) | (simp [*]; done), by repeat (first | exact Drawn0.refl _ | apply Drawn0.step)⟩
                                  · exact absurd rfl c32
set_option maxHeartbeats 4000000 in
set_option maxRecDepth 100000 in
theorem odometerref01_Scale.calls_false (k : Nat) (a0 : Int) (a1 : Int) (a2 : Int) (r1 : Int) (r2 : Bool) (w : World) (hng0_ : ((decide (a0 < 0)) != (decide (a1 < 0))) = false) (h : odometerref01_Scale.f k a0 a1 a2 = some (r1, r2)) :
    Calls Tryd.prog 18 #[.int .i64 a0, .int .i64 a1, .int .i64 a2] w fun e w' => e = .returned (.tuple #[.int .i64 r1, .bool r2]) ∧ Drawn0 w w' := by
  have H : (if a2 < 1 then (odometerref01_Scale.j0 k a0 a1 1) else (odometerref01_Scale.j0 k a0 a1 (IntKind.u64.wrap (a2)))) = some (r1, r2) := h
  clear h
  (try rw [hng0_] at H)
  have hng_ : (!(decide (a0 < 0) == decide (a1 < 0))) = false := hng0_
  have HNG_ := Aside0.mk hng0_
  clear hng0_
  have HC4 := Aside0.mk H
  clear H
  go_enter Tryd.func18, Tryd.ntmps18
  go_upto_if 22 with (fail)
  repeat (go_quiet (fail); go_upto_if 22 with (fail))
  go_cut [8] (fun v8 wc => ∃ (kq : Nat) (x8_3 : Int), v8 = .int .u64 x8_3 ∧ Aside0 (odometerref01_Scale.j0 kq a0 a1 x8_3 = some (r1, r2)) ∧ Aside0 (kq ≤ k) ∧ Drawn0 w wc)
  case first =>
    have H := HC4.out
    clear HC4
    by_cases c5 : a2 < 1
    · rw [if_pos c5] at H
      have c5b0 : decide (a2 < 1) = true := decide_eq_true c5
      clear c5
      (first | rw [c5b0] | (simp only [i64_w, i32_w]; rw [c5b0]) | skip)
      have H' := Aside0.mk H
      clear H
      go_wp2
      repeat (go_quiet (fail); try go_wp2)
      go_meet
      case rel => exact ⟨_, (1), (by first | rfl | (simp; done) | (simp [*]; done)), H', ⟨by first | omega | exact Nat.le_refl _⟩, by repeat (first | exact Drawn0.refl _ | apply Drawn0.step)⟩
    · rw [if_neg c5] at H
      have c5b0 : decide (a2 < 1) = false := decide_eq_false c5
      clear c5
      (first | rw [c5b0] | (simp only [i64_w, i32_w]; rw [c5b0]) | skip)
      have H' := Aside0.mk H
      clear H
      go_wp2
      repeat (go_quiet (fail); try go_wp2)
      go_meet
      case rel => exact ⟨_, (IntKind.u64.wrap (a2)), (by first | rfl | (simp; done) | (simp [*]; done)), H', ⟨by first | omega | exact Nat.le_refl _⟩, by repeat (first | exact Drawn0.refl _ | apply Drawn0.step)⟩
  case rest =>
    clear HC4
    try clear c1
    try clear p2
    try clear c5
    try clear c5b0
    obtain ⟨kq, x8_3, rfl, HA, HJ3, ⟨mc3, rfl⟩⟩ := hcut
    cases kq with
    | zero => exact absurd HA.out (by simp [odometerref01_Scale.j0])
    | succ kj3 =>
      have H := HA.out
      clear HA
      simp only [odometerref01_Scale.j0] at H
      (try rw [HNG_.out] at H)
      have HC6 := Aside0.mk H
      clear H
      go_upto_if 33 with (fail)
      repeat (go_quiet (fail); go_upto_if 33 with (fail))
      go_cut [10] (fun v10 wc => ∃ (kq : Nat) (x10_5 : Int), v10 = .int .u64 x10_5 ∧ Aside0 (odometerref01_Scale.j1 kq a1 x8_3 false x10_5 (IntKind.u64.wrap (a1)) = some (r1, r2)) ∧ Aside0 (kq ≤ kj3) ∧ Drawn0 w wc)
      case first =>
        have H := HC6.out
        clear HC6
        by_cases c7 : a0 < 0
        · rw [if_pos c7] at H
          have c7b0 : decide (a0 < 0) = true := decide_eq_true c7
          (try (have hng2_ : (!decide (a1 < 0)) = false := by simpa [c7b0] using hng_))
          clear c7
          (first | rw [c7b0] | (simp only [i64_w, i32_w]; rw [c7b0]) | skip)
          have H' := Aside0.mk H
          clear H
          go_wp2
          repeat (go_quiet (fail); try go_wp2)
          go_meet
          case rel => exact ⟨_, (IntKind.u64.wrap (-(IntKind.u64.wrap (a0)))), (by first | rfl | (simp; done) | (simp [*]; done)), H', ⟨by have := HJ3.out; first | omega | exact Nat.le_refl _⟩, by repeat (first | exact Drawn0.refl _ | apply Drawn0.step)⟩
        · rw [if_neg c7] at H
          have c7b0 : decide (a0 < 0) = false := decide_eq_false c7
          (try (have hng2_ : decide (a1 < 0) = false := by simpa [c7b0] using hng_))
          clear c7
          (first | rw [c7b0] | (simp only [i64_w, i32_w]; rw [c7b0]) | skip)
          have H' := Aside0.mk H
          clear H
          go_wp2
          repeat (go_quiet (fail); try go_wp2)
          go_meet
          case rel => exact ⟨_, (IntKind.u64.wrap (a0)), (by first | rfl | (simp; done) | (simp [*]; done)), H', ⟨by have := HJ3.out; first | omega | exact Nat.le_refl _⟩, by repeat (first | exact Drawn0.refl _ | apply Drawn0.step)⟩
      case rest =>
        clear HC6
        try clear c1
        try clear p2
        try clear c3
        try clear c5
        try clear c5b0
        try clear c7
        try clear c7b0
        try clear p2
        obtain ⟨kq, x10_5, rfl, HA, HJ5, ⟨mc5, rfl⟩⟩ := hcut
        cases kq with
        | zero => exact absurd HA.out (by simp [odometerref01_Scale.j1])
        | succ kj5 =>
          have H := HA.out
          clear HA
          simp only [odometerref01_Scale.j1] at H
          (try rw [HNG_.out] at H)
          have HC8 := Aside0.mk H
          clear H
          go_upto_if 37 with (fail)
          repeat (go_quiet (fail); go_upto_if 37 with (fail))
          go_cut [11] (fun v11 wc => ∃ (kq : Nat) (x11_7 : Int), v11 = .int .u64 x11_7 ∧ Aside0 (odometerref01_Scale.j2 kq x8_3 false x10_5 x11_7 = some (r1, r2)) ∧ Aside0 (kq ≤ kj5) ∧ Drawn0 w wc)
          case first =>
            have H := HC8.out
            clear HC8
            by_cases c9 : a1 < 0
            · rw [if_pos c9] at H
              have c9b0 : decide (a1 < 0) = true := decide_eq_true c9
              clear c9
              (first | rw [c9b0] | (simp only [i64_w, i32_w]; rw [c9b0]) | skip)
              have H' := Aside0.mk H
              clear H
              go_wp2
              repeat (go_quiet (fail); try go_wp2)
              go_meet
              case rel => exact ⟨_, (IntKind.u64.wrap (-(IntKind.u64.wrap (a1)))), (by first | rfl | (simp; done) | (simp [*]; done)), H', ⟨by have := HJ3.out; have := HJ5.out; first | omega | exact Nat.le_refl _⟩, by repeat (first | exact Drawn0.refl _ | apply Drawn0.step)⟩
            · rw [if_neg c9] at H
              have c9b0 : decide (a1 < 0) = false := decide_eq_false c9
              clear c9
              (first | rw [c9b0] | (simp only [i64_w, i32_w]; rw [c9b0]) | skip)
              have H' := Aside0.mk H
              clear H
              go_wp2
              repeat (go_quiet (fail); try go_wp2)
              go_meet
              case rel => exact ⟨_, ((IntKind.u64.wrap (a1))), (by first | rfl | (simp; done) | (simp [*]; done)), H', ⟨by have := HJ3.out; have := HJ5.out; first | omega | exact Nat.le_refl _⟩, by repeat (first | exact Drawn0.refl _ | apply Drawn0.step)⟩
          case rest =>
            clear HC8
            try clear c1
            try clear p2
            try clear c3
            try clear c5
            try clear c5b0
            try clear c7
            try clear c7b0
            try clear c9
            try clear c9b0
            try clear p2
            obtain ⟨kq, x11_7, rfl, HA, HJ7, ⟨mc7, rfl⟩⟩ := hcut
            cases kq with
            | zero => exact absurd HA.out (by simp [odometerref01_Scale.j2])
            | succ kj7 =>
              have H := HA.out
              clear HA
              simp only [odometerref01_Scale.j2] at H
              (try rw [HNG_.out] at H)
              have H' := Aside0.mk H
              clear H
              go_wp2
              repeat (go_quiet (fail); try go_wp2)
              go_loopg [12, 13, 14, 15] kj7 (fun kq v12 v13 v14 v15 w' => ∃ (x12_4 : Int) (x13_4 : Int) (x14_4 : Bool) (x15_4 : Int), v12 = .int .u64 x12_4 ∧ v13 = .int .u64 x13_4 ∧ v14 = .bool x14_4 ∧ v15 = .int .i64 x15_4 ∧ Aside0 (odometerref01_Scale.l0 kq x8_3 false x10_5 x11_7 x12_4 x13_4 x14_4 x15_4 = some (r1, r2)) ∧ Aside0 (kq ≤ kj7) ∧ Drawn0 w w')
              case atStart => exact ⟨(0), (0), (false), (63), (by first | rfl | (simp; done) | (simp [*]; done)), (by first | rfl | (simp; done) | (simp [*]; done)), (by first | rfl | (simp; done) | (simp [*]; done)), (by first | rfl | (simp; done) | (simp [*]; done)), H', ⟨Nat.le_refl _⟩, by repeat (first | exact Drawn0.refl _ | apply Drawn0.step)⟩
              case round =>
                clear H'
                try clear c1
                try clear p2
                try clear c3
                try clear c5
                try clear c5b0
                try clear c7
                try clear c7b0
                try clear c9
                try clear c9b0
                try clear p2
                obtain ⟨x12_4, x13_4, x14_4, x15_4, rfl, rfl, rfl, rfl, HA, HK4, ⟨m4, rfl⟩⟩ := hrel
                cases gk with
                | zero => exact absurd HA.out (by simp [odometerref01_Scale.l0])
                | succ k4 =>
                  have H := HA.out
                  clear HA
                  simp only [odometerref01_Scale.l0] at H
                  (try rw [HNG_.out] at H)
                  by_cases c10 : x15_4 ≥ 0
                  · rw [if_pos c10] at H
                    have c10b0 : decide (0 ≤ x15_4) = true := decide_eq_true c10
                    clear c10
                    have HC11 := Aside0.mk H
                    clear H
                    go_upto_region 14 with (fail)
                    repeat (go_quiet (fail); go_upto_region 14 with (fail))
                    go_cut [14] (fun v14 wc => ∃ (kq : Nat) (x14_10 : Bool), v14 = .bool x14_10 ∧ Aside0 (odometerref01_Scale.j4 kq x8_3 false x10_5 x11_7 x12_4 x13_4 x14_10 x15_4 = some (r1, r2)) ∧ Aside0 (kq ≤ k4) ∧ Drawn0 w wc)
                    case first =>
                      have H := HC11.out
                      clear HC11
                      by_cases c12 : x14_4 = true
                      · subst c12
                        have H1 : (odometerref01_Scale.j4 k4 x8_3 false x10_5 x11_7 x12_4 x13_4 true x15_4) = some (r1, r2) := by rw [if_pos rfl] at H; exact H
                        clear H
                        have H := H1
                        clear H1
                        have H' := Aside0.mk H
                        clear H
                        go_wp2
                        repeat (go_quiet (fail); try go_wp2)
                        go_meet
                        case rel => exact ⟨_, (true), (by first | rfl | (simp; done) | (simp [*]; done)), H', ⟨by have := HJ3.out; have := HJ5.out; have := HJ7.out; have := HK4.out; first | omega | exact Nat.le_refl _⟩, by repeat (first | exact Drawn0.refl _ | apply Drawn0.step)⟩
                      · replace c12 := Bool.eq_false_iff.mpr c12
                        subst c12
                        have H1 : (odometerref01_Scale.j4 k4 x8_3 false x10_5 x11_7 x12_4 x13_4 (decide (x12_4 > 9223372036854775807)) x15_4) = some (r1, r2) := by rw [if_neg (show ¬ (false = true) by decide)] at H; exact H
                        clear H
                        have H := H1
                        clear H1
                        have H' := Aside0.mk H
                        clear H
                        go_wp2
                        repeat (go_quiet (fail); try go_wp2)
                        go_meet
                        case rel => exact ⟨_, (decide (x12_4 > 9223372036854775807)), (by first | rfl | (simp; done) | (simp [*]; done)), H', ⟨by have := HJ3.out; have := HJ5.out; have := HJ7.out; have := HK4.out; first | omega | exact Nat.le_refl _⟩, by repeat (first | exact Drawn0.refl _ | apply Drawn0.step)⟩
                    case rest =>
                      clear HC11
                      try clear c1
                      try clear p2
                      try clear c3
                      try clear c5
                      try clear c5b0
                      try clear c7
                      try clear c7b0
                      try clear c9
                      try clear c9b0
                      try clear c10
                      try clear c10b0
                      try clear c12
                      try clear p2
                      obtain ⟨kq, x14_10, rfl, HA, HJ10, ⟨mc10, rfl⟩⟩ := hcut
                      cases kq with
                      | zero => exact absurd HA.out (by simp [odometerref01_Scale.j4])
                      | succ kj10 =>
                        have H := HA.out
                        clear HA
                        simp only [odometerref01_Scale.j4] at H
                        (try rw [HNG_.out] at H)
                        have HC13 := Aside0.mk H
                        clear H
                        go_upto_if 59 with (fail)
                        repeat (go_quiet (fail); go_upto_if 59 with (fail))
                        go_cut [12, 13, 16] (fun v12 v13 v16 wc => ∃ (kq : Nat) (x12_12 : Int) (x13_12 : Int), v12 = .int .u64 x12_12 ∧ v13 = .int .u64 x13_12 ∧ Aside0 (odometerref01_Scale.j5 kq x8_3 false x10_5 x11_7 x12_12 x13_12 x14_10 x15_4 = some (r1, r2)) ∧ Aside0 (kq ≤ kj10) ∧ Drawn0 w wc)
                        case first =>
                          have H := HC13.out
                          clear HC13
                          by_cases c14 : x13_4 ≥ (IntKind.u64.wrap (x8_3 - x13_4))
                          · rw [if_pos c14] at H
                            have c14b0 : decide ((IntKind.u64.wrap (x8_3 - x13_4)) ≤ x13_4) = true := decide_eq_true c14
                            clear c14
                            (first | rw [c14b0] | (simp only [i64_w, i32_w]; rw [c14b0]) | skip)
                            have H' := Aside0.mk H
                            clear H
                            go_wp2
                            repeat (go_quiet (fail); try go_wp2)
                            go_meet
                            case rel => exact ⟨_, (IntKind.u64.wrap ((IntKind.u64.wrap (2 * x12_4)) + 1)), (IntKind.u64.wrap ((IntKind.u64.wrap (x13_4 + x13_4)) - x8_3)), (by first | rfl | (simp; done) | (simp [*]; done)), (by first | rfl | (simp; done) | (simp [*]; done)), H', ⟨by have := HJ3.out; have := HJ5.out; have := HJ7.out; have := HK4.out; have := HJ10.out; first | omega | exact Nat.le_refl _⟩, by repeat (first | exact Drawn0.refl _ | apply Drawn0.step)⟩
                          · rw [if_neg c14] at H
                            have c14b0 : decide ((IntKind.u64.wrap (x8_3 - x13_4)) ≤ x13_4) = false := decide_eq_false c14
                            clear c14
                            (first | rw [c14b0] | (simp only [i64_w, i32_w]; rw [c14b0]) | skip)
                            have H' := Aside0.mk H
                            clear H
                            go_wp2
                            repeat (go_quiet (fail); try go_wp2)
                            go_meet
                            case rel => exact ⟨_, (IntKind.u64.wrap (2 * x12_4)), (IntKind.u64.wrap (x13_4 + x13_4)), (by first | rfl | (simp; done) | (simp [*]; done)), (by first | rfl | (simp; done) | (simp [*]; done)), H', ⟨by have := HJ3.out; have := HJ5.out; have := HJ7.out; have := HK4.out; have := HJ10.out; first | omega | exact Nat.le_refl _⟩, by repeat (first | exact Drawn0.refl _ | apply Drawn0.step)⟩
                        case rest =>
                          clear HC13
                          try clear c1
                          try clear p2
                          try clear c3
                          try clear c5
                          try clear c5b0
                          try clear c7
                          try clear c7b0
                          try clear c9
                          try clear c9b0
                          try clear c10
                          try clear c10b0
                          try clear c12
                          try clear c14
                          try clear c14b0
                          try clear p2
                          obtain ⟨kq, x12_12, x13_12, rfl, rfl, HA, HJ12, ⟨mc12, rfl⟩⟩ := hcut
                          cases kq with
                          | zero => exact absurd HA.out (by simp [odometerref01_Scale.j5])
                          | succ kj12 =>
                            have H := HA.out
                            clear HA
                            simp only [odometerref01_Scale.j5] at H
                            (try rw [HNG_.out] at H)
                            by_cases c15 : 0 ≤ x15_4
                            · rw [if_pos c15] at H
                              have c15b0 := eq_true c15
                              have c15b1 : decide (0 ≤ x15_4) = true := decide_eq_true c15
                              clear c15
                              obtain ⟨ji16, hji16⟩ : ∃ j_ : Int, (shr .u64 x10_5 x15_4) = j_ := ⟨_, rfl⟩
                              replace H : (if (Int.tmod (ji16) 2) = 1 then (if x8_3 = 0 then (none) else (if x14_10 = true then (if x13_12 ≥ (IntKind.u64.wrap (x8_3 - (Int.tmod x11_7 x8_3))) then (odometerref01_Scale.l0 kj12 x8_3 false x10_5 x11_7 (IntKind.u64.wrap ((IntKind.u64.wrap (x12_12 + (IntKind.u64.wrap (Int.tdiv x11_7 x8_3)))) + 1)) (IntKind.u64.wrap (x13_12 - (IntKind.u64.wrap (x8_3 - (Int.tmod x11_7 x8_3))))) true (wrap64 (x15_4 - 1))) else (odometerref01_Scale.l0 kj12 x8_3 false x10_5 x11_7 (IntKind.u64.wrap (x12_12 + (IntKind.u64.wrap (Int.tdiv x11_7 x8_3)))) (IntKind.u64.wrap (x13_12 + (Int.tmod x11_7 x8_3))) true (wrap64 (x15_4 - 1)))) else (if x13_12 ≥ (IntKind.u64.wrap (x8_3 - (Int.tmod x11_7 x8_3))) then (if (IntKind.u64.wrap (x12_12 + (IntKind.u64.wrap (Int.tdiv x11_7 x8_3)))) < x12_12 then (odometerref01_Scale.l0 kj12 x8_3 false x10_5 x11_7 (IntKind.u64.wrap ((IntKind.u64.wrap (x12_12 + (IntKind.u64.wrap (Int.tdiv x11_7 x8_3)))) + 1)) (IntKind.u64.wrap (x13_12 - (IntKind.u64.wrap (x8_3 - (Int.tmod x11_7 x8_3))))) true (wrap64 (x15_4 - 1))) else (odometerref01_Scale.l0 kj12 x8_3 false x10_5 x11_7 (IntKind.u64.wrap ((IntKind.u64.wrap (x12_12 + (IntKind.u64.wrap (Int.tdiv x11_7 x8_3)))) + 1)) (IntKind.u64.wrap (x13_12 - (IntKind.u64.wrap (x8_3 - (Int.tmod x11_7 x8_3))))) ((IntKind.u64.wrap ((IntKind.u64.wrap (x12_12 + (IntKind.u64.wrap (Int.tdiv x11_7 x8_3)))) + 1)) == 0) (wrap64 (x15_4 - 1)))) else (odometerref01_Scale.l0 kj12 x8_3 false x10_5 x11_7 (IntKind.u64.wrap (x12_12 + (IntKind.u64.wrap (Int.tdiv x11_7 x8_3)))) (IntKind.u64.wrap (x13_12 + (Int.tmod x11_7 x8_3))) (decide ((IntKind.u64.wrap (x12_12 + (IntKind.u64.wrap (Int.tdiv x11_7 x8_3)))) < x12_12)) (wrap64 (x15_4 - 1)))))) else (odometerref01_Scale.l0 kj12 x8_3 false x10_5 x11_7 x12_12 x13_12 x14_10 (wrap64 (x15_4 - 1)))) = some (r1, r2) := by first | (rw [hji16] at H; exact H) | (simp only [hji16] at H ⊢; exact H)
                              have hji16_ : (x10_5 / 2 ^ min x15_4.toNat 64) = ji16 := hji16
                              have hji16z : x15_4 ≤ 64 → (x10_5 / 2 ^ x15_4.toNat) = ji16 := shr_small hji16
                              by_cases c17 : (Int.tmod (ji16) 2) = 1
                              · rw [if_pos c17] at H
                                have c17b0 : ((Int.tmod (ji16) 2) == 1) = true := beq_iff_eq.mpr c17
                                have c17b1 : ((Int.tmod (ji16) 2) != 1) = false := bne_eq_false_iff_eq.mpr c17
                                clear c17
                                by_cases c18 : x8_3 = 0
                                · rw [if_pos c18] at H
                                  exact absurd H (by simp)
                                · rw [if_neg c18] at H
                                  have c18b0 : (x8_3 == 0) = false := beq_eq_false_iff_ne.mpr c18
                                  have c18b1 : (x8_3 != 0) = true := bne_iff_ne.mpr c18
                                  by_cases c19 : x14_10 = true
                                  · subst c19
                                    have H1 : (if x13_12 ≥ (IntKind.u64.wrap (x8_3 - (Int.tmod x11_7 x8_3))) then (odometerref01_Scale.l0 kj12 x8_3 false x10_5 x11_7 (IntKind.u64.wrap ((IntKind.u64.wrap (x12_12 + (IntKind.u64.wrap (Int.tdiv x11_7 x8_3)))) + 1)) (IntKind.u64.wrap (x13_12 - (IntKind.u64.wrap (x8_3 - (Int.tmod x11_7 x8_3))))) true (wrap64 (x15_4 - 1))) else (odometerref01_Scale.l0 kj12 x8_3 false x10_5 x11_7 (IntKind.u64.wrap (x12_12 + (IntKind.u64.wrap (Int.tdiv x11_7 x8_3)))) (IntKind.u64.wrap (x13_12 + (Int.tmod x11_7 x8_3))) true (wrap64 (x15_4 - 1)))) = some (r1, r2) := by rw [if_pos rfl] at H; exact H
                                    clear H
                                    have H := H1
                                    clear H1
                                    by_cases c20 : x13_12 ≥ (IntKind.u64.wrap (x8_3 - (Int.tmod x11_7 x8_3)))
                                    · rw [if_pos c20] at H
                                      have c20b0 : decide ((IntKind.u64.wrap (x8_3 - (Int.tmod x11_7 x8_3))) ≤ x13_12) = true := decide_eq_true c20
                                      clear c20
                                      have H' := Aside0.mk H
                                      clear H
                                      go_wp2
                                      repeat (go_quiet (fail); try go_wp2)
                                      go_roundg kj12
                                      case measure => have := HJ3.out; have := HJ5.out; have := HJ7.out; have := HK4.out; have := HJ10.out; have := HJ12.out; omega
                                      case rel => exact ⟨(IntKind.u64.wrap ((IntKind.u64.wrap (x12_12 + (IntKind.u64.wrap (Int.tdiv x11_7 x8_3)))) + 1)), (IntKind.u64.wrap (x13_12 - (IntKind.u64.wrap (x8_3 - (Int.tmod x11_7 x8_3))))), (true), (wrap64 (x15_4 - 1)), (by first | rfl | (simp; done) | (simp [*]; done)), (by first | rfl | (simp; done) | (simp [*]; done)), (by first | rfl | (simp; done) | (simp [*]; done)), (by first | rfl | (simp; done) | (simp [*]; done)), H', ⟨by have := HJ3.out; have := HJ5.out; have := HJ7.out; have := HK4.out; have := HJ10.out; have := HJ12.out; omega⟩, by repeat (first | exact Drawn0.refl _ | apply Drawn0.step)⟩
                                    · rw [if_neg c20] at H
                                      have c20b0 : decide ((IntKind.u64.wrap (x8_3 - (Int.tmod x11_7 x8_3))) ≤ x13_12) = false := decide_eq_false c20
                                      clear c20
                                      have H' := Aside0.mk H
                                      clear H
                                      go_wp2
                                      repeat (go_quiet (fail); try go_wp2)
                                      go_roundg kj12
                                      case measure => have := HJ3.out; have := HJ5.out; have := HJ7.out; have := HK4.out; have := HJ10.out; have := HJ12.out; omega
                                      case rel => exact ⟨(IntKind.u64.wrap (x12_12 + (IntKind.u64.wrap (Int.tdiv x11_7 x8_3)))), (IntKind.u64.wrap (x13_12 + (Int.tmod x11_7 x8_3))), (true), (wrap64 (x15_4 - 1)), (by first | rfl | (simp; done) | (simp [*]; done)), (by first | rfl | (simp; done) | (simp [*]; done)), (by first | rfl | (simp; done) | (simp [*]; done)), (by first | rfl | (simp; done) | (simp [*]; done)), H', ⟨by have := HJ3.out; have := HJ5.out; have := HJ7.out; have := HK4.out; have := HJ10.out; have := HJ12.out; omega⟩, by repeat (first | exact Drawn0.refl _ | apply Drawn0.step)⟩
                                  · replace c19 := Bool.eq_false_iff.mpr c19
                                    subst c19
                                    have H1 : (if x13_12 ≥ (IntKind.u64.wrap (x8_3 - (Int.tmod x11_7 x8_3))) then (if (IntKind.u64.wrap (x12_12 + (IntKind.u64.wrap (Int.tdiv x11_7 x8_3)))) < x12_12 then (odometerref01_Scale.l0 kj12 x8_3 false x10_5 x11_7 (IntKind.u64.wrap ((IntKind.u64.wrap (x12_12 + (IntKind.u64.wrap (Int.tdiv x11_7 x8_3)))) + 1)) (IntKind.u64.wrap (x13_12 - (IntKind.u64.wrap (x8_3 - (Int.tmod x11_7 x8_3))))) true (wrap64 (x15_4 - 1))) else (odometerref01_Scale.l0 kj12 x8_3 false x10_5 x11_7 (IntKind.u64.wrap ((IntKind.u64.wrap (x12_12 + (IntKind.u64.wrap (Int.tdiv x11_7 x8_3)))) + 1)) (IntKind.u64.wrap (x13_12 - (IntKind.u64.wrap (x8_3 - (Int.tmod x11_7 x8_3))))) ((IntKind.u64.wrap ((IntKind.u64.wrap (x12_12 + (IntKind.u64.wrap (Int.tdiv x11_7 x8_3)))) + 1)) == 0) (wrap64 (x15_4 - 1)))) else (odometerref01_Scale.l0 kj12 x8_3 false x10_5 x11_7 (IntKind.u64.wrap (x12_12 + (IntKind.u64.wrap (Int.tdiv x11_7 x8_3)))) (IntKind.u64.wrap (x13_12 + (Int.tmod x11_7 x8_3))) (decide ((IntKind.u64.wrap (x12_12 + (IntKind.u64.wrap (Int.tdiv x11_7 x8_3)))) < x12_12)) (wrap64 (x15_4 - 1)))) = some (r1, r2) := by rw [if_neg (show ¬ (false = true) by decide)] at H; exact H
                                    clear H
                                    have H := H1
                                    clear H1
                                    by_cases c21 : x13_12 ≥ (IntKind.u64.wrap (x8_3 - (Int.tmod x11_7 x8_3)))
                                    · rw [if_pos c21] at H
                                      have c21b0 : decide ((IntKind.u64.wrap (x8_3 - (Int.tmod x11_7 x8_3))) ≤ x13_12) = true := decide_eq_true c21
                                      clear c21
                                      by_cases c22 : (IntKind.u64.wrap (x12_12 + (IntKind.u64.wrap (Int.tdiv x11_7 x8_3)))) < x12_12
                                      · rw [if_pos c22] at H
                                        have c22b0 : decide ((IntKind.u64.wrap (x12_12 + (IntKind.u64.wrap (Int.tdiv x11_7 x8_3)))) < x12_12) = true := decide_eq_true c22
                                        clear c22
                                        have H' := Aside0.mk H
                                        clear H
                                        go_wp2
                                        repeat (go_quiet (fail); try go_wp2)
                                        go_roundg kj12
                                        case measure => have := HJ3.out; have := HJ5.out; have := HJ7.out; have := HK4.out; have := HJ10.out; have := HJ12.out; omega
                                        case rel => exact ⟨(IntKind.u64.wrap ((IntKind.u64.wrap (x12_12 + (IntKind.u64.wrap (Int.tdiv x11_7 x8_3)))) + 1)), (IntKind.u64.wrap (x13_12 - (IntKind.u64.wrap (x8_3 - (Int.tmod x11_7 x8_3))))), (true), (wrap64 (x15_4 - 1)), (by first | rfl | (simp; done) | (simp [*]; done)), (by first | rfl | (simp; done) | (simp [*]; done)), (by first | rfl | (simp; done) | (simp [*]; done)), (by first | rfl | (simp; done) | (simp [*]; done)), H', ⟨by have := HJ3.out; have := HJ5.out; have := HJ7.out; have := HK4.out; have := HJ10.out; have := HJ12.out; omega⟩, by repeat (first | exact Drawn0.refl _ | apply Drawn0.step)⟩
                                      · rw [if_neg c22] at H
                                        have c22b0 : decide ((IntKind.u64.wrap (x12_12 + (IntKind.u64.wrap (Int.tdiv x11_7 x8_3)))) < x12_12) = false := decide_eq_false c22
                                        clear c22
                                        have H' := Aside0.mk H
                                        clear H
                                        go_wp2
                                        repeat (go_quiet (fail); try go_wp2)
                                        go_roundg kj12
                                        case measure => have := HJ3.out; have := HJ5.out; have := HJ7.out; have := HK4.out; have := HJ10.out; have := HJ12.out; omega
                                        case rel => exact ⟨(IntKind.u64.wrap ((IntKind.u64.wrap (x12_12 + (IntKind.u64.wrap (Int.tdiv x11_7 x8_3)))) + 1)), (IntKind.u64.wrap (x13_12 - (IntKind.u64.wrap (x8_3 - (Int.tmod x11_7 x8_3))))), (((IntKind.u64.wrap ((IntKind.u64.wrap (x12_12 + (IntKind.u64.wrap (Int.tdiv x11_7 x8_3)))) + 1)) == 0)), (wrap64 (x15_4 - 1)), (by first | rfl | (simp; done) | (simp [*]; done)), (by first | rfl | (simp; done) | (simp [*]; done)), (by first | rfl | (simp; done) | (simp [*]; done)), (by first | rfl | (simp; done) | (simp [*]; done)), H', ⟨by have := HJ3.out; have := HJ5.out; have := HJ7.out; have := HK4.out; have := HJ10.out; have := HJ12.out; omega⟩, by repeat (first | exact Drawn0.refl _ | apply Drawn0.step)⟩
                                    · rw [if_neg c21] at H
                                      have c21b0 : decide ((IntKind.u64.wrap (x8_3 - (Int.tmod x11_7 x8_3))) ≤ x13_12) = false := decide_eq_false c21
                                      clear c21
                                      have H' := Aside0.mk H
                                      clear H
                                      go_wp2
                                      repeat (go_quiet (fail); try go_wp2)
                                      go_roundg kj12
                                      case measure => have := HJ3.out; have := HJ5.out; have := HJ7.out; have := HK4.out; have := HJ10.out; have := HJ12.out; omega
                                      case rel => exact ⟨(IntKind.u64.wrap (x12_12 + (IntKind.u64.wrap (Int.tdiv x11_7 x8_3)))), (IntKind.u64.wrap (x13_12 + (Int.tmod x11_7 x8_3))), (decide ((IntKind.u64.wrap (x12_12 + (IntKind.u64.wrap (Int.tdiv x11_7 x8_3)))) < x12_12)), (wrap64 (x15_4 - 1)), (by first | rfl | (simp; done) | (simp [*]; done)), (by first | rfl | (simp; done) | (simp [*]; done)), (by first | rfl | (simp; done) | (simp [*]; done)), (by first | rfl | (simp; done) | (simp [*]; done)), H', ⟨by have := HJ3.out; have := HJ5.out; have := HJ7.out; have := HK4.out; have := HJ10.out; have := HJ12.out; omega⟩, by repeat (first | exact Drawn0.refl _ | apply Drawn0.step)⟩
                              · rw [if_neg c17] at H
                                have c17b0 : ((Int.tmod (ji16) 2) == 1) = false := beq_eq_false_iff_ne.mpr c17
                                have c17b1 : ((Int.tmod (ji16) 2) != 1) = true := bne_iff_ne.mpr c17
                                have H' := Aside0.mk H
                                clear H
                                go_wp2
                                repeat (go_quiet (fail); try go_wp2)
                                go_roundg kj12
                                case measure => have := HJ3.out; have := HJ5.out; have := HJ7.out; have := HK4.out; have := HJ10.out; have := HJ12.out; omega
                                case rel => exact ⟨(x12_12), (x13_12), (x14_10), (wrap64 (x15_4 - 1)), (by first | rfl | (simp; done) | (simp [*]; done)), (by first | rfl | (simp; done) | (simp [*]; done)), (by first | rfl | (simp; done) | (simp [*]; done)), (by first | rfl | (simp; done) | (simp [*]; done)), H', ⟨by have := HJ3.out; have := HJ5.out; have := HJ7.out; have := HK4.out; have := HJ10.out; have := HJ12.out; omega⟩, by repeat (first | exact Drawn0.refl _ | apply Drawn0.step)⟩
                            · rw [if_neg c15] at H
                              exact absurd H (by simp)
                  · rw [if_neg c10] at H
                    have c10b0 : decide (0 ≤ x15_4) = false := decide_eq_false c10
                    clear c10
                    have HC23 := Aside0.mk H
                    clear H
                    go_upto_region 30 with (fail)
                    repeat (go_quiet (fail); go_upto_region 30 with (fail))
                    go_cut [111] (fun v111 wc => ∃ (kq : Nat) (x111_22 : Bool), v111 = .bool x111_22 ∧ Aside0 (odometerref01_Scale.j6 kq false x12_4 x14_4 x111_22 = some (r1, r2)) ∧ Aside0 (kq ≤ k4) ∧ Drawn0 w wc)
                    case first =>
                      have H := HC23.out
                      clear HC23
                      by_cases c24 : false = true
                      · exact absurd c24 Bool.false_ne_true
                      · (first | rw [if_neg c24] at H | rw [if_pos trivial] at H | rw [if_neg not_false] at H)
                        have c24b0 : false = false := rfl
                        (try (have c24b1 : decide ((decide (a0 < 0)) = (decide (a1 < 0))) = true := by simpa using c24))
                        (try (have c24b2 : ((decide (a0 < 0)) == (decide (a1 < 0))) = true := by simpa using c24))
                        clear c24
                        (first | rw [c24b0] | (simp only [i64_w, i32_w]; rw [c24b0]) | rw [c24b1] | skip)
                        have H' := Aside0.mk H
                        clear H
                        go_wp2
                        repeat (go_quiet (fail); try go_wp2)
                        go_meet
                        case rel => exact ⟨_, (false), (by first | rfl | (simp; done) | (simp [*]; done)), H', ⟨by have := HJ3.out; have := HJ5.out; have := HJ7.out; have := HK4.out; first | omega | exact Nat.le_refl _⟩, by repeat (first | exact Drawn0.refl _ | apply Drawn0.step)⟩
                    case rest =>
                      clear HC23
                      try clear c1
                      try clear c2
                      try clear p2
                      try clear c3
                      try clear c5
                      try clear c5b0
                      try clear p6
                      try clear c7
                      try clear c7b0
                      try clear c9
                      try clear c9b0
                      try clear c10
                      try clear c10b0
                      try clear c12
                      try clear c14
                      try clear c14b0
                      try clear c15
                      try clear c15b0
                      try clear c15b1
                      try clear c17
                      try clear c17b0
                      try clear c17b1
                      try clear c18
                      try clear c18b0
                      try clear c18b1
                      try clear c19
                      try clear c20
                      try clear c20b0
                      try clear c21
                      try clear c21b0
                      try clear c22
                      try clear c22b0
                      try clear c24
                      try clear c24b0
                      try clear c24b1
                      try clear c24b2
                      try clear p2
                      obtain ⟨kq, x111_22, rfl, HA, HJ22, ⟨mc22, rfl⟩⟩ := hcut
                      cases kq with
                      | zero => exact absurd HA.out (by simp [odometerref01_Scale.j6])
                      | succ kj22 =>
                        have H := HA.out
                        clear HA
                        simp only [odometerref01_Scale.j6] at H
                        (try rw [HNG_.out] at H)
                        have HC25 := Aside0.mk H
                        clear H
                        go_upto_if 111 with (fail)
                        repeat (go_quiet (fail); go_upto_if 111 with (fail))
                        go_cut [12, 14] (fun v12 v14 wc => ∃ (kq : Nat) (x12_24 : Int) (x14_24 : Bool), v12 = .int .u64 x12_24 ∧ v14 = .bool x14_24 ∧ Aside0 (odometerref01_Scale.j7 kq false x12_24 x14_24 = some (r1, r2)) ∧ Aside0 (kq ≤ kj22) ∧ Drawn0 w wc)
                        case first =>
                          have H := HC25.out
                          clear HC25
                          by_cases c26 : x111_22 = true
                          · subst c26
                            have H1 : (if x14_4 = true then (odometerref01_Scale.j7 kj22 false (IntKind.u64.wrap (x12_4 + 1)) true) else (odometerref01_Scale.j7 kj22 false (IntKind.u64.wrap (x12_4 + 1)) ((IntKind.u64.wrap (x12_4 + 1)) == 0))) = some (r1, r2) := by rw [if_pos rfl] at H; exact H
                            clear H
                            have H := H1
                            clear H1
                            by_cases c27 : x14_4 = true
                            · subst c27
                              have H1 : (odometerref01_Scale.j7 kj22 false (IntKind.u64.wrap (x12_4 + 1)) true) = some (r1, r2) := by rw [if_pos rfl] at H; exact H
                              clear H
                              have H := H1
                              clear H1
                              have H' := Aside0.mk H
                              clear H
                              go_wp2
                              repeat (go_quiet (fail); try go_wp2)
                              go_meet
                              case rel => exact ⟨_, (IntKind.u64.wrap (x12_4 + 1)), (true), (by first | rfl | (simp; done) | (simp [*]; done)), (by first | rfl | (simp; done) | (simp [*]; done)), H', ⟨by have := HJ3.out; have := HJ5.out; have := HJ7.out; have := HK4.out; have := HJ22.out; first | omega | exact Nat.le_refl _⟩, by repeat (first | exact Drawn0.refl _ | apply Drawn0.step)⟩
                            · replace c27 := Bool.eq_false_iff.mpr c27
                              subst c27
                              have H1 : (odometerref01_Scale.j7 kj22 false (IntKind.u64.wrap (x12_4 + 1)) ((IntKind.u64.wrap (x12_4 + 1)) == 0)) = some (r1, r2) := by rw [if_neg (show ¬ (false = true) by decide)] at H; exact H
                              clear H
                              have H := H1
                              clear H1
                              have H' := Aside0.mk H
                              clear H
                              go_wp2
                              repeat (go_quiet (fail); try go_wp2)
                              go_meet
                              case rel => exact ⟨_, (IntKind.u64.wrap (x12_4 + 1)), (((IntKind.u64.wrap (x12_4 + 1)) == 0)), (by first | rfl | (simp; done) | (simp [*]; done)), (by first | rfl | (simp; done) | (simp [*]; done)), H', ⟨by have := HJ3.out; have := HJ5.out; have := HJ7.out; have := HK4.out; have := HJ22.out; first | omega | exact Nat.le_refl _⟩, by repeat (first | exact Drawn0.refl _ | apply Drawn0.step)⟩
                          · replace c26 := Bool.eq_false_iff.mpr c26
                            subst c26
                            have H1 : (odometerref01_Scale.j7 kj22 false x12_4 x14_4) = some (r1, r2) := by rw [if_neg (show ¬ (false = true) by decide)] at H; exact H
                            clear H
                            have H := H1
                            clear H1
                            have H' := Aside0.mk H
                            clear H
                            go_wp2
                            repeat (go_quiet (fail); try go_wp2)
                            go_meet
                            case rel => exact ⟨_, (x12_4), (x14_4), (by first | rfl | (simp; done) | (simp [*]; done)), (by first | rfl | (simp; done) | (simp [*]; done)), H', ⟨by have := HJ3.out; have := HJ5.out; have := HJ7.out; have := HK4.out; have := HJ22.out; first | omega | exact Nat.le_refl _⟩, by repeat (first | exact Drawn0.refl _ | apply Drawn0.step)⟩
                        case rest =>
                          clear HC25
                          try clear c1
                          try clear c2
                          try clear p2
                          try clear c3
                          try clear c5
                          try clear c5b0
                          try clear p6
                          try clear c7
                          try clear c7b0
                          try clear c9
                          try clear c9b0
                          try clear c10
                          try clear c10b0
                          try clear c12
                          try clear c14
                          try clear c14b0
                          try clear c15
                          try clear c15b0
                          try clear c15b1
                          try clear c17
                          try clear c17b0
                          try clear c17b1
                          try clear c18
                          try clear c18b0
                          try clear c18b1
                          try clear c19
                          try clear c20
                          try clear c20b0
                          try clear c21
                          try clear c21b0
                          try clear c22
                          try clear c22b0
                          try clear c24
                          try clear c24b0
                          try clear c24b1
                          try clear c24b2
                          try clear c26
                          try clear c27
                          try clear p2
                          try clear p6
                          obtain ⟨kq, x12_24, x14_24, rfl, rfl, HA, HJ24, ⟨mc24, rfl⟩⟩ := hcut
                          cases kq with
                          | zero => exact absurd HA.out (by simp [odometerref01_Scale.j7])
                          | succ kj24 =>
                            have H := HA.out
                            clear HA
                            simp only [odometerref01_Scale.j7] at H
                            (try rw [HNG_.out] at H)
                            have HC28 := Aside0.mk H
                            clear H
                            go_upto_region 33 with (fail)
                            repeat (go_quiet (fail); go_upto_region 33 with (fail))
                            go_cut [126] (fun v126 wc => ∃ (kq : Nat) (x126_27 : Bool), v126 = .bool x126_27 ∧ Aside0 (odometerref01_Scale.j8 kq false x12_24 x14_24 x126_27 = some (r1, r2)) ∧ Aside0 (kq ≤ kj24) ∧ Drawn0 w wc)
                            case first =>
                              have H := HC28.out
                              clear HC28
                              by_cases c29 : false = true
                              · exact absurd c29 Bool.false_ne_true
                              · (first | rw [if_neg c29] at H | rw [if_pos trivial] at H | rw [if_neg not_false] at H)
                                have c29b0 : false = false := rfl
                                (try (have c29b1 : decide ((decide (a0 < 0)) = (decide (a1 < 0))) = true := by simpa using c29))
                                (try (have c29b2 : ((decide (a0 < 0)) == (decide (a1 < 0))) = true := by simpa using c29))
                                clear c29
                                (first | rw [c29b0] | (simp only [i64_w, i32_w]; rw [c29b0]) | rw [c29b1] | skip)
                                have H' := Aside0.mk H
                                clear H
                                go_wp2
                                repeat (go_quiet (fail); try go_wp2)
                                go_meet
                                case rel => exact ⟨_, (false), (by first | rfl | (simp; done) | (simp [*]; done)), H', ⟨by have := HJ3.out; have := HJ5.out; have := HJ7.out; have := HK4.out; have := HJ22.out; have := HJ24.out; first | omega | exact Nat.le_refl _⟩, by repeat (first | exact Drawn0.refl _ | apply Drawn0.step)⟩
                            case rest =>
                              clear HC28
                              try clear c1
                              try clear c2
                              try clear p2
                              try clear c3
                              try clear c5
                              try clear c5b0
                              try clear p6
                              try clear c7
                              try clear c7b0
                              try clear c9
                              try clear c9b0
                              try clear c10
                              try clear c10b0
                              try clear c12
                              try clear c14
                              try clear c14b0
                              try clear c15
                              try clear c15b0
                              try clear c15b1
                              try clear c17
                              try clear c17b0
                              try clear c17b1
                              try clear c18
                              try clear c18b0
                              try clear c18b1
                              try clear c19
                              try clear c20
                              try clear c20b0
                              try clear c21
                              try clear c21b0
                              try clear c22
                              try clear c22b0
                              try clear c24
                              try clear c24b0
                              try clear c24b1
                              try clear c24b2
                              try clear c26
                              try clear c27
                              try clear c29
                              try clear c29b0
                              try clear c29b1
                              try clear c29b2
                              try clear c30
                              try clear p2
                              try clear p6
                              obtain ⟨kq, x126_27, rfl, HA, HJ27, ⟨mc27, rfl⟩⟩ := hcut
                              cases kq with
                              | zero => exact absurd HA.out (by simp [odometerref01_Scale.j8])
                              | succ kj27 =>
                                have H := HA.out
                                clear HA
                                simp only [odometerref01_Scale.j8] at H
                                (try rw [HNG_.out] at H)
                                by_cases c31 : x126_27 = true
                                · subst c31
                                  have H1 : (some ((-9223372036854775808), true)) = some (r1, r2) := by rw [if_pos rfl] at H; exact H
                                  clear H
                                  have H := H1
                                  clear H1
                                  simp only [Option.some.injEq, Prod.mk.injEq] at H
                                  obtain ⟨rfl, rfl⟩ := H
                                  go_wp2
                                  repeat (go_quiet (fail); try go_wp2)
                                  go_ret2
                                  exact ⟨by first | rfl | (simp; done) | (simp [*]; done), by repeat (first | exact Drawn0.refl _ | apply Drawn0.step)⟩
                                · replace c31 := Bool.eq_false_iff.mpr c31
                                  subst c31
                                  have H1 : (if false = true then (some (wrap64 (IntKind.u64.wrap (-x12_24)), false)) else (if x14_24 = true then (some (9223372036854775807, true)) else (if x12_24 > 9223372036854775807 then (some (9223372036854775807, true)) else (some (wrap64 (x12_24), false))))) = some (r1, r2) := by rw [if_neg (show ¬ (false = true) by decide)] at H; exact H
                                  clear H
                                  have H := H1
                                  clear H1
                                  by_cases c32 : false = true
                                  · exact absurd c32 Bool.false_ne_true
                                  · (first | rw [if_neg c32] at H | rw [if_pos trivial] at H | rw [if_neg not_false] at H)
                                    have c32b0 : false = false := rfl
                                    (try (have c32b1 : decide ((decide (a0 < 0)) = (decide (a1 < 0))) = true := by simpa using c32))
                                    (try (have c32b2 : ((decide (a0 < 0)) == (decide (a1 < 0))) = true := by simpa using c32))
                                    clear c32
                                    by_cases c33 : x14_24 = true
                                    · subst c33
                                      have H1 : (some (9223372036854775807, true)) = some (r1, r2) := by rw [if_pos rfl] at H; exact H
                                      clear H
                                      have H := H1
                                      clear H1
                                      simp only [Option.some.injEq, Prod.mk.injEq] at H
                                      obtain ⟨rfl, rfl⟩ := H
                                      go_wp2
                                      repeat (go_quiet (fail); try go_wp2)
                                      go_ret2
                                      exact ⟨by first | rfl | (simp; done) | (simp [*]; done), by repeat (first | exact Drawn0.refl _ | apply Drawn0.step)⟩
                                    · replace c33 := Bool.eq_false_iff.mpr c33
                                      subst c33
                                      have H1 : (if x12_24 > 9223372036854775807 then (some (9223372036854775807, true)) else (some (wrap64 (x12_24), false))) = some (r1, r2) := by rw [if_neg (show ¬ (false = true) by decide)] at H; exact H
                                      clear H
                                      have H := H1
                                      clear H1
                                      by_cases c34 : x12_24 > 9223372036854775807
                                      · rw [if_pos c34] at H
                                        have c34b0 : decide (9223372036854775807 < x12_24) = true := decide_eq_true c34
                                        clear c34
                                        simp only [Option.some.injEq, Prod.mk.injEq] at H
                                        obtain ⟨rfl, rfl⟩ := H
                                        go_wp2
                                        repeat (go_quiet (fail); try go_wp2)
                                        go_ret2
                                        exact ⟨by first | rfl | (simp; done) | (simp [*]; done), by repeat (first | exact Drawn0.refl _ | apply Drawn0.step)⟩
                                      · rw [if_neg c34] at H
                                        have c34b0 : decide (9223372036854775807 < x12_24) = false := decide_eq_false c34
                                        clear c34
                                        simp only [Option.some.injEq, Prod.mk.injEq] at H
                                        obtain ⟨rfl, rfl⟩ := H
                                        go_wp2
                                        repeat (go_quiet (fail); try go_wp2)
                                        go_ret2
                                        exact ⟨by first | rfl | (simp; done) | (simp [*]; done), by repeat (first | exact Drawn0.refl _ | apply Drawn0.step)⟩
theorem odometerref01_Scale.calls (k : Nat) (a0 : Int) (a1 : Int) (a2 : Int) (r1 : Int) (r2 : Bool) (w : World) (h : odometerref01_Scale.f k a0 a1 a2 = some (r1, r2)) :
    Calls Tryd.prog 18 #[.int .i64 a0, .int .i64 a1, .int .i64 a2] w fun e w' => e = .returned (.tuple #[.int .i64 r1, .bool r2]) ∧ Drawn0 w w' := by
  cases hng0_ : ((decide (a0 < 0)) != (decide (a1 < 0))) with
  | true => exact odometerref01_Scale.calls_true k a0 a1 a2 r1 r2 w hng0_ h
  | false => exact odometerref01_Scale.calls_false k a0 a1 a2 r1 r2 w hng0_ h

end Go.Proofs.YtdgmgbcjlmighaaDoor.PSca
