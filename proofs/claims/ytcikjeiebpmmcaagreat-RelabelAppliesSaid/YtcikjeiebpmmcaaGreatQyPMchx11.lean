/- Pruned. -/
import Derived.Test.YtcikjeiebpmmcaaGreatQyPMchx0
import Derived.Test.YtcikjeiebpmmcaaGreatQyPMchx10
namespace Go.Proofs.YtcikjeiebpmmcaaGreat.PMch
open Go.RowKit Go.Proofs.YtcikjeiebpmmcaaGreatW.PrintWords Go.Proofs.YtcikjeiebpmmcaaGreatW.PrintLast Go.Proofs.YtcikjeiebpmmcaaGreatW.PrintMore
attribute [local go_sem] max2_int max_two
set_option linter.unusedVariables false
set_option linter.unusedSimpArgs false
mutual
def r03_IsMetric.j0 : Nat → ByteArray → Bool → Option (Bool)
 | 0, _, _ => none
 | k + 1, x0, x12 => if x12 = true then (some false) else (r03_IsMetric.l0 k x0 0)
def r03_IsMetric.l0 : Nat → ByteArray → Int → Option (Bool)
 | 0, _, _ => none
 | k + 1, x0, x3 => if x3 < (x0.size : Int) then (if 0 ≤ x3 then (if (bt x0 x3) ≥ 48 then ((r03_letter.f (bt x0 x3)).bind fun t233 => (if t233 = true then (r03_IsMetric.l0 k x0 (wrap64 (x3 + 1))) else (if (bt x0 x3) = 58 then (r03_IsMetric.l0 k x0 (wrap64 (x3 + 1))) else (if ((bt x0 x3) ≤ 57) then (if x3 = 0 then (some false) else (r03_IsMetric.l0 k x0 (wrap64 (x3 + 1)))) else (some false))))) else ((r03_letter.f (bt x0 x3)).bind fun t234 => (if t234 = true then (r03_IsMetric.l0 k x0 (wrap64 (x3 + 1))) else (if (bt x0 x3) = 58 then (r03_IsMetric.l0 k x0 (wrap64 (x3 + 1))) else (some false))))) else (none)) else (some true)
end
def r03_IsMetric.f (k : Nat) (a0 : ByteArray) : Option (Bool) := if (a0.size : Int) < 1 then (r03_IsMetric.j0 k a0 true) else (r03_IsMetric.j0 k a0 (decide ((a0.size : Int) > 200)))
theorem r03_IsMetric.mono_l : ∀ k, (∀ y0 y1, LeO (r03_IsMetric.j0 k y0 y1) (r03_IsMetric.j0 (k + 1) y0 y1)) ∧ (∀ y0 y1, LeO (r03_IsMetric.l0 k y0 y1) (r03_IsMetric.l0 (k + 1) y0 y1))
 | 0 => ⟨fun _ _ r h => by simp [r03_IsMetric.j0] at h, fun _ _ r h => by simp [r03_IsMetric.l0] at h⟩
 | k + 1 => by
  obtain ⟨ih0, ih1⟩ := r03_IsMetric.mono_l k
  refine ⟨?_, ?_⟩
  rotate_left
  ·intro y0 y1
   unfold r03_IsMetric.l0
   repeat' first
   | (with_reducible first | exact ih0 _ _ | exact ih1 _ _ | exact LeO.refl _ | exact LeO.none _ | refine LeO.ite ?_ ?_ | refine LeO.bind ?_ (fun _ => ?_))
  intro y0 y1
  unfold r03_IsMetric.j0
  repeat' first
  | (with_reducible first | exact ih0 _ _ | exact ih1 _ _ | exact LeO.refl _ | exact LeO.none _ | refine LeO.ite ?_ ?_ | refine LeO.bind ?_ (fun _ => ?_))
theorem r03_IsMetric.mono : ∀ a0 k, LeO (r03_IsMetric.f k a0) (r03_IsMetric.f (k + 1) a0) := by
 intro a0 k
 obtain ⟨ih0, ih1⟩ := r03_IsMetric.mono_l k
 unfold r03_IsMetric.f
 repeat' first
  | (with_reducible first | exact ih0 _ _ | exact ih1 _ _ | exact LeO.refl _ | exact LeO.none _ | refine LeO.ite ?_ ?_ | refine LeO.bind ?_ (fun _ => ?_))
set_option maxHeartbeats 8000000 in
set_option maxRecDepth 100000 in
theorem r03_IsMetric.calls (k : Nat) (a0 : ByteArray) (r : Bool) (w : World) (h : r03_IsMetric.f k a0 = some r) :
 Calls Tryz.prog 69 #[.string a0] w fun e w' => e = .returned (.bool r) ∧ Drawn0 w w' := by
 have H : (if (a0.size : Int) < 1 then (r03_IsMetric.j0 k a0 true) else (r03_IsMetric.j0 k a0 (decide ((a0.size : Int) > 200)))) = some r := h
 clear h
 have HC2 := A_ H
 clear H
 go_enter Tryz.func69, Tryz.ntmps69
 go_upto_region 1 with (fail)
 go_cut [12] (fun v12 wc => ∃ (kq : Nat) (x12_1 : Bool), v12 = .bool x12_1 ∧ Aside0 (r03_IsMetric.j0 kq a0 x12_1 = some r) ∧ Aside0 (kq ≤ k) ∧ Drawn0 w wc)
 case first =>
  have H := HC2.out
  clear HC2
  by_cases c3 : (a0.size : Int) < 1
  rotate_left
  ·rw [if_neg c3] at H
   have c3b0 := decide_eq_false c3
   have c3b1 : decide (a0.size < 1) = false := decide_eq_false (by omega)
   clear c3
   (skip)
   have H' := A_ H
   clear H
   go_wp2
   go_meet
   case rel => exact ⟨_, (decide ((a0.size : Int) > 200)), (by rfl), H', ⟨by omega⟩, by repeat (exact Drawn0.refl _)⟩
  rw [if_pos c3] at H
  have c3b0 := decide_eq_true c3
  have c3b1 : decide (a0.size < 1) = true := decide_eq_true (by omega)
  clear c3
  (skip)
  have H' := A_ H
  clear H
  go_wp2
  go_meet
  case rel => exact ⟨_, (true), (by rfl), H', ⟨by omega⟩, by repeat (exact Drawn0.refl _)⟩
 case rest =>
  clear HC2
  try clear p2
  try clear c3
  try clear c3b0
  try clear c3b1
  obtain ⟨kq, x12_1, rfl, HA, HJ1, ⟨mc1, rfl⟩⟩ := hcut
  cases kq with
  | zero => exact absurd HA.out (by simp [r03_IsMetric.j0])
  | succ kj1 =>
   have H := HA.out
   clear HA
   simp only [r03_IsMetric.j0] at H
   by_cases c4 : x12_1 = true
   ·subst c4
    have H1 : (some false) = some r := by rw [if_pos rfl] at H; exact H
    clear H
    have H := H1
    clear H1
    obtain rfl := Option.some.inj H
    go_wp2
    go_ret
    exact ⟨by rfl, by repeat (first | exact Drawn0.refl _ | apply Drawn0.step)⟩
   replace c4 := Bool.eq_false_iff.mpr c4
   subst c4
   have H1 : (r03_IsMetric.l0 kj1 a0 0) = some r := by rw [if_neg (show ¬ (false = true) by decide)] at H; exact H
   clear H
   have H := H1
   clear H1
   have H' := A_ H
   clear H
   go_wp2
   go_loopg [3] kj1 (fun kq v3 w' => ∃ (x3_2 : Int), v3 = .int .i64 x3_2 ∧ Aside0 (r03_IsMetric.l0 kq a0 x3_2 = some r) ∧ Aside0 (kq ≤ kj1) ∧ Drawn0 w w')
   case atStart => exact ⟨(0), (by rfl), H', ⟨Nat.le_refl _⟩, by repeat (first | exact Drawn0.refl _ | apply Drawn0.step)⟩
   case round =>
    clear H'
    try clear c1
    try clear p2
    try clear c3
    try clear c3b0
    try clear c3b1
    try clear c4
    try clear p2
    obtain ⟨x3_2, rfl, HA, HK2, ⟨m2, rfl⟩⟩ := hrel
    cases gk with
    | zero => exact absurd HA.out (by simp [r03_IsMetric.l0])
    | succ k2 =>
     have H := HA.out
     clear HA
     simp only [r03_IsMetric.l0] at H
     by_cases c5 : x3_2 < (a0.size : Int)
     rotate_left
     ·rw [if_neg c5] at H
      have c5b0 := decide_eq_false c5
      clear c5
      obtain rfl := Option.some.inj H
      go_wp2
      go_ret
      exact ⟨by rfl, by repeat (first | exact Drawn0.refl _ | apply Drawn0.step)⟩
     rw [if_pos c5] at H
     have c5b0 := decide_eq_true c5
     clear c5
     by_cases c6 : 0 ≤ x3_2
     rotate_left
     ·rw [if_neg c6] at H
      exact absurd H (by simp)
     rw [if_pos c6] at H
     have c6b0 := decide_eq_true c6
     clear c6
     by_cases c8 : (bt a0 x3_2) ≥ 48
     rotate_left
     ·rw [if_neg c8] at H
      have c8b0 := decide_eq_false c8
      clear c8
      replace H := Option.bind_eq_some_iff.mp H
      obtain ⟨t234, A180, H⟩ := H
      replace H : (if t234 = true then (r03_IsMetric.l0 k2 a0 (wrap64 (x3_2 + 1))) else (if (bt a0 x3_2) = 58 then (r03_IsMetric.l0 k2 a0 (wrap64 (x3_2 + 1))) else (some false))) = some r := H
      have A18 := A_ A180
      clear A180
      by_cases c19 : t234 = true
      ·subst c19
       have H1 : (r03_IsMetric.l0 k2 a0 (wrap64 (x3_2 + 1))) = some r := by rw [if_pos rfl] at H; exact H
       clear H
       have H := H1
       clear H1
       have H' := A_ H
       clear H
       have p7 : 0 ≤ (x3_2 : Int) := od_
       have q7 : x3_2 < (a0.size : Int) := od_
       have hx7 := bt_at a0 x3_2
       replace p7 := eq_true p7
       replace q7 := eq_true q7
       have p17 : 0 ≤ (x3_2 : Int) := od_
       have q17 : x3_2 < (a0.size : Int) := od_
       have hx17 := bt_at a0 x3_2
       replace p17 := eq_true p17
       replace q17 := eq_true q17
       go_wp2_with (first | ((with_reducible refine gate_callee (f := 93) rfl ?_); refine goesL_ (some 32) rfl rfl Tryz.func93 (by kernel_rfl) rfl #[.int .u8 (bt a0 x3_2)] rfl mp_ ?_; (with_reducible refine (r03_letter.calls (bt a0 x3_2) true _ A18.out).mono ?_); rintro e w' ⟨rfl, ⟨nd, rfl⟩⟩; refine ⟨_, rfl, ?_⟩))
       go_roundg k2
       case measure => have := HJ1.out; have := HK2.out; omega
       case rel => exact ⟨(wrap64 (x3_2 + 1)), (by rfl), H', ⟨by have := HJ1.out; have := HK2.out; omega⟩, by repeat (first | exact Drawn0.refl _ | apply Drawn0.step)⟩
      replace c19 := Bool.eq_false_iff.mpr c19
      subst c19
      have H1 : (if (bt a0 x3_2) = 58 then (r03_IsMetric.l0 k2 a0 (wrap64 (x3_2 + 1))) else (some false)) = some r := by rw [if_neg (show ¬ (false = true) by decide)] at H; exact H
      clear H
      have H := H1
      clear H1
      by_cases c21 : (bt a0 x3_2) = 58
      rotate_left
      ·rw [if_neg c21] at H
       have c21b0 : ((bt a0 x3_2) == 58) = false := beq_eq_false_iff_ne.mpr c21
       have c21b1 : ((bt a0 x3_2) != 58) = true := bne_iff_ne.mpr c21
       obtain rfl := Option.some.inj H
       have p7 : 0 ≤ (x3_2 : Int) := od_
       have q7 : x3_2 < (a0.size : Int) := od_
       have hx7 := bt_at a0 x3_2
       replace p7 := eq_true p7
       replace q7 := eq_true q7
       have p17 : 0 ≤ (x3_2 : Int) := od_
       have q17 : x3_2 < (a0.size : Int) := od_
       have hx17 := bt_at a0 x3_2
       replace p17 := eq_true p17
       replace q17 := eq_true q17
       go_wp2_with (first | ((with_reducible refine gate_callee (f := 93) rfl ?_); refine goesL_ (some 32) rfl rfl Tryz.func93 (by kernel_rfl) rfl #[.int .u8 (bt a0 x3_2)] rfl mp_ ?_; (with_reducible refine (r03_letter.calls (bt a0 x3_2) false _ A18.out).mono ?_); rintro e w' ⟨rfl, ⟨nd, rfl⟩⟩; refine ⟨_, rfl, ?_⟩; have p20 : 0 ≤ (x3_2 : Int) := od_; have q20 : x3_2 < (a0.size : Int) := od_; have hx20 := bt_at a0 x3_2; replace p20 := eq_true p20; replace q20 := eq_true q20))
       go_ret
       exact ⟨by rfl, by repeat (first | exact Drawn0.refl _ | apply Drawn0.step)⟩
      rw [if_pos c21] at H
      have c21b0 : ((bt a0 x3_2) == 58) = true := beq_iff_eq.mpr c21
      have c21b1 : ((bt a0 x3_2) != 58) = false := bne_eq_false_iff_eq.mpr c21
      clear c21
      have H' := A_ H
      clear H
      have p7 : 0 ≤ (x3_2 : Int) := od_
      have q7 : x3_2 < (a0.size : Int) := od_
      have hx7 := bt_at a0 x3_2
      replace p7 := eq_true p7
      replace q7 := eq_true q7
      have p17 : 0 ≤ (x3_2 : Int) := od_
      have q17 : x3_2 < (a0.size : Int) := od_
      have hx17 := bt_at a0 x3_2
      replace p17 := eq_true p17
      replace q17 := eq_true q17
      go_wp2_with (first | ((with_reducible refine gate_callee (f := 93) rfl ?_); refine goesL_ (some 32) rfl rfl Tryz.func93 (by kernel_rfl) rfl #[.int .u8 (bt a0 x3_2)] rfl mp_ ?_; (with_reducible refine (r03_letter.calls (bt a0 x3_2) false _ A18.out).mono ?_); rintro e w' ⟨rfl, ⟨nd, rfl⟩⟩; refine ⟨_, rfl, ?_⟩; have p20 : 0 ≤ (x3_2 : Int) := od_; have q20 : x3_2 < (a0.size : Int) := od_; have hx20 := bt_at a0 x3_2; replace p20 := eq_true p20; replace q20 := eq_true q20))
      go_roundg k2
      case measure => have := HJ1.out; have := HK2.out; omega
      case rel => exact ⟨(wrap64 (x3_2 + 1)), (by rfl), H', ⟨by have := HJ1.out; have := HK2.out; omega⟩, by repeat (first | exact Drawn0.refl _ | apply Drawn0.step)⟩
     rw [if_pos c8] at H
     have c8b0 := decide_eq_true c8
     clear c8
     replace H := Option.bind_eq_some_iff.mp H
     obtain ⟨t233, A110, H⟩ := H
     replace H : (if t233 = true then (r03_IsMetric.l0 k2 a0 (wrap64 (x3_2 + 1))) else (if (bt a0 x3_2) = 58 then (r03_IsMetric.l0 k2 a0 (wrap64 (x3_2 + 1))) else (if ((bt a0 x3_2) ≤ 57) then (if x3_2 = 0 then (some false) else (r03_IsMetric.l0 k2 a0 (wrap64 (x3_2 + 1)))) else (some false)))) = some r := H
     have A11 := A_ A110
     clear A110
     by_cases c12 : t233 = true
     ·subst c12
      have H1 : (r03_IsMetric.l0 k2 a0 (wrap64 (x3_2 + 1))) = some r := by rw [if_pos rfl] at H; exact H
      clear H
      have H := H1
      clear H1
      have H' := A_ H
      clear H
      have p7 : 0 ≤ (x3_2 : Int) := od_
      have q7 : x3_2 < (a0.size : Int) := od_
      have hx7 := bt_at a0 x3_2
      replace p7 := eq_true p7
      replace q7 := eq_true q7
      have p9 : 0 ≤ (x3_2 : Int) := od_
      have q9 : x3_2 < (a0.size : Int) := od_
      have hx9 := bt_at a0 x3_2
      replace p9 := eq_true p9
      replace q9 := eq_true q9
      have p10 : 0 ≤ (x3_2 : Int) := od_
      have q10 : x3_2 < (a0.size : Int) := od_
      have hx10 := bt_at a0 x3_2
      replace p10 := eq_true p10
      replace q10 := eq_true q10
      go_wp2_with (first | ((with_reducible refine gate_callee (f := 93) rfl ?_); refine goesL_ (some 32) rfl rfl Tryz.func93 (by kernel_rfl) rfl #[.int .u8 (bt a0 x3_2)] rfl mp_ ?_; (with_reducible refine (r03_letter.calls (bt a0 x3_2) true _ A11.out).mono ?_); rintro e w' ⟨rfl, ⟨nd, rfl⟩⟩; refine ⟨_, rfl, ?_⟩))
      go_roundg k2
      case measure => have := HJ1.out; have := HK2.out; omega
      case rel => exact ⟨(wrap64 (x3_2 + 1)), (by rfl), H', ⟨by have := HJ1.out; have := HK2.out; omega⟩, by repeat (first | exact Drawn0.refl _ | apply Drawn0.step)⟩
     replace c12 := Bool.eq_false_iff.mpr c12
     subst c12
     have H1 : (if (bt a0 x3_2) = 58 then (r03_IsMetric.l0 k2 a0 (wrap64 (x3_2 + 1))) else (if ((bt a0 x3_2) ≤ 57) then (if x3_2 = 0 then (some false) else (r03_IsMetric.l0 k2 a0 (wrap64 (x3_2 + 1)))) else (some false))) = some r := by rw [if_neg (show ¬ (false = true) by decide)] at H; exact H
     clear H
     have H := H1
     clear H1
     by_cases c14 : (bt a0 x3_2) = 58
     ·rw [if_pos c14] at H
      have c14b0 : ((bt a0 x3_2) == 58) = true := beq_iff_eq.mpr c14
      have c14b1 : ((bt a0 x3_2) != 58) = false := bne_eq_false_iff_eq.mpr c14
      clear c14
      have H' := A_ H
      clear H
      have p7 : 0 ≤ (x3_2 : Int) := od_
      have q7 : x3_2 < (a0.size : Int) := od_
      have hx7 := bt_at a0 x3_2
      replace p7 := eq_true p7
      replace q7 := eq_true q7
      have p9 : 0 ≤ (x3_2 : Int) := od_
      have q9 : x3_2 < (a0.size : Int) := od_
      have hx9 := bt_at a0 x3_2
      replace p9 := eq_true p9
      replace q9 := eq_true q9
      have p10 : 0 ≤ (x3_2 : Int) := od_
      have q10 : x3_2 < (a0.size : Int) := od_
      have hx10 := bt_at a0 x3_2
      replace p10 := eq_true p10
      replace q10 := eq_true q10
      go_wp2_with (first | ((with_reducible refine gate_callee (f := 93) rfl ?_); refine goesL_ (some 32) rfl rfl Tryz.func93 (by kernel_rfl) rfl #[.int .u8 (bt a0 x3_2)] rfl mp_ ?_; (with_reducible refine (r03_letter.calls (bt a0 x3_2) false _ A11.out).mono ?_); rintro e w' ⟨rfl, ⟨nd, rfl⟩⟩; refine ⟨_, rfl, ?_⟩; have p13 : 0 ≤ (x3_2 : Int) := od_; have q13 : x3_2 < (a0.size : Int) := od_; have hx13 := bt_at a0 x3_2; replace p13 := eq_true p13; replace q13 := eq_true q13))
      go_roundg k2
      case measure => have := HJ1.out; have := HK2.out; omega
      case rel => exact ⟨(wrap64 (x3_2 + 1)), (by rfl), H', ⟨by have := HJ1.out; have := HK2.out; omega⟩, by repeat (first | exact Drawn0.refl _ | apply Drawn0.step)⟩
     rw [if_neg c14] at H
     have c14b0 : ((bt a0 x3_2) == 58) = false := beq_eq_false_iff_ne.mpr c14
     have c14b1 : ((bt a0 x3_2) != 58) = true := bne_iff_ne.mpr c14
     by_cases c15 : ((bt a0 x3_2) ≤ 57)
     rotate_left
     ·rw [if_neg c15] at H
      have c15b0 := decide_eq_false c15
      clear c15
      obtain rfl := Option.some.inj H
      have p7 : 0 ≤ (x3_2 : Int) := od_
      have q7 : x3_2 < (a0.size : Int) := od_
      have hx7 := bt_at a0 x3_2
      replace p7 := eq_true p7
      replace q7 := eq_true q7
      have p9 : 0 ≤ (x3_2 : Int) := od_
      have q9 : x3_2 < (a0.size : Int) := od_
      have hx9 := bt_at a0 x3_2
      replace p9 := eq_true p9
      replace q9 := eq_true q9
      have p10 : 0 ≤ (x3_2 : Int) := od_
      have q10 : x3_2 < (a0.size : Int) := od_
      have hx10 := bt_at a0 x3_2
      replace p10 := eq_true p10
      replace q10 := eq_true q10
      go_wp2_with (first | ((with_reducible refine gate_callee (f := 93) rfl ?_); refine goesL_ (some 32) rfl rfl Tryz.func93 (by kernel_rfl) rfl #[.int .u8 (bt a0 x3_2)] rfl mp_ ?_; (with_reducible refine (r03_letter.calls (bt a0 x3_2) false _ A11.out).mono ?_); rintro e w' ⟨rfl, ⟨nd, rfl⟩⟩; refine ⟨_, rfl, ?_⟩; have p13 : 0 ≤ (x3_2 : Int) := od_; have q13 : x3_2 < (a0.size : Int) := od_; have hx13 := bt_at a0 x3_2; replace p13 := eq_true p13; replace q13 := eq_true q13))
      go_ret
      exact ⟨by rfl, by repeat (first | exact Drawn0.refl _ | apply Drawn0.step)⟩
     rw [if_pos c15] at H
     have c15b0 := decide_eq_true c15
     clear c15
     by_cases c16 : x3_2 = 0
     ·rw [if_pos c16] at H
      have c16b0 : (x3_2 == 0) = true := beq_iff_eq.mpr c16
      have c16b1 : (x3_2 != 0) = false := bne_eq_false_iff_eq.mpr c16
      clear c16
      obtain rfl := Option.some.inj H
      have p7 : 0 ≤ (x3_2 : Int) := od_
      have q7 : x3_2 < (a0.size : Int) := od_
      have hx7 := bt_at a0 x3_2
      replace p7 := eq_true p7
      replace q7 := eq_true q7
      have p9 : 0 ≤ (x3_2 : Int) := od_
      have q9 : x3_2 < (a0.size : Int) := od_
      have hx9 := bt_at a0 x3_2
      replace p9 := eq_true p9
      replace q9 := eq_true q9
      have p10 : 0 ≤ (x3_2 : Int) := od_
      have q10 : x3_2 < (a0.size : Int) := od_
      have hx10 := bt_at a0 x3_2
      replace p10 := eq_true p10
      replace q10 := eq_true q10
      go_wp2_with (first | ((with_reducible refine gate_callee (f := 93) rfl ?_); refine goesL_ (some 32) rfl rfl Tryz.func93 (by kernel_rfl) rfl #[.int .u8 (bt a0 x3_2)] rfl mp_ ?_; (with_reducible refine (r03_letter.calls (bt a0 x3_2) false _ A11.out).mono ?_); rintro e w' ⟨rfl, ⟨nd, rfl⟩⟩; refine ⟨_, rfl, ?_⟩; have p13 : 0 ≤ (x3_2 : Int) := od_; have q13 : x3_2 < (a0.size : Int) := od_; have hx13 := bt_at a0 x3_2; replace p13 := eq_true p13; replace q13 := eq_true q13))
      go_ret
      exact ⟨by rfl, by repeat (first | exact Drawn0.refl _ | apply Drawn0.step)⟩
     rw [if_neg c16] at H
     have c16b0 : (x3_2 == 0) = false := beq_eq_false_iff_ne.mpr c16
     have c16b1 : (x3_2 != 0) = true := bne_iff_ne.mpr c16
     have H' := A_ H
     clear H
     have p7 : 0 ≤ (x3_2 : Int) := od_
     have q7 : x3_2 < (a0.size : Int) := od_
     have hx7 := bt_at a0 x3_2
     replace p7 := eq_true p7
     replace q7 := eq_true q7
     have p9 : 0 ≤ (x3_2 : Int) := od_
     have q9 : x3_2 < (a0.size : Int) := od_
     have hx9 := bt_at a0 x3_2
     replace p9 := eq_true p9
     replace q9 := eq_true q9
     have p10 : 0 ≤ (x3_2 : Int) := od_
     have q10 : x3_2 < (a0.size : Int) := od_
     have hx10 := bt_at a0 x3_2
     replace p10 := eq_true p10
     replace q10 := eq_true q10
     go_wp2_with (first | ((with_reducible refine gate_callee (f := 93) rfl ?_); refine goesL_ (some 32) rfl rfl Tryz.func93 (by kernel_rfl) rfl #[.int .u8 (bt a0 x3_2)] rfl mp_ ?_; (with_reducible refine (r03_letter.calls (bt a0 x3_2) false _ A11.out).mono ?_); rintro e w' ⟨rfl, ⟨nd, rfl⟩⟩; refine ⟨_, rfl, ?_⟩; have p13 : 0 ≤ (x3_2 : Int) := od_; have q13 : x3_2 < (a0.size : Int) := od_; have hx13 := bt_at a0 x3_2; replace p13 := eq_true p13; replace q13 := eq_true q13))
     go_roundg k2
     case measure => have := HJ1.out; have := HK2.out; omega
     case rel => exact ⟨(wrap64 (x3_2 + 1)), (by rfl), H', ⟨by have := HJ1.out; have := HK2.out; omega⟩, by repeat (first | exact Drawn0.refl _ | apply Drawn0.step)⟩
def r03_IsWord.l0 : Nat → ByteArray → Int → Option (Bool)
 | 0, _, _ => none
 | k + 1, x0, x3 => if x3 < (x0.size : Int) then (if 0 ≤ x3 then (if (bt x0 x3) = 58 then (some false) else (r03_IsWord.l0 k x0 (wrap64 (x3 + 1)))) else (none)) else ((r03_IsMetric.f k x0).bind fun t235 => (some t235))
def r03_IsWord.f (k : Nat) (a0 : ByteArray) : Option (Bool) := r03_IsWord.l0 k a0 0
theorem r03_IsWord.mono_l : ∀ k, (∀ y0 y1, LeO (r03_IsWord.l0 k y0 y1) (r03_IsWord.l0 (k + 1) y0 y1))
 | 0 => fun _ _ r h => by simp [r03_IsWord.l0] at h
 | k + 1 => by
  have ih0 := r03_IsWord.mono_l k
  ·intro y0 y1
   unfold r03_IsWord.l0
   repeat' first
   | (with_reducible first | exact ih0 _ _ | exact r03_IsMetric.mono _ _ | exact LeO.refl _ | exact LeO.none _ | refine LeO.ite ?_ ?_ | refine LeO.bind ?_ (fun _ => ?_))
theorem r03_IsWord.mono : ∀ a0 k, LeO (r03_IsWord.f k a0) (r03_IsWord.f (k + 1) a0) := by
 intro a0 k
 have ih0 := r03_IsWord.mono_l k
 unfold r03_IsWord.f
 repeat' first
  | (with_reducible first | exact ih0 _ _ | exact r03_IsMetric.mono _ _ | exact LeO.refl _ | exact LeO.none _ | refine LeO.ite ?_ ?_ | refine LeO.bind ?_ (fun _ => ?_))
set_option maxHeartbeats 8000000 in
set_option maxRecDepth 100000 in
theorem r03_IsWord.calls (k : Nat) (a0 : ByteArray) (r : Bool) (w : World) (h : r03_IsWord.f k a0 = some r) :
 Calls Tryz.prog 78 #[.string a0] w fun e w' => e = .returned (.bool r) ∧ Drawn0 w w' := by
 have H : (r03_IsWord.l0 k a0 0) = some r := h
 clear h
 have H' := A_ H
 clear H
 go_enter Tryz.func78, Tryz.ntmps78
 go_wp2
 go_loopg [3] k (fun kq v3 w' => ∃ (x3_1 : Int), v3 = .int .i64 x3_1 ∧ Aside0 (r03_IsWord.l0 kq a0 x3_1 = some r) ∧ Aside0 (kq ≤ k) ∧ Drawn0 w w')
 case atStart => exact ⟨(0), (by rfl), H', ⟨Nat.le_refl _⟩, by repeat (exact Drawn0.refl _)⟩
 case round =>
  clear H'
  obtain ⟨x3_1, rfl, HA, HK1, ⟨m1, rfl⟩⟩ := hrel
  cases gk with
  | zero => exact absurd HA.out (by simp [r03_IsWord.l0])
  | succ k1 =>
   have H := HA.out
   clear HA
   simp only [r03_IsWord.l0] at H
   by_cases c2 : x3_1 < (a0.size : Int)
   rotate_left
   ·rw [if_neg c2] at H
    have c2b0 := decide_eq_false c2
    clear c2
    replace H := Option.bind_eq_some_iff.mp H
    obtain ⟨t235, A60, H⟩ := H
    replace H : (some t235) = some r := H
    have A6 := A_ A60
    clear A60
    obtain rfl := Option.some.inj H
    go_wp2_with (first | ((with_reducible refine gate_callee (f := 69) rfl ?_); refine goesL_ (some 15) rfl rfl Tryz.func69 (by kernel_rfl) rfl #[.string a0] rfl mp_ ?_; (with_reducible refine (r03_IsMetric.calls k1 a0 t235 _ A6.out).mono ?_); rintro e w' ⟨rfl, ⟨nd, rfl⟩⟩; refine ⟨_, rfl, ?_⟩))
    go_ret
    exact ⟨by rfl, by repeat (first | exact Drawn0.refl _ | apply Drawn0.step)⟩
   rw [if_pos c2] at H
   have c2b0 := decide_eq_true c2
   clear c2
   by_cases c3 : 0 ≤ x3_1
   rotate_left
   ·rw [if_neg c3] at H
    exact absurd H (by simp)
   rw [if_pos c3] at H
   have c3b0 := decide_eq_true c3
   clear c3
   by_cases c5 : (bt a0 x3_1) = 58
   ·rw [if_pos c5] at H
    have c5b0 : ((bt a0 x3_1) == 58) = true := beq_iff_eq.mpr c5
    have c5b1 : ((bt a0 x3_1) != 58) = false := bne_eq_false_iff_eq.mpr c5
    clear c5
    obtain rfl := Option.some.inj H
    have p4 : 0 ≤ (x3_1 : Int) := od_
    have q4 : x3_1 < (a0.size : Int) := od_
    have hx4 := bt_at a0 x3_1
    replace p4 := eq_true p4
    replace q4 := eq_true q4
    go_wp2
    go_ret
    exact ⟨by rfl, by repeat (first | exact Drawn0.refl _ | apply Drawn0.step)⟩
   rw [if_neg c5] at H
   have c5b0 : ((bt a0 x3_1) == 58) = false := beq_eq_false_iff_ne.mpr c5
   have c5b1 : ((bt a0 x3_1) != 58) = true := bne_iff_ne.mpr c5
   have H' := A_ H
   clear H
   have p4 : 0 ≤ (x3_1 : Int) := od_
   have q4 : x3_1 < (a0.size : Int) := od_
   have hx4 := bt_at a0 x3_1
   replace p4 := eq_true p4
   replace q4 := eq_true q4
   go_wp2
   go_roundg k1
   case measure => have := HK1.out; omega
   case rel => exact ⟨(wrap64 (x3_1 + 1)), (by rfl), H', ⟨by have := HK1.out; omega⟩, by repeat (first | exact Drawn0.refl _ | apply Drawn0.step)⟩
def r29_told.f (k : Nat) (a0 : ByteArray) : Option (Bool) := if a0.toList = ([95, 95, 110, 97, 109, 101, 95, 95] : List UInt8) then (some true) else ((r03_IsWord.f k a0).bind fun t236 => (some t236))
theorem r29_told.mono : ∀ a0 k, LeO (r29_told.f k a0) (r29_told.f (k + 1) a0) := by
 intro a0 k
 unfold r29_told.f
 repeat' first
  | (with_reducible first | exact r03_IsWord.mono _ _ | exact LeO.refl _ | exact LeO.none _ | refine LeO.ite ?_ ?_ | refine LeO.bind ?_ (fun _ => ?_))
set_option maxHeartbeats 8000000 in
set_option maxRecDepth 100000 in
theorem r29_told.calls (k : Nat) (a0 : ByteArray) (r : Bool) (w : World) (h : r29_told.f k a0 = some r) :
 Calls Tryz.prog 54 #[.string a0] w fun e w' => e = .returned (.bool r) ∧ Drawn0 w w' := by
 have H : (if a0.toList = ([95, 95, 110, 97, 109, 101, 95, 95] : List UInt8) then (some true) else ((r03_IsWord.f k a0).bind fun t236 => (some t236))) = some r := h
 clear h
 by_cases c2 : a0.toList = ([95, 95, 110, 97, 109, 101, 95, 95] : List UInt8)
 ·rw [if_pos c2] at H
  have c2b0 : (a0.toList == ([95, 95, 110, 97, 109, 101, 95, 95] : List UInt8)) = true := beq_iff_eq.mpr c2
  have c2b1 : (a0.toList != ([95, 95, 110, 97, 109, 101, 95, 95] : List UInt8)) = false := bne_eq_false_iff_eq.mpr c2
  clear c2
  obtain rfl := Option.some.inj H
  go_enter Tryz.func54, Tryz.ntmps54
  go_wp2
  go_ret
  exact ⟨by rfl, by repeat (exact Drawn0.refl _)⟩
 rw [if_neg c2] at H
 have c2b0 : (a0.toList == ([95, 95, 110, 97, 109, 101, 95, 95] : List UInt8)) = false := beq_eq_false_iff_ne.mpr c2
 have c2b1 : (a0.toList != ([95, 95, 110, 97, 109, 101, 95, 95] : List UInt8)) = true := bne_iff_ne.mpr c2
 replace H := Option.bind_eq_some_iff.mp H
 obtain ⟨t236, A30, H⟩ := H
 replace H : (some t236) = some r := H
 have A3 := A_ A30
 clear A30
 obtain rfl := Option.some.inj H
 go_enter Tryz.func54, Tryz.ntmps54
 go_wp2_with (first | (go_at_call 78; (with_reducible refine (r03_IsWord.calls k a0 t236 _ A3.out).mono ?_); rintro e w' ⟨rfl, ⟨nd, rfl⟩⟩))
 go_ret
 exact ⟨by rfl, by repeat (first | exact Drawn0.refl _ | apply Drawn0.step)⟩
end Go.Proofs.YtcikjeiebpmmcaaGreat.PMch
