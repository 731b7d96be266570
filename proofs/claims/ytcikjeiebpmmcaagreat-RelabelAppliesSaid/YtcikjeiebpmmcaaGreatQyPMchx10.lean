/- Pruned. -/
import Derived.Test.YtcikjeiebpmmcaaGreatQyPMchx0
namespace Go.Proofs.YtcikjeiebpmmcaaGreat.PMch
open Go.RowKit Go.Proofs.YtcikjeiebpmmcaaGreatW.PrintWords Go.Proofs.YtcikjeiebpmmcaaGreatW.PrintLast Go.Proofs.YtcikjeiebpmmcaaGreatW.PrintMore
attribute [local go_sem] max2_int max_two
set_option linter.unusedVariables false
set_option linter.unusedSimpArgs false
def r29_Much.l0 : Nat → List (S43) → Int → Int → Option (Bool)
 | 0, _, _, _ => none
 | k + 1, x0, x3, x4 => if x4 < (x0.length : Int) then (if x4 ≤ 12 then (if 0 ≤ x4 then (r29_Much.l0 k x0 (wrap64 ((wrap64 ((wrap64 ((wrap64 (x3 + (((rd_T43 x0 x4).f1).size : Int))) + (((rd_T43 x0 x4).f2).size : Int))) + (((rd_T43 x0 x4).f3).size : Int))) + (((rd_T43 x0 x4).f4).size : Int))) (wrap64 (x4 + 1))) else (none)) else (if (x0.length : Int) > 12 then (some true) else (some (decide (x3 > 2500))))) else (if (x0.length : Int) > 12 then (some true) else (some (decide (x3 > 2500))))
def r29_Much.f (k : Nat) (l0 : List (S43)) : Option (Bool) := r29_Much.l0 k l0 0 0
theorem r29_Much.mono_l : ∀ k, (∀ y0 y1 y2, LeO (r29_Much.l0 k y0 y1 y2) (r29_Much.l0 (k + 1) y0 y1 y2))
 | 0 => fun _ _ _ r h => by simp [r29_Much.l0] at h
 | k + 1 => by
  have ih0 := r29_Much.mono_l k
  ·intro y0 y1 y2
   unfold r29_Much.l0
   repeat' first
   | (with_reducible first | exact ih0 _ _ _ | exact LeO.refl _ | exact LeO.none _ | refine LeO.ite ?_ ?_ | refine LeO.bind ?_ (fun _ => ?_))
set_option maxHeartbeats 8000000 in
set_option maxRecDepth 100000 in
theorem r29_Much.calls (k : Nat) (A0 : Option Addr) (c0 : Nat) (l0 : List (S43)) (r : Bool) (w : World) (hr0 : Kd.C k43 w A0 l0.length l0) (hc0 : l0.length ≤ c0) (h : r29_Much.f k l0 = some r) :
 Calls Tryz.prog 16 #[.slice A0 l0.length c0] w fun e w' => e = .returned (.bool r) ∧ Drawn0 w w' := by
 have HR0 := A_ hr0
 have HC0 := A_ hc0
 clear hr0 hc0
 have H : (r29_Much.l0 k l0 0 0) = some r := h
 clear h
 have H' := A_ H
 clear H
 go_enter Tryz.func16, Tryz.ntmps16
 go_wp2
 repeat (go_quiet (fail); try go_wp2)
 go_loopg [3, 4] k (fun kq v3 v4 w' => ∃ (x3_1 : Int) (x4_1 : Int), v3 = .int .i64 x3_1 ∧ v4 = .int .i64 x4_1 ∧ Aside0 (r29_Much.l0 kq l0 x3_1 x4_1 = some r) ∧ Aside0 (kq ≤ k) ∧ Drawn0 w w')
 case atStart => exact ⟨(0), (0), (by rfl), (by rfl), H', ⟨Nat.le_refl _⟩, by repeat (exact Drawn0.refl _)⟩
 case round =>
  clear H'
  try clear c1
  obtain ⟨x3_1, x4_1, rfl, rfl, HA, HK1, ⟨m1, rfl⟩⟩ := hrel
  cases gk with
  | zero => exact absurd HA.out (by simp [r29_Much.l0])
  | succ k1 =>
   have H := HA.out
   clear HA
   simp only [r29_Much.l0] at H
   by_cases c2 : x4_1 < (l0.length : Int)
   rotate_left
   ·rw [if_neg c2] at H
    have c2b0 := decide_eq_false c2
    clear c2
    by_cases c6 : (l0.length : Int) > 12
    rotate_left
    ·rw [if_neg c6] at H
     have c6b0 := decide_eq_false c6
     have c6b1 : decide (12 < l0.length) = false := decide_eq_false (by omega)
     clear c6
     obtain rfl := Option.some.inj H
     go_wp2
     repeat (go_quiet (fail); try go_wp2)
     go_ret
     exact ⟨by rfl, by repeat (first | exact Drawn0.refl _ | apply Drawn0.step)⟩
    rw [if_pos c6] at H
    have c6b0 := decide_eq_true c6
    have c6b1 : decide (12 < l0.length) = true := decide_eq_true (by omega)
    clear c6
    obtain rfl := Option.some.inj H
    go_wp2
    repeat (go_quiet (fail); try go_wp2)
    go_ret
    exact ⟨by rfl, by repeat (first | exact Drawn0.refl _ | apply Drawn0.step)⟩
   rw [if_pos c2] at H
   have c2b0 := decide_eq_true c2
   clear c2
   by_cases c3 : x4_1 ≤ 12
   rotate_left
   ·rw [if_neg c3] at H
    have c3b0 := decide_eq_false c3
    clear c3
    by_cases c5 : (l0.length : Int) > 12
    rotate_left
    ·rw [if_neg c5] at H
     have c5b0 := decide_eq_false c5
     have c5b1 : decide (12 < l0.length) = false := decide_eq_false (by omega)
     clear c5
     obtain rfl := Option.some.inj H
     go_wp2
     repeat (go_quiet (fail); try go_wp2)
     go_ret
     exact ⟨by rfl, by repeat (first | exact Drawn0.refl _ | apply Drawn0.step)⟩
    rw [if_pos c5] at H
    have c5b0 := decide_eq_true c5
    have c5b1 : decide (12 < l0.length) = true := decide_eq_true (by omega)
    clear c5
    obtain rfl := Option.some.inj H
    go_wp2
    repeat (go_quiet (fail); try go_wp2)
    go_ret
    exact ⟨by rfl, by repeat (first | exact Drawn0.refl _ | apply Drawn0.step)⟩
   rw [if_pos c3] at H
   have c3b0 := decide_eq_true c3
   clear c3
   by_cases c4 : 0 ≤ x4_1
   rotate_left
   ·rw [if_neg c4] at H
    exact absurd H (by simp)
   rw [if_pos c4] at H
   have c4b0 := decide_eq_true c4
   clear c4
   have H' := A_ H
   clear H
   have p227 : 0 ≤ (x4_1 : Int) := od_
   have q227 : x4_1 < (l0.length : Int) := od_
   obtain ⟨ad227, e227, hx227_0, hx227_1, hx227_2, hx227_3, hx227_4⟩ := at_T43 HR0.out x4_1 p227 q227
   cases e227
   replace p227 := eq_true p227
   replace q227 := eq_true q227
   have p228 : 0 ≤ (x4_1 : Int) := od_
   have q228 : x4_1 < (l0.length : Int) := od_
   obtain ⟨ad228, e228, hx228_0, hx228_1, hx228_2, hx228_3, hx228_4⟩ := at_T43 HR0.out x4_1 p228 q228
   obtain rfl : ad227 = ad228 := (by injection e228)
   replace p228 := eq_true p228
   replace q228 := eq_true q228
   have p229 : 0 ≤ (x4_1 : Int) := od_
   have q229 : x4_1 < (l0.length : Int) := od_
   obtain ⟨ad229, e229, hx229_0, hx229_1, hx229_2, hx229_3, hx229_4⟩ := at_T43 HR0.out x4_1 p229 q229
   obtain rfl : ad227 = ad229 := (by injection e229)
   replace p229 := eq_true p229
   replace q229 := eq_true q229
   have p230 : 0 ≤ (x4_1 : Int) := od_
   have q230 : x4_1 < (l0.length : Int) := od_
   obtain ⟨ad230, e230, hx230_0, hx230_1, hx230_2, hx230_3, hx230_4⟩ := at_T43 HR0.out x4_1 p230 q230
   obtain rfl : ad227 = ad230 := (by injection e230)
   replace p230 := eq_true p230
   replace q230 := eq_true q230
   go_wp2
   repeat (go_quiet (fail); try go_wp2)
   go_roundg k1
   case measure => have := HK1.out; omega
   case rel => exact ⟨(wrap64 ((wrap64 ((wrap64 ((wrap64 (x3_1 + (((rd_T43 l0 x4_1).f1).size : Int))) + (((rd_T43 l0 x4_1).f2).size : Int))) + (((rd_T43 l0 x4_1).f3).size : Int))) + (((rd_T43 l0 x4_1).f4).size : Int))), (wrap64 (x4_1 + 1)), (by rfl), (by rfl), H', ⟨by have := HK1.out; omega⟩, by repeat (first | exact Drawn0.refl _ | apply Drawn0.step)⟩
def r29_Fill.l0 : Nat → ByteArray → List ByteArray → ByteArray → Int → Option (ByteArray × Bool)
 | 0, _, _, _, _ => none
 | k + 1, x0, x1, x6, x7 => if x7 < (x0.size : Int) then (if 0 ≤ x7 then (if (bt x0 x7) = 36 then (if (wrap64 (x7 + 1)) = (x0.size : Int) then (some ((⟨#[]⟩ : ByteArray), false)) else (if 0 ≤ (wrap64 (x7 + 1)) then (if (wrap64 (x7 + 1)) < (x0.size : Int) then (if (bt x0 (wrap64 (x7 + 1))) = 36 then (if x6.size + 1 ≤ 9223372036854775807 then (r29_Fill.l0 k x0 x1 (x6 ++ (⟨#[36]⟩ : ByteArray)) (wrap64 ((wrap64 (x7 + 1)) + 1))) else (none)) else (if (wrap64 ((wrap64 (bt x0 (wrap64 (x7 + 1)))) - 48)) < 1 then (some ((⟨#[]⟩ : ByteArray), false)) else (if (wrap64 ((wrap64 (bt x0 (wrap64 (x7 + 1)))) - 48)) > 9 then (some ((⟨#[]⟩ : ByteArray), false)) else (if (wrap64 ((wrap64 (bt x0 (wrap64 (x7 + 1)))) - 48)) > (x1.length : Int) then (some ((⟨#[]⟩ : ByteArray), false)) else (if 0 ≤ (wrap64 ((wrap64 ((wrap64 (bt x0 (wrap64 (x7 + 1)))) - 48)) - 1)) then (if (wrap64 ((wrap64 ((wrap64 (bt x0 (wrap64 (x7 + 1)))) - 48)) - 1)) < (x1.length : Int) then (if x6.size + (rdOf ByteArray.empty x1 (wrap64 ((wrap64 ((wrap64 (bt x0 (wrap64 (x7 + 1)))) - 48)) - 1))).size ≤ 9223372036854775807 then (r29_Fill.l0 k x0 x1 (x6 ++ (rdOf ByteArray.empty x1 (wrap64 ((wrap64 ((wrap64 (bt x0 (wrap64 (x7 + 1)))) - 48)) - 1)))) (wrap64 ((wrap64 (x7 + 1)) + 1))) else (none)) else (none)) else (none)))))) else (none)) else (none))) else (if x7 ≤ (wrap64 (x7 + 1)) then (if (wrap64 (x7 + 1)) ≤ (x0.size : Int) then (if x6.size + (x0.extract (x7 : Int).toNat ((wrap64 (x7 + 1)) : Int).toNat).size ≤ 9223372036854775807 then (r29_Fill.l0 k x0 x1 (x6 ++ (x0.extract (x7 : Int).toNat ((wrap64 (x7 + 1)) : Int).toNat)) (wrap64 (x7 + 1))) else (none)) else (none)) else (none))) else (none)) else (some (x6, decide ((x0.size : Int) ≤ 1024)))
def r29_Fill.f (k : Nat) (a0 : ByteArray) (l1 : List ByteArray) : Option (ByteArray × Bool) := r29_Fill.l0 k a0 l1 (⟨#[]⟩ : ByteArray) 0
theorem r29_Fill.mono_l : ∀ k, (∀ y0 y1 y2 y3, LeO (r29_Fill.l0 k y0 y1 y2 y3) (r29_Fill.l0 (k + 1) y0 y1 y2 y3))
 | 0 => fun _ _ _ _ r h => by simp [r29_Fill.l0] at h
 | k + 1 => by
  have ih0 := r29_Fill.mono_l k
  ·intro y0 y1 y2 y3
   unfold r29_Fill.l0
   repeat' first
   | (with_reducible first | exact ih0 _ _ _ _ | exact LeO.refl _ | exact LeO.none _ | refine LeO.ite ?_ ?_ | refine LeO.bind ?_ (fun _ => ?_))
theorem r29_Fill.mono : ∀ a0 a1 k, LeO (r29_Fill.f k a0 a1) (r29_Fill.f (k + 1) a0 a1) := by
 intro a0 a1 k
 have ih0 := r29_Fill.mono_l k
 unfold r29_Fill.f
 repeat' first
  | (with_reducible first | exact ih0 _ _ _ _ | exact LeO.refl _ | exact LeO.none _ | refine LeO.ite ?_ ?_ | refine LeO.bind ?_ (fun _ => ?_))
set_option maxHeartbeats 8000000 in
set_option maxRecDepth 100000 in
theorem r29_Fill.calls (k : Nat) (a0 : ByteArray) (A1 : Option Addr) (c1 : Nat) (l1 : List ByteArray) (r1 : ByteArray) (r2 : Bool) (w : World) (hr1 : Kd.C Kd.string w A1 l1.length l1) (hc1 : l1.length ≤ c1) (h : r29_Fill.f k a0 l1 = some (r1, r2)) :
 Calls Tryz.prog 15 #[.string a0, .slice A1 l1.length c1] w fun e w' => e = .returned (.tuple #[.string r1, .bool r2]) ∧ Drawn0 w w' := by
 have HR1 := A_ hr1
 have HC1 := A_ hc1
 clear hr1 hc1
 have H : (r29_Fill.l0 k a0 l1 (⟨#[]⟩ : ByteArray) 0) = some (r1, r2) := h
 clear h
 have H' := A_ H
 clear H
 go_enter Tryz.func15, Tryz.ntmps15
 go_wp2
 go_loopg [6, 7] k (fun kq v6 v7 w' => ∃ (x6_1 : ByteArray) (x7_1 : Int), v6 = .string x6_1 ∧ v7 = .int .i64 x7_1 ∧ Aside0 (r29_Fill.l0 kq a0 l1 x6_1 x7_1 = some (r1, r2)) ∧ Aside0 (kq ≤ k) ∧ Drawn0 w w')
 case atStart => exact ⟨((⟨#[]⟩ : ByteArray)), (0), (by rfl), (by rfl), H', ⟨Nat.le_refl _⟩, by repeat (exact Drawn0.refl _)⟩
 case round =>
  clear H'
  try clear c1
  try clear p2
  obtain ⟨x6_1, x7_1, rfl, rfl, HA, HK1, ⟨m1, rfl⟩⟩ := hrel
  cases gk with
  | zero => exact absurd HA.out (by simp [r29_Fill.l0])
  | succ k1 =>
   have H := HA.out
   clear HA
   simp only [r29_Fill.l0] at H
   by_cases c3 : x7_1 < (a0.size : Int)
   rotate_left
   ·rw [if_neg c3] at H
    have c3b0 := decide_eq_false c3
    clear c3
    simp only [Option.some.injEq, Prod.mk.injEq] at H
    obtain ⟨rfl, rfl⟩ := H
    go_wp2
    go_ret2
    exact ⟨by rfl, by repeat (first | exact Drawn0.refl _ | apply Drawn0.step)⟩
   rw [if_pos c3] at H
   have c3b0 := decide_eq_true c3
   clear c3
   by_cases c4 : 0 ≤ x7_1
   rotate_left
   ·rw [if_neg c4] at H
    exact absurd H (by simp)
   rw [if_pos c4] at H
   have c4b0 := decide_eq_true c4
   clear c4
   by_cases c6 : (bt a0 x7_1) = 36
   rotate_left
   ·rw [if_neg c6] at H
    have c6b0 : ((bt a0 x7_1) == 36) = false := beq_eq_false_iff_ne.mpr c6
    have c6b1 : ((bt a0 x7_1) != 36) = true := bne_iff_ne.mpr c6
    have c22b0 := eq_true (od_ : 0 ≤ x7_1)
    by_cases c23 : x7_1 ≤ (wrap64 (x7_1 + 1))
    rotate_left
    ·rw [if_neg c23] at H
     exact absurd H (by simp)
    rw [if_pos c23] at H
    have c23b0 := eq_true c23
    have c23b1 := decide_eq_true c23
    by_cases c24 : (wrap64 (x7_1 + 1)) ≤ (a0.size : Int)
    rotate_left
    ·rw [if_neg c24] at H
     exact absurd H (by simp)
    rw [if_pos c24] at H
    have c24b0 := eq_true c24
    have c24b1 := decide_eq_true c24
    by_cases c25 : x6_1.size + (a0.extract (x7_1 : Int).toNat ((wrap64 (x7_1 + 1)) : Int).toNat).size ≤ 9223372036854775807
    rotate_left
    ·rw [if_neg c25] at H
     exact absurd H (by simp)
    rw [if_pos c25] at H
    have c25b0 := eq_true c25
    have c25b1 := decide_eq_true c25
    try have c25b2 : (9223372036854775807 < x6_1.size + (a0.extract (x7_1 : Int).toNat ((wrap64 (x7_1 + 1)) : Int).toNat).size) = False := eq_false (Nat.not_lt.2 c25)
    have H' := A_ H
    clear H
    have p5 : 0 ≤ (x7_1 : Int) := od_
    have q5 : x7_1 < (a0.size : Int) := od_
    have hx5 := bt_at a0 x7_1
    replace p5 := eq_true p5
    replace q5 := eq_true q5
    go_wp2
    go_roundg k1
    case measure => have := HK1.out; omega
    case rel => exact ⟨(x6_1 ++ (a0.extract (x7_1 : Int).toNat ((wrap64 (x7_1 + 1)) : Int).toNat)), (wrap64 (x7_1 + 1)), (by rfl), (by rfl), H', ⟨by have := HK1.out; omega⟩, by repeat (first | exact Drawn0.refl _ | apply Drawn0.step)⟩
   rw [if_pos c6] at H
   have c6b0 : ((bt a0 x7_1) == 36) = true := beq_iff_eq.mpr c6
   have c6b1 : ((bt a0 x7_1) != 36) = false := bne_eq_false_iff_eq.mpr c6
   clear c6
   by_cases c7 : (wrap64 (x7_1 + 1)) = (a0.size : Int)
   ·rw [if_pos c7] at H
    have c7b0 : ((wrap64 (x7_1 + 1)) == (a0.size : Int)) = true := beq_iff_eq.mpr c7
    have c7b1 : ((wrap64 (x7_1 + 1)) != (a0.size : Int)) = false := bne_eq_false_iff_eq.mpr c7
    clear c7
    simp only [Option.some.injEq, Prod.mk.injEq] at H
    obtain ⟨rfl, rfl⟩ := H
    have p5 : 0 ≤ (x7_1 : Int) := od_
    have q5 : x7_1 < (a0.size : Int) := od_
    have hx5 := bt_at a0 x7_1
    replace p5 := eq_true p5
    replace q5 := eq_true q5
    go_wp2
    go_ret2
    exact ⟨by rfl, by repeat (first | exact Drawn0.refl _ | apply Drawn0.step)⟩
   rw [if_neg c7] at H
   have c7b0 : ((wrap64 (x7_1 + 1)) == (a0.size : Int)) = false := beq_eq_false_iff_ne.mpr c7
   have c7b1 : ((wrap64 (x7_1 + 1)) != (a0.size : Int)) = true := bne_iff_ne.mpr c7
   obtain ⟨ji8, hji8⟩ : ∃ j_ : Int, (wrap64 (x7_1 + 1)) = j_ := ⟨_, rfl⟩
   replace H : (if 0 ≤ (ji8) then (if (ji8) < (a0.size : Int) then (if (bt a0 (ji8)) = 36 then (if x6_1.size + 1 ≤ 9223372036854775807 then (r29_Fill.l0 k1 a0 l1 (x6_1 ++ (⟨#[36]⟩ : ByteArray)) (wrap64 ((ji8) + 1))) else (none)) else (if (wrap64 ((wrap64 (bt a0 (ji8))) - 48)) < 1 then (some ((⟨#[]⟩ : ByteArray), false)) else (if (wrap64 ((wrap64 (bt a0 (ji8))) - 48)) > 9 then (some ((⟨#[]⟩ : ByteArray), false)) else (if (wrap64 ((wrap64 (bt a0 (ji8))) - 48)) > (l1.length : Int) then (some ((⟨#[]⟩ : ByteArray), false)) else (if 0 ≤ (wrap64 ((wrap64 ((wrap64 (bt a0 (ji8))) - 48)) - 1)) then (if (wrap64 ((wrap64 ((wrap64 (bt a0 (ji8))) - 48)) - 1)) < (l1.length : Int) then (if x6_1.size + (rdOf ByteArray.empty l1 (wrap64 ((wrap64 ((wrap64 (bt a0 (ji8))) - 48)) - 1))).size ≤ 9223372036854775807 then (r29_Fill.l0 k1 a0 l1 (x6_1 ++ (rdOf ByteArray.empty l1 (wrap64 ((wrap64 ((wrap64 (bt a0 (ji8))) - 48)) - 1)))) (wrap64 ((ji8) + 1))) else (none)) else (none)) else (none)))))) else (none)) else (none)) = some (r1, r2) := by (rw [hji8] at H; exact H)
   (try rw [hji8] at c7b0)
   (try rw [hji8] at c7b1)
   have hji8w : (IntKind.i64.wrap (x7_1 + 1)) = ji8 := (i64_w _).trans hji8
   by_cases c9 : 0 ≤ (ji8)
   rotate_left
   ·rw [if_neg c9] at H
    exact absurd H (by simp)
   rw [if_pos c9] at H
   have c9b0 := decide_eq_true c9
   clear c9
   by_cases c10 : (ji8) < (a0.size : Int)
   rotate_left
   ·rw [if_neg c10] at H
    exact absurd H (by simp)
   rw [if_pos c10] at H
   have c10b0 := decide_eq_true c10
   clear c10
   by_cases c12 : (bt a0 (ji8)) = 36
   ·rw [if_pos c12] at H
    have c12b0 : ((bt a0 (ji8)) == 36) = true := beq_iff_eq.mpr c12
    have c12b1 : ((bt a0 (ji8)) != 36) = false := bne_eq_false_iff_eq.mpr c12
    clear c12
    by_cases c13 : x6_1.size + 1 ≤ 9223372036854775807
    rotate_left
    ·rw [if_neg c13] at H
     exact absurd H (by simp)
    rw [if_pos c13] at H
    have c13b0 := eq_true c13
    have c13b1 := decide_eq_true c13
    try have c13b2 : (9223372036854775807 < x6_1.size + 1) = False := eq_false (Nat.not_lt.2 c13)
    have H' := A_ H
    clear H
    have p5 : 0 ≤ (x7_1 : Int) := od_
    have q5 : x7_1 < (a0.size : Int) := od_
    have hx5 := bt_at a0 x7_1
    replace p5 := eq_true p5
    replace q5 := eq_true q5
    have p11 : 0 ≤ ((ji8) : Int) := od_
    have q11 : (ji8) < (a0.size : Int) := od_
    have hx11 := bt_at a0 (ji8)
    replace p11 := eq_true p11
    replace q11 := eq_true q11
    go_wp2
    go_roundg k1
    case measure => have := HK1.out; omega
    case rel => exact ⟨(x6_1 ++ (⟨#[36]⟩ : ByteArray)), (wrap64 ((ji8) + 1)), (by rfl), (by rfl), (by exact H'), ⟨by have := HK1.out; omega⟩, by repeat (first | exact Drawn0.refl _ | apply Drawn0.step)⟩
   rw [if_neg c12] at H
   have c12b0 : ((bt a0 (ji8)) == 36) = false := beq_eq_false_iff_ne.mpr c12
   have c12b1 : ((bt a0 (ji8)) != 36) = true := bne_iff_ne.mpr c12
   by_cases c15 : (wrap64 ((wrap64 (bt a0 (ji8))) - 48)) < 1
   ·rw [if_pos c15] at H
    have c15b0 := decide_eq_true c15
    clear c15
    simp only [Option.some.injEq, Prod.mk.injEq] at H
    obtain ⟨rfl, rfl⟩ := H
    have p5 : 0 ≤ (x7_1 : Int) := od_
    have q5 : x7_1 < (a0.size : Int) := od_
    have hx5 := bt_at a0 x7_1
    replace p5 := eq_true p5
    replace q5 := eq_true q5
    have p11 : 0 ≤ ((ji8) : Int) := od_
    have q11 : (ji8) < (a0.size : Int) := od_
    have hx11 := bt_at a0 (ji8)
    replace p11 := eq_true p11
    replace q11 := eq_true q11
    have p14 : 0 ≤ ((ji8) : Int) := od_
    have q14 : (ji8) < (a0.size : Int) := od_
    have hx14 := bt_at a0 (ji8)
    replace p14 := eq_true p14
    replace q14 := eq_true q14
    go_wp2
    go_ret2
    exact ⟨by rfl, by repeat (first | exact Drawn0.refl _ | apply Drawn0.step)⟩
   rw [if_neg c15] at H
   have c15b0 := decide_eq_false c15
   clear c15
   by_cases c16 : (wrap64 ((wrap64 (bt a0 (ji8))) - 48)) > 9
   ·rw [if_pos c16] at H
    have c16b0 := decide_eq_true c16
    clear c16
    simp only [Option.some.injEq, Prod.mk.injEq] at H
    obtain ⟨rfl, rfl⟩ := H
    have p5 : 0 ≤ (x7_1 : Int) := od_
    have q5 : x7_1 < (a0.size : Int) := od_
    have hx5 := bt_at a0 x7_1
    replace p5 := eq_true p5
    replace q5 := eq_true q5
    have p11 : 0 ≤ ((ji8) : Int) := od_
    have q11 : (ji8) < (a0.size : Int) := od_
    have hx11 := bt_at a0 (ji8)
    replace p11 := eq_true p11
    replace q11 := eq_true q11
    have p14 : 0 ≤ ((ji8) : Int) := od_
    have q14 : (ji8) < (a0.size : Int) := od_
    have hx14 := bt_at a0 (ji8)
    replace p14 := eq_true p14
    replace q14 := eq_true q14
    go_wp2
    go_ret2
    exact ⟨by rfl, by repeat (first | exact Drawn0.refl _ | apply Drawn0.step)⟩
   rw [if_neg c16] at H
   have c16b0 := decide_eq_false c16
   clear c16
   by_cases c17 : (wrap64 ((wrap64 (bt a0 (ji8))) - 48)) > (l1.length : Int)
   ·rw [if_pos c17] at H
    have c17b0 := decide_eq_true c17
    clear c17
    simp only [Option.some.injEq, Prod.mk.injEq] at H
    obtain ⟨rfl, rfl⟩ := H
    have p5 : 0 ≤ (x7_1 : Int) := od_
    have q5 : x7_1 < (a0.size : Int) := od_
    have hx5 := bt_at a0 x7_1
    replace p5 := eq_true p5
    replace q5 := eq_true q5
    have p11 : 0 ≤ ((ji8) : Int) := od_
    have q11 : (ji8) < (a0.size : Int) := od_
    have hx11 := bt_at a0 (ji8)
    replace p11 := eq_true p11
    replace q11 := eq_true q11
    have p14 : 0 ≤ ((ji8) : Int) := od_
    have q14 : (ji8) < (a0.size : Int) := od_
    have hx14 := bt_at a0 (ji8)
    replace p14 := eq_true p14
    replace q14 := eq_true q14
    go_wp2
    go_ret2
    exact ⟨by rfl, by repeat (first | exact Drawn0.refl _ | apply Drawn0.step)⟩
   rw [if_neg c17] at H
   have c17b0 := decide_eq_false c17
   clear c17
   obtain ⟨ji18, hji18⟩ : ∃ j_ : Int, (wrap64 ((wrap64 ((wrap64 (bt a0 (ji8))) - 48)) - 1)) = j_ := ⟨_, rfl⟩
   replace H : (if 0 ≤ (ji18) then (if (ji18) < (l1.length : Int) then (if x6_1.size + (rdOf ByteArray.empty l1 (ji18)).size ≤ 9223372036854775807 then (r29_Fill.l0 k1 a0 l1 (x6_1 ++ (rdOf ByteArray.empty l1 (ji18))) (wrap64 ((ji8) + 1))) else (none)) else (none)) else (none)) = some (r1, r2) := by (rw [hji18] at H; exact H)
   have hji18w : (IntKind.i64.wrap ((wrap64 ((wrap64 (bt a0 (ji8))) - 48)) - 1)) = ji18 := (i64_w _).trans hji18
   by_cases c19 : 0 ≤ (ji18)
   rotate_left
   ·rw [if_neg c19] at H
    exact absurd H (by simp)
   rw [if_pos c19] at H
   have c19b0 := decide_eq_true c19
   clear c19
   by_cases c20 : (ji18) < (l1.length : Int)
   rotate_left
   ·rw [if_neg c20] at H
    exact absurd H (by simp)
   rw [if_pos c20] at H
   have c20b0 := decide_eq_true c20
   clear c20
   by_cases c21 : x6_1.size + (rdOf ByteArray.empty l1 (ji18)).size ≤ 9223372036854775807
   rotate_left
   ·rw [if_neg c21] at H
    exact absurd H (by simp)
   rw [if_pos c21] at H
   have c21b0 := eq_true c21
   have c21b1 := decide_eq_true c21
   try have c21b2 : (9223372036854775807 < x6_1.size + (rdOf ByteArray.empty l1 (ji18)).size) = False := eq_false (Nat.not_lt.2 c21)
   have H' := A_ H
   clear H
   have p5 : 0 ≤ (x7_1 : Int) := od_
   have q5 : x7_1 < (a0.size : Int) := od_
   have hx5 := bt_at a0 x7_1
   replace p5 := eq_true p5
   replace q5 := eq_true q5
   have p11 : 0 ≤ ((ji8) : Int) := od_
   have q11 : (ji8) < (a0.size : Int) := od_
   have hx11 := bt_at a0 (ji8)
   replace p11 := eq_true p11
   replace q11 := eq_true q11
   have p14 : 0 ≤ ((ji8) : Int) := od_
   have q14 : (ji8) < (a0.size : Int) := od_
   have hx14 := bt_at a0 (ji8)
   replace p14 := eq_true p14
   replace q14 := eq_true q14
   have p231 : 0 ≤ ((ji18) : Int) := od_
   have q231 : (ji18) < (l1.length : Int) := od_
   obtain ⟨ad231, e231, hx231_0⟩ := Kd.at_string HR1.out (ji18) p231 q231
   cases e231
   replace p231 := eq_true p231
   replace q231 := eq_true q231
   go_wp2
   go_roundg k1
   case measure => have := HK1.out; omega
   case rel => exact ⟨(x6_1 ++ (rdOf ByteArray.empty l1 (ji18))), (wrap64 ((ji8) + 1)), (by rfl), (by rfl), (by exact H'), ⟨by have := HK1.out; omega⟩, by repeat (first | exact Drawn0.refl _ | apply Drawn0.step)⟩
def r29_Stars.l0 : Nat → List (S70) → Int → Int → Option (Int)
 | 0, _, _, _ => none
 | k + 1, x0, x3, x4 => if x4 < (x0.length : Int) then (if 0 ≤ x4 then (if (rd_T70 x0 x4).f0 = true then (r29_Stars.l0 k x0 (wrap64 (x3 + 1)) (wrap64 (x4 + 1))) else (r29_Stars.l0 k x0 x3 (wrap64 (x4 + 1)))) else (none)) else (some x3)
def r29_Stars.f (k : Nat) (l0 : List (S70)) : Option (Int) := r29_Stars.l0 k l0 0 0
theorem r29_Stars.mono_l : ∀ k, (∀ y0 y1 y2, LeO (r29_Stars.l0 k y0 y1 y2) (r29_Stars.l0 (k + 1) y0 y1 y2))
 | 0 => fun _ _ _ r h => by simp [r29_Stars.l0] at h
 | k + 1 => by
  have ih0 := r29_Stars.mono_l k
  ·intro y0 y1 y2
   unfold r29_Stars.l0
   repeat' first
   | (with_reducible first | exact ih0 _ _ _ | exact LeO.refl _ | exact LeO.none _ | refine LeO.ite ?_ ?_ | refine LeO.bind ?_ (fun _ => ?_))
theorem r29_Stars.mono : ∀ a0 k, LeO (r29_Stars.f k a0) (r29_Stars.f (k + 1) a0) := by
 intro a0 k
 have ih0 := r29_Stars.mono_l k
 unfold r29_Stars.f
 repeat' first
  | (with_reducible first | exact ih0 _ _ _ | exact LeO.refl _ | exact LeO.none _ | refine LeO.ite ?_ ?_ | refine LeO.bind ?_ (fun _ => ?_))
set_option maxHeartbeats 8000000 in
set_option maxRecDepth 100000 in
theorem r29_Stars.calls (k : Nat) (A0 : Option Addr) (c0 : Nat) (l0 : List (S70)) (r : Int) (w : World) (hr0 : Kd.C k70 w A0 l0.length l0) (hc0 : l0.length ≤ c0) (h : r29_Stars.f k l0 = some r) :
 Calls Tryz.prog 53 #[.slice A0 l0.length c0] w fun e w' => e = .returned (.int .i64 r) ∧ Drawn0 w w' := by
 have HR0 := A_ hr0
 have HC0 := A_ hc0
 clear hr0 hc0
 have H : (r29_Stars.l0 k l0 0 0) = some r := h
 clear h
 have H' := A_ H
 clear H
 go_enter Tryz.func53, Tryz.ntmps53
 go_wp2
 go_loopg [3, 4] k (fun kq v3 v4 w' => ∃ (x3_1 : Int) (x4_1 : Int), v3 = .int .i64 x3_1 ∧ v4 = .int .i64 x4_1 ∧ Aside0 (r29_Stars.l0 kq l0 x3_1 x4_1 = some r) ∧ Aside0 (kq ≤ k) ∧ Drawn0 w w')
 case atStart => exact ⟨(0), (0), (by rfl), (by rfl), H', ⟨Nat.le_refl _⟩, by repeat (exact Drawn0.refl _)⟩
 case round =>
  clear H'
  obtain ⟨x3_1, x4_1, rfl, rfl, HA, HK1, ⟨m1, rfl⟩⟩ := hrel
  cases gk with
  | zero => exact absurd HA.out (by simp [r29_Stars.l0])
  | succ k1 =>
   have H := HA.out
   clear HA
   simp only [r29_Stars.l0] at H
   by_cases c2 : x4_1 < (l0.length : Int)
   rotate_left
   ·rw [if_neg c2] at H
    have c2b0 := decide_eq_false c2
    clear c2
    obtain rfl := Option.some.inj H
    go_wp2
    go_ret
    exact ⟨by rfl, by repeat (first | exact Drawn0.refl _ | apply Drawn0.step)⟩
   rw [if_pos c2] at H
   have c2b0 := decide_eq_true c2
   clear c2
   by_cases c3 : 0 ≤ x4_1
   rotate_left
   ·rw [if_neg c3] at H
    exact absurd H (by simp)
   rw [if_pos c3] at H
   have c3b0 := decide_eq_true c3
   clear c3
   obtain ⟨bq4, hbq4⟩ : ∃ b_ : Bool, b_ = ((rd_T70 l0 x4_1).f0) := ⟨_, rfl⟩
   replace H : (if bq4 = true then (r29_Stars.l0 k1 l0 (wrap64 (x3_1 + 1)) (wrap64 (x4_1 + 1))) else (r29_Stars.l0 k1 l0 x3_1 (wrap64 (x4_1 + 1)))) = some r := by rw [← hbq4] at H; exact H
   have Nbq4 := A_ hbq4
   clear hbq4
   by_cases c5 : bq4 = true
   ·subst c5
    have H1 : (r29_Stars.l0 k1 l0 (wrap64 (x3_1 + 1)) (wrap64 (x4_1 + 1))) = some r := by rw [if_pos rfl] at H; exact H
    clear H
    have H := H1
    clear H1
    have H' := A_ H
    clear H
    have p232 : 0 ≤ (x4_1 : Int) := od_
    have q232 : x4_1 < (l0.length : Int) := od_
    obtain ⟨ad232, e232, hx232_0, hx232_1, hx232_2⟩ := at_T70 HR0.out x4_1 p232 q232
    (try rw [← Nbq4.out] at hx232_0)
    (try rw [← Nbq4.out] at hx232_1)
    cases e232
    replace p232 := eq_true p232
    replace q232 := eq_true q232
    go_wp2
    go_roundg k1
    case measure => have := HK1.out; omega
    case rel => exact ⟨(wrap64 (x3_1 + 1)), (wrap64 (x4_1 + 1)), (by rfl), (by rfl), H', ⟨by have := HK1.out; omega⟩, by repeat (first | exact Drawn0.refl _ | apply Drawn0.step)⟩
   replace c5 := Bool.eq_false_iff.mpr c5
   subst c5
   have H1 : (r29_Stars.l0 k1 l0 x3_1 (wrap64 (x4_1 + 1))) = some r := by rw [if_neg (show ¬ (false = true) by decide)] at H; exact H
   clear H
   have H := H1
   clear H1
   have H' := A_ H
   clear H
   have p232 : 0 ≤ (x4_1 : Int) := od_
   have q232 : x4_1 < (l0.length : Int) := od_
   obtain ⟨ad232, e232, hx232_0, hx232_1, hx232_2⟩ := at_T70 HR0.out x4_1 p232 q232
   (try rw [← Nbq4.out] at hx232_0)
   (try rw [← Nbq4.out] at hx232_1)
   cases e232
   replace p232 := eq_true p232
   replace q232 := eq_true q232
   go_wp2
   go_roundg k1
   case measure => have := HK1.out; omega
   case rel => exact ⟨(x3_1), (wrap64 (x4_1 + 1)), (by rfl), (by rfl), H', ⟨by have := HK1.out; omega⟩, by repeat (first | exact Drawn0.refl _ | apply Drawn0.step)⟩
def r03_letter.f (a0 : Int) : Option (Bool) := if a0 ≥ 97 then (if a0 ≤ 122 then (some true) else (if a0 ≥ 65 then (if a0 ≤ 90 then (some true) else (some (a0 == 95))) else (some (a0 == 95)))) else (if a0 ≥ 65 then (if a0 ≤ 90 then (some true) else (some (a0 == 95))) else (some (a0 == 95)))
set_option maxHeartbeats 8000000 in
set_option maxRecDepth 100000 in
theorem r03_letter.calls (a0 : Int) (r : Bool) (w : World) (h : r03_letter.f a0 = some r) :
 Calls Tryz.prog 93 #[.int .u8 a0] w fun e w' => e = .returned (.bool r) ∧ Drawn0 w w' := by
 have H : (if a0 ≥ 97 then (if a0 ≤ 122 then (some true) else (if a0 ≥ 65 then (if a0 ≤ 90 then (some true) else (some (a0 == 95))) else (some (a0 == 95)))) else (if a0 ≥ 65 then (if a0 ≤ 90 then (some true) else (some (a0 == 95))) else (some (a0 == 95)))) = some r := h
 clear h
 by_cases c2 : a0 ≥ 97
 rotate_left
 ·rw [if_neg c2] at H
  have c2b0 := decide_eq_false c2
  clear c2
  by_cases c6 : a0 ≥ 65
  rotate_left
  ·rw [if_neg c6] at H
   have c6b0 := decide_eq_false c6
   clear c6
   obtain rfl := Option.some.inj H
   go_enter Tryz.func93, Tryz.ntmps93
   go_wp2
   go_ret
   exact ⟨by rfl, by repeat (exact Drawn0.refl _)⟩
  rw [if_pos c6] at H
  have c6b0 := decide_eq_true c6
  clear c6
  by_cases c7 : a0 ≤ 90
  rotate_left
  ·rw [if_neg c7] at H
   have c7b0 := decide_eq_false c7
   clear c7
   obtain rfl := Option.some.inj H
   go_enter Tryz.func93, Tryz.ntmps93
   go_wp2
   go_ret
   exact ⟨by rfl, by repeat (exact Drawn0.refl _)⟩
  rw [if_pos c7] at H
  have c7b0 := decide_eq_true c7
  clear c7
  obtain rfl := Option.some.inj H
  go_enter Tryz.func93, Tryz.ntmps93
  go_wp2
  go_ret
  exact ⟨by rfl, by repeat (exact Drawn0.refl _)⟩
 rw [if_pos c2] at H
 have c2b0 := decide_eq_true c2
 clear c2
 by_cases c3 : a0 ≤ 122
 ·rw [if_pos c3] at H
  have c3b0 := decide_eq_true c3
  clear c3
  obtain rfl := Option.some.inj H
  go_enter Tryz.func93, Tryz.ntmps93
  go_wp2
  go_ret
  exact ⟨by rfl, by repeat (exact Drawn0.refl _)⟩
 rw [if_neg c3] at H
 have c3b0 := decide_eq_false c3
 clear c3
 by_cases c4 : a0 ≥ 65
 rotate_left
 ·rw [if_neg c4] at H
  have c4b0 := decide_eq_false c4
  clear c4
  obtain rfl := Option.some.inj H
  go_enter Tryz.func93, Tryz.ntmps93
  go_wp2
  go_ret
  exact ⟨by rfl, by repeat (exact Drawn0.refl _)⟩
 rw [if_pos c4] at H
 have c4b0 := decide_eq_true c4
 clear c4
 by_cases c5 : a0 ≤ 90
 rotate_left
 ·rw [if_neg c5] at H
  have c5b0 := decide_eq_false c5
  clear c5
  obtain rfl := Option.some.inj H
  go_enter Tryz.func93, Tryz.ntmps93
  go_wp2
  go_ret
  exact ⟨by rfl, by repeat (exact Drawn0.refl _)⟩
 rw [if_pos c5] at H
 have c5b0 := decide_eq_true c5
 clear c5
 obtain rfl := Option.some.inj H
 go_enter Tryz.func93, Tryz.ntmps93
 go_wp2
 go_ret
 exact ⟨by rfl, by repeat (exact Drawn0.refl _)⟩
end Go.Proofs.YtcikjeiebpmmcaaGreat.PMch
