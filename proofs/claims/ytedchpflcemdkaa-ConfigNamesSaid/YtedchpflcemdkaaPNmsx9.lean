-- Printed for this claim by a program of the session (print2.py), out of the translation; Lean checks it.
import Derived.Test.YtedchpflcemdkaaPNmsx0
import Derived.Test.YtedchpflcemdkaaPNmsx5
import Derived.Test.YtedchpflcemdkaaPNmsx6
import Derived.Test.YtedchpflcemdkaaPNmsx7
import Derived.Test.YtedchpflcemdkaaPNmsx8
namespace Go.Proofs.Ytedchpflcemdkaa.PNms
open Go.RowKit Go.Proofs.YtedchpflcemdkaaW.PrintWords Go.Proofs.YtedchpflcemdkaaW.PrintLast Go.Proofs.YtedchpflcemdkaaW.PrintMore
attribute [local go_sem] max2_int min2_int max_two min_two max_three min_three max_four min_four   -- for this text's walks alone
set_option linter.unusedVariables false
set_option linter.unusedSimpArgs false

/-! ### odometerref03_Name: function 24 -/
mutual
def odometerref03_Name.j0 : Nat → ByteArray → List (S33) → Bool → Option (ByteArray × Int)
  | 0, _, _, _ => none
  | k + 1, x0, x1, x16 => if x16 = true then (some ((⟨#[]⟩ : ByteArray), 5)) else ((odometerref03_Sorted.f k x1).bind fun t234 => (odometerref03_Name.l0 k t234 x0 0))
def odometerref03_Name.l0 : Nat → List (S33) → ByteArray → Int → Option (ByteArray × Int)
  | 0, _, _, _ => none
  | k + 1, x1, x6, x7 => if x7 < (x1.length : Int) then (if x7 = 0 then (if x6.size + 1 ≤ 9223372036854775807 then (if 0 ≤ x7 then (if (x6 ++ (⟨#[123]⟩ : ByteArray)).size + ((rd_T33 x1 x7).f0).size ≤ 9223372036854775807 then (if ((x6 ++ (⟨#[123]⟩ : ByteArray)) ++ ((rd_T33 x1 x7).f0)).size + 2 ≤ 9223372036854775807 then ((odometerref03_Escape.f k ((rd_T33 x1 x7).f1)).bind fun t239 => (if (((x6 ++ (⟨#[123]⟩ : ByteArray)) ++ ((rd_T33 x1 x7).f0)) ++ (⟨#[61, 34]⟩ : ByteArray)).size + t239.size ≤ 9223372036854775807 then (if ((((x6 ++ (⟨#[123]⟩ : ByteArray)) ++ ((rd_T33 x1 x7).f0)) ++ (⟨#[61, 34]⟩ : ByteArray)) ++ t239).size + 1 ≤ 9223372036854775807 then (odometerref03_Name.l0 k x1 (((((x6 ++ (⟨#[123]⟩ : ByteArray)) ++ ((rd_T33 x1 x7).f0)) ++ (⟨#[61, 34]⟩ : ByteArray)) ++ t239) ++ (⟨#[34]⟩ : ByteArray)) (wrap64 (x7 + 1))) else (none)) else (none))) else (none)) else (none)) else (none)) else (none)) else (if x6.size + 1 ≤ 9223372036854775807 then (if 0 ≤ x7 then (if (x6 ++ (⟨#[44]⟩ : ByteArray)).size + ((rd_T33 x1 x7).f0).size ≤ 9223372036854775807 then (if ((x6 ++ (⟨#[44]⟩ : ByteArray)) ++ ((rd_T33 x1 x7).f0)).size + 2 ≤ 9223372036854775807 then ((odometerref03_Escape.f k ((rd_T33 x1 x7).f1)).bind fun t242 => (if (((x6 ++ (⟨#[44]⟩ : ByteArray)) ++ ((rd_T33 x1 x7).f0)) ++ (⟨#[61, 34]⟩ : ByteArray)).size + t242.size ≤ 9223372036854775807 then (if ((((x6 ++ (⟨#[44]⟩ : ByteArray)) ++ ((rd_T33 x1 x7).f0)) ++ (⟨#[61, 34]⟩ : ByteArray)) ++ t242).size + 1 ≤ 9223372036854775807 then (odometerref03_Name.l0 k x1 (((((x6 ++ (⟨#[44]⟩ : ByteArray)) ++ ((rd_T33 x1 x7).f0)) ++ (⟨#[61, 34]⟩ : ByteArray)) ++ t242) ++ (⟨#[34]⟩ : ByteArray)) (wrap64 (x7 + 1))) else (none)) else (none))) else (none)) else (none)) else (none)) else (none))) else (if (x1.length : Int) > 0 then (if x6.size + 1 ≤ 9223372036854775807 then (some (x6 ++ (⟨#[125]⟩ : ByteArray), 0)) else (none)) else (some (x6, 0)))
end
def odometerref03_Name.f (k : Nat) (a0 : ByteArray) (l1 : List (S33)) : Option (ByteArray × Int) := (odometerref03_IsMetric.f k a0).bind fun t232 => (if t232 = true then ((odometerref03_may.f k l1).bind fun t233 => (odometerref03_Name.j0 k a0 l1 (!t233))) else (odometerref03_Name.j0 k a0 l1 true))
theorem odometerref03_Name.mono_l : ∀ k, (∀ y0 y1 y2, LeO (odometerref03_Name.j0 k y0 y1 y2) (odometerref03_Name.j0 (k + 1) y0 y1 y2)) ∧ (∀ y0 y1 y2, LeO (odometerref03_Name.l0 k y0 y1 y2) (odometerref03_Name.l0 (k + 1) y0 y1 y2))
  | 0 => ⟨fun _ _ _ r h => by simp [odometerref03_Name.j0] at h, fun _ _ _ r h => by simp [odometerref03_Name.l0] at h⟩
  | k + 1 => by
    obtain ⟨ih0, ih1⟩ := odometerref03_Name.mono_l k
    refine ⟨?_, ?_⟩
    · intro y0 y1 y2
      unfold odometerref03_Name.j0
      repeat' first
      | (with_reducible exact ih0 _ _ _)
      | (with_reducible exact ih1 _ _ _)
      | (with_reducible exact odometerref03_Escape.mono _ _)
      | (with_reducible exact odometerref03_IsMetric.mono _ _)
      | (with_reducible exact odometerref03_Sorted.mono _ _)
      | (with_reducible exact odometerref03_may.mono _ _)
      | (with_reducible exact LeO.refl _)
      | (with_reducible exact LeO.none _)
      | (with_reducible refine LeO.ite ?_ ?_)
      | (with_reducible refine LeO.bind ?_ (fun _ => ?_))
      | exact ih0 _ _ _
      | exact ih1 _ _ _
      | exact odometerref03_Escape.mono _ _
      | exact odometerref03_IsMetric.mono _ _
      | exact odometerref03_Sorted.mono _ _
      | exact odometerref03_may.mono _ _
      | exact LeO.none _
      | refine LeO.ite ?_ ?_
      | refine LeO.bind ?_ (fun _ => ?_)
    · intro y0 y1 y2
      unfold odometerref03_Name.l0
      repeat' first
      | (with_reducible exact ih0 _ _ _)
      | (with_reducible exact ih1 _ _ _)
      | (with_reducible exact odometerref03_Escape.mono _ _)
      | (with_reducible exact odometerref03_IsMetric.mono _ _)
      | (with_reducible exact odometerref03_Sorted.mono _ _)
      | (with_reducible exact odometerref03_may.mono _ _)
      | (with_reducible exact LeO.refl _)
      | (with_reducible exact LeO.none _)
      | (with_reducible refine LeO.ite ?_ ?_)
      | (with_reducible refine LeO.bind ?_ (fun _ => ?_))
      | exact ih0 _ _ _
      | exact ih1 _ _ _
      | exact odometerref03_Escape.mono _ _
      | exact odometerref03_IsMetric.mono _ _
      | exact odometerref03_Sorted.mono _ _
      | exact odometerref03_may.mono _ _
      | exact LeO.none _
      | refine LeO.ite ?_ ?_
      | refine LeO.bind ?_ (fun _ => ?_)
theorem odometerref03_Name.mono : ∀ a0 a1 k, LeO (odometerref03_Name.f k a0 a1) (odometerref03_Name.f (k + 1) a0 a1) := by
  intro a0 a1 k
  obtain ⟨ih0, ih1⟩ := odometerref03_Name.mono_l k
  unfold odometerref03_Name.f
  repeat' first
      | (with_reducible exact ih0 _ _ _)
      | (with_reducible exact ih1 _ _ _)
      | (with_reducible exact odometerref03_Escape.mono _ _)
      | (with_reducible exact odometerref03_IsMetric.mono _ _)
      | (with_reducible exact odometerref03_Sorted.mono _ _)
      | (with_reducible exact odometerref03_may.mono _ _)
      | (with_reducible exact LeO.refl _)
      | (with_reducible exact LeO.none _)
      | (with_reducible refine LeO.ite ?_ ?_)
      | (with_reducible refine LeO.bind ?_ (fun _ => ?_))
      | exact ih0 _ _ _
      | exact ih1 _ _ _
      | exact odometerref03_Escape.mono _ _
      | exact odometerref03_IsMetric.mono _ _
      | exact odometerref03_Sorted.mono _ _
      | exact odometerref03_may.mono _ _
      | exact LeO.none _
      | refine LeO.ite ?_ ?_
      | refine LeO.bind ?_ (fun _ => ?_)
def odometerref03_Name.T11 : Bool × List (List Nat × List Nat) := (true, [([], []), ([], []), ([0, 1], [0, 1]), ([], []), ([], []), ([3, 4], [3, 4]), ([5], [5]), ([6], [6]), ([2, 7], [2, 7]), ([8], [8]), ([], []), ([], []), ([10, 11], [10, 11]), ([12], [12]), ([13], [13]), ([14], [14]), ([9, 15], [9, 15]), ([16], [16]), ([17, 15, 0, 1, 2, 3, 4, 5, 6, 7, 8, 9, 10, 11, 12, 13, 14, 15, 16, 17], [0, 17])])
def odometerref03_Name.B11 : List Nat := [0, 0, 3, 0, 0, 24, 56, 120, 255, 511, 0, 0, 3072, 7168, 15360, 31744, 65535, 131071, 262143]
theorem odometerref03_Name.tab11 : rtab .any (opsOf Try.f24 11) = odometerref03_Name.T11 := by kernel_rfl
theorem odometerref03_Name.bits11 : waitsOk odometerref03_Name.T11.2 odometerref03_Name.B11 = true := by kernel_rfl
set_option maxHeartbeats 8000000 in
set_option maxRecDepth 100000 in
theorem odometerref03_Name.calls (k : Nat) (a0 : ByteArray) (A1 : Option Addr) (c1 : Nat) (l1 : List (S33)) (r1 : ByteArray) (r2 : Int) (w : World) (hr1 : Kd.C k33 w A1 l1.length l1) (hc1 : l1.length ≤ c1) (h : odometerref03_Name.f k a0 l1 = some (r1, r2)) :
    Calls Try.prog 24 #[.string a0, .slice A1 l1.length c1] w fun e w' => e = .returned (.tuple #[.string r1, .int .i64 r2]) ∧ Below w.heap.size w w' := by
  have HR1 := Aside0.mk hr1
  have HC1 := Aside0.mk hc1
  clear hr1 hc1
  have HB := Aside0.mk (Below.refl w.heap.size w)
  have H : ((odometerref03_IsMetric.f k a0).bind fun t232 => (if t232 = true then ((odometerref03_may.f k l1).bind fun t233 => (odometerref03_Name.j0 k a0 l1 (!t233))) else (odometerref03_Name.j0 k a0 l1 true))) = some (r1, r2) := h
  clear h
  have HC3 := Aside0.mk H
  clear H
  go_enter Try.func24, Try.ntmps24
  go_upto_region 1 with (fail)
  go_cut [16] (fun v16 wc => ∃ (kq : Nat) (x16_2 : Bool), v16 = .bool x16_2 ∧ Aside0 (odometerref03_Name.j0 kq a0 l1 x16_2 = some (r1, r2)) ∧ Aside0 (kq ≤ k) ∧ Aside0 (Below w.heap.size w wc))
  case first =>
    have H := HC3.out
    clear HC3
    replace H := Option.bind_eq_some_iff.mp H
    obtain ⟨t232, A40, H⟩ := H
    replace H : (if t232 = true then ((odometerref03_may.f k l1).bind fun t233 => (odometerref03_Name.j0 k a0 l1 (!t233))) else (odometerref03_Name.j0 k a0 l1 true)) = some (r1, r2) := H
    have A4 := Aside0.mk A40
    clear A40
    by_cases c5 : t232 = true
    · subst c5
      have H1 : ((odometerref03_may.f k l1).bind fun t233 => (odometerref03_Name.j0 k a0 l1 (!t233))) = some (r1, r2) := by rw [if_pos rfl] at H; exact H
      clear H
      have H := H1
      clear H1
      replace H := Option.bind_eq_some_iff.mp H
      obtain ⟨t233, A60, H⟩ := H
      replace H : (odometerref03_Name.j0 k a0 l1 (!t233)) = some (r1, r2) := H
      have A6 := Aside0.mk A60
      clear A60
      have H' := Aside0.mk H
      clear H
      go_wp2_with (first | ((with_reducible refine gate_callee (f := 37) rfl ?_); refine goesL_ (some 10) rfl rfl Try.func37 (by kernel_rfl) rfl #[.string a0] rfl (by (try simp only [List.map_toArray, List.map_cons, List.map_nil]); first | done | rfl | (simp only [List.length_drop, List.length_take]; rfl)) ?_; (with_reducible refine (odometerref03_IsMetric.calls k a0 true _ A4.out).mono ?_); rintro e w' ⟨rfl, ⟨nd, rfl⟩⟩; refine ⟨_, rfl, ?_⟩) | (go_at_call 38; (with_reducible refine (odometerref03_may.calls k _ _ l1 t233 _ ?side1 ?side2 A6.out).mono ?_); (case side1 => repeat (first | exact (Kd.C_below HR1.out (by repeat (first | (with_reducible first | exact HB.out | apply below_alloc | apply pw_below_drewN | apply below_drew1) | exact HB.out))) | (with_reducible refine Kd.C_alloc ?_ _) | (with_reducible refine Kd.C_drewN ?_ _) | (with_reducible refine Kd.C_drew ?_))); (case side2 => exact HC1.out); rintro e w' ⟨rfl, ⟨nd, rfl⟩⟩))
      go_meet
      case rel => exact ⟨_, (!t233), (by first | rfl | (simp; done) | (simp [*]; done)), H', ⟨by first | omega | exact Nat.le_refl _⟩, ⟨by repeat (first | (with_reducible first | exact HB.out | apply below_alloc | apply pw_below_drewN | apply below_drew1) | exact HB.out)⟩⟩
    · replace c5 := Bool.eq_false_iff.mpr c5
      subst c5
      have H1 : (odometerref03_Name.j0 k a0 l1 true) = some (r1, r2) := by rw [if_neg (show ¬ (false = true) by decide)] at H; exact H
      clear H
      have H := H1
      clear H1
      have H' := Aside0.mk H
      clear H
      go_wp2_with (first | ((with_reducible refine gate_callee (f := 37) rfl ?_); refine goesL_ (some 10) rfl rfl Try.func37 (by kernel_rfl) rfl #[.string a0] rfl (by (try simp only [List.map_toArray, List.map_cons, List.map_nil]); first | done | rfl | (simp only [List.length_drop, List.length_take]; rfl)) ?_; (with_reducible refine (odometerref03_IsMetric.calls k a0 false _ A4.out).mono ?_); rintro e w' ⟨rfl, ⟨nd, rfl⟩⟩; refine ⟨_, rfl, ?_⟩))
      go_meet
      case rel => exact ⟨_, (true), (by first | rfl | (simp; done) | (simp [*]; done)), H', ⟨by first | omega | exact Nat.le_refl _⟩, ⟨by repeat (first | (with_reducible first | exact HB.out | apply below_alloc | apply pw_below_drewN | apply below_drew1) | exact HB.out)⟩⟩
  case rest =>
    clear HC3
    try clear c1
    try clear c2
    try clear p2
    try clear c3
    try clear c5
    obtain ⟨kq, x16_2, rfl, HA, HJ2, HB⟩ := hcut
    cases kq with
    | zero => exact absurd HA.out (by simp [odometerref03_Name.j0])
    | succ kj2 =>
      have H := HA.out
      clear HA
      simp only [odometerref03_Name.j0] at H
      by_cases c7 : x16_2 = true
      · subst c7
        have H1 : (some ((⟨#[]⟩ : ByteArray), 5)) = some (r1, r2) := by rw [if_pos rfl] at H; exact H
        clear H
        have H := H1
        clear H1
        simp only [Option.some.injEq, Prod.mk.injEq] at H
        obtain ⟨rfl, rfl⟩ := H
        go_wp2
        go_ret2
        exact ⟨by first | rfl | (simp [errW_none, errW_some] <;> rfl) | (simp [*, errW_none, errW_some] <;> rfl), by repeat (first | (with_reducible first | exact HB.out | apply below_alloc | apply pw_below_drewN | apply below_drew1) | exact HB.out)⟩
      · replace c7 := Bool.eq_false_iff.mpr c7
        subst c7
        have H1 : ((odometerref03_Sorted.f kj2 l1).bind fun t234 => (odometerref03_Name.l0 kj2 t234 a0 0)) = some (r1, r2) := by rw [if_neg (show ¬ (false = true) by decide)] at H; exact H
        clear H
        have H := H1
        clear H1
        replace H := Option.bind_eq_some_iff.mp H
        obtain ⟨t234, A80, H⟩ := H
        replace H : (odometerref03_Name.l0 kj2 t234 a0 0) = some (r1, r2) := H
        have A8 := Aside0.mk A80
        clear A80
        have H' := Aside0.mk H
        clear H
        go_wp2_with (first | ((with_reducible refine gate_callee (f := 39) rfl ?_); refine goesL_ (some 19) rfl rfl Try.func39 (by kernel_rfl) rfl #[.slice A1 l1.length c1] rfl (by (try simp only [List.map_toArray, List.map_cons, List.map_nil]); first | done | rfl | (simp only [List.length_drop, List.length_take]; rfl)) ?_; (with_reducible refine (odometerref03_Sorted.calls kj2 _ _ l1 t234 _ ?side1 ?side2 A8.out).mono ?_); (case side1 => repeat (first | exact (Kd.C_below HR1.out HB.out) | (with_reducible refine Kd.C_alloc ?_ _) | (with_reducible refine Kd.C_drewN ?_ _) | (with_reducible refine Kd.C_drew ?_))); (case side2 => exact HC1.out); rintro e w9 ⟨v235, rfl, ho0, hb⟩; refine ⟨_, rfl, ?_⟩; have n0_ := Aside0.mk (Kd.R_lower ho0 (below_size (by repeat (first | (with_reducible first | exact HB.out | apply below_alloc | apply pw_below_drewN | apply below_drew1) | exact HB.out)))); have n1_ := Aside0.mk (below_step (by repeat (first | (with_reducible first | exact HB.out | apply below_alloc | apply pw_below_drewN | apply below_drew1) | exact HB.out)) hb); clear HB; have HO236 := n0_; have HB := n1_; clear n0_ n1_; (try clear hb); (try clear hb2); (try clear hk); (try clear hi); (try clear ho0)))
        go_loopg [6, 7] kj2 (fun kq v6 v7 w' => ∃ (x6_2 : ByteArray) (x7_2 : Int), v6 = .string x6_2 ∧ v7 = .int .i64 x7_2 ∧ Aside0 (odometerref03_Name.l0 kq t234 x6_2 x7_2 = some (r1, r2)) ∧ Aside0 (kq ≤ kj2) ∧ Aside0 (Kd.R k33 33 w' w.heap.size (fun _ => True) v235 t234) ∧ Aside0 (Below w.heap.size w w'))
        case atStart => exact ⟨(a0), (0), (by first | rfl | (simp; done) | (simp [*]; done)), (by first | rfl | (simp; done) | (simp [*]; done)), H', ⟨Nat.le_refl _⟩, ⟨by (with_reducible repeat (first | apply Kd.R_alloc | apply Kd.R_drewN | apply Kd.R_drew)); exact HO236.out⟩, ⟨by repeat (first | (with_reducible first | exact HB.out | apply below_alloc | apply pw_below_drewN | apply below_drew1) | exact HB.out)⟩⟩
        case round =>
          clear H'
          try clear c1
          try clear c2
          try clear p2
          try clear c3
          try clear c5
          try clear c7
          try clear p2
          obtain ⟨x6_2, x7_2, rfl, rfl, HA, HK2, HO_1, HB⟩ := hrel
          cases gk with
          | zero => exact absurd HA.out (by simp [odometerref03_Name.l0])
          | succ k2 =>
            have H := HA.out
            clear HA
            simp only [odometerref03_Name.l0] at H
            by_cases c10 : x7_2 < (t234.length : Int)
            · rw [if_pos c10] at H
              have c10b0 : decide (x7_2 < (t234.length : Int)) = true := decide_eq_true c10
              clear c10
              by_cases c11 : x7_2 = 0
              · rw [if_pos c11] at H
                have c11b0 : (x7_2 == 0) = true := beq_iff_eq.mpr c11
                have c11b1 : (x7_2 != 0) = false := bne_eq_false_iff_eq.mpr c11
                clear c11
                by_cases c12 : x6_2.size + 1 ≤ 9223372036854775807
                · rw [if_pos c12] at H
                  have c12b0 := eq_true c12
                  have c12b1 : decide (x6_2.size + 1 ≤ 9223372036854775807) = true := decide_eq_true c12
                  try have c12b2 : (9223372036854775807 < x6_2.size + 1) = False := eq_false (Nat.not_lt.2 c12)
                  by_cases c13 : 0 ≤ x7_2
                  · rw [if_pos c13] at H
                    have c13b0 : decide (0 ≤ x7_2) = true := decide_eq_true c13
                    clear c13
                    by_cases c14 : (x6_2 ++ (⟨#[123]⟩ : ByteArray)).size + ((rd_T33 t234 x7_2).f0).size ≤ 9223372036854775807
                    · rw [if_pos c14] at H
                      have c14b0 := eq_true c14
                      have c14b1 : decide ((x6_2 ++ (⟨#[123]⟩ : ByteArray)).size + ((rd_T33 t234 x7_2).f0).size ≤ 9223372036854775807) = true := decide_eq_true c14
                      try have c14b2 : (9223372036854775807 < (x6_2 ++ (⟨#[123]⟩ : ByteArray)).size + ((rd_T33 t234 x7_2).f0).size) = False := eq_false (Nat.not_lt.2 c14)
                      try have c14b3 : (9223372036854775807 < x6_2.size + 1 + ((rd_T33 t234 x7_2).f0).size) = False := eq_false (by have h_ := c14; simp only [ByteArray.size_append] at h_; have z0_ : (⟨#[123]⟩ : ByteArray).size = 1 := rfl; omega)
                      by_cases c15 : ((x6_2 ++ (⟨#[123]⟩ : ByteArray)) ++ ((rd_T33 t234 x7_2).f0)).size + 2 ≤ 9223372036854775807
                      · rw [if_pos c15] at H
                        have c15b0 := eq_true c15
                        have c15b1 : decide (((x6_2 ++ (⟨#[123]⟩ : ByteArray)) ++ ((rd_T33 t234 x7_2).f0)).size + 2 ≤ 9223372036854775807) = true := decide_eq_true c15
                        try have c15b2 : (9223372036854775807 < ((x6_2 ++ (⟨#[123]⟩ : ByteArray)) ++ ((rd_T33 t234 x7_2).f0)).size + 2) = False := eq_false (Nat.not_lt.2 c15)
                        try have c15b3 : (9223372036854775807 < x6_2.size + 1 + ((rd_T33 t234 x7_2).f0).size + 2) = False := eq_false (by have h_ := c15; simp only [ByteArray.size_append] at h_; have z0_ : (⟨#[123]⟩ : ByteArray).size = 1 := rfl; omega)
                        replace H := Option.bind_eq_some_iff.mp H
                        obtain ⟨t239, A160, H⟩ := H
                        replace H : (if (((x6_2 ++ (⟨#[123]⟩ : ByteArray)) ++ ((rd_T33 t234 x7_2).f0)) ++ (⟨#[61, 34]⟩ : ByteArray)).size + t239.size ≤ 9223372036854775807 then (if ((((x6_2 ++ (⟨#[123]⟩ : ByteArray)) ++ ((rd_T33 t234 x7_2).f0)) ++ (⟨#[61, 34]⟩ : ByteArray)) ++ t239).size + 1 ≤ 9223372036854775807 then (odometerref03_Name.l0 k2 t234 (((((x6_2 ++ (⟨#[123]⟩ : ByteArray)) ++ ((rd_T33 t234 x7_2).f0)) ++ (⟨#[61, 34]⟩ : ByteArray)) ++ t239) ++ (⟨#[34]⟩ : ByteArray)) (wrap64 (x7_2 + 1))) else (none)) else (none)) = some (r1, r2) := H
                        have A16 := Aside0.mk A160
                        clear A160
                        by_cases c17 : (((x6_2 ++ (⟨#[123]⟩ : ByteArray)) ++ ((rd_T33 t234 x7_2).f0)) ++ (⟨#[61, 34]⟩ : ByteArray)).size + t239.size ≤ 9223372036854775807
                        · rw [if_pos c17] at H
                          have c17b0 := eq_true c17
                          have c17b1 : decide ((((x6_2 ++ (⟨#[123]⟩ : ByteArray)) ++ ((rd_T33 t234 x7_2).f0)) ++ (⟨#[61, 34]⟩ : ByteArray)).size + t239.size ≤ 9223372036854775807) = true := decide_eq_true c17
                          try have c17b2 : (9223372036854775807 < (((x6_2 ++ (⟨#[123]⟩ : ByteArray)) ++ ((rd_T33 t234 x7_2).f0)) ++ (⟨#[61, 34]⟩ : ByteArray)).size + t239.size) = False := eq_false (Nat.not_lt.2 c17)
                          try have c17b3 : (9223372036854775807 < x6_2.size + 1 + ((rd_T33 t234 x7_2).f0).size + 2 + t239.size) = False := eq_false (by have h_ := c17; simp only [ByteArray.size_append] at h_; have z0_ : (⟨#[123]⟩ : ByteArray).size = 1 := rfl; have z1_ : (⟨#[61, 34]⟩ : ByteArray).size = 2 := rfl; omega)
                          by_cases c18 : ((((x6_2 ++ (⟨#[123]⟩ : ByteArray)) ++ ((rd_T33 t234 x7_2).f0)) ++ (⟨#[61, 34]⟩ : ByteArray)) ++ t239).size + 1 ≤ 9223372036854775807
                          · rw [if_pos c18] at H
                            have c18b0 := eq_true c18
                            have c18b1 : decide (((((x6_2 ++ (⟨#[123]⟩ : ByteArray)) ++ ((rd_T33 t234 x7_2).f0)) ++ (⟨#[61, 34]⟩ : ByteArray)) ++ t239).size + 1 ≤ 9223372036854775807) = true := decide_eq_true c18
                            try have c18b2 : (9223372036854775807 < ((((x6_2 ++ (⟨#[123]⟩ : ByteArray)) ++ ((rd_T33 t234 x7_2).f0)) ++ (⟨#[61, 34]⟩ : ByteArray)) ++ t239).size + 1) = False := eq_false (Nat.not_lt.2 c18)
                            try have c18b3 : (9223372036854775807 < x6_2.size + 1 + ((rd_T33 t234 x7_2).f0).size + 2 + t239.size + 1) = False := eq_false (by have h_ := c18; simp only [ByteArray.size_append] at h_; have z0_ : (⟨#[123]⟩ : ByteArray).size = 1 := rfl; have z1_ : (⟨#[61, 34]⟩ : ByteArray).size = 2 := rfl; omega)
                            have H' := Aside0.mk H
                            clear H
                            obtain ⟨Ao19, co19, eo19⟩ := Kd.R_slice HO_1.out
                            subst eo19
                            try go_wp2
                            have n0_ := Aside0.mk (Kd.R_drew HO_1.out)
                            have n1_ := Aside0.mk (below_drew1 HB.out)
                            clear HO_1
                            clear HB
                            have HO_1 := n0_
                            have HB := n1_
                            clear n0_ n1_
                            have p237 : 0 ≤ (x7_2 : Int) := of_decide_eq_true (by first | (with_reducible assumption) | assumption)
                            have q237 : x7_2 < (t234.length : Int) := of_decide_eq_true (by first | (with_reducible assumption) | assumption)
                            (try (obtain ⟨Ax237_, cx237_, ex237_⟩ := Kd.R_slice HO_1.out; subst ex237_))
                            obtain ⟨ad237, e237, hx237_0, hx237_1⟩ := at_T33 (Kd.R_reads' HO_1.out).2.2 x7_2 p237 q237
                            cases e237
                            replace p237 := eq_true p237
                            replace q237 := eq_true q237
                            have p238 : 0 ≤ (x7_2 : Int) := of_decide_eq_true (by first | (with_reducible assumption) | assumption)
                            have q238 : x7_2 < (t234.length : Int) := of_decide_eq_true (by first | (with_reducible assumption) | assumption)
                            (try (obtain ⟨Ax238_, cx238_, ex238_⟩ := Kd.R_slice HO_1.out; subst ex238_))
                            obtain ⟨ad238, e238, hx238_0, hx238_1⟩ := at_T33 (Kd.R_reads' HO_1.out).2.2 x7_2 p238 q238
                            obtain rfl : ad237 = ad238 := (by injection e238)
                            replace p238 := eq_true p238
                            replace q238 := eq_true q238
                            refine start_ (n := 19) (S := fun w' => w'.cell? (ad237.add ((x7_2).toNat * 2)) = some (.string ((rd_T33 t234 x7_2).f0)) ∧ w'.cell? ⟨(ad237.add ((x7_2).toNat * 2)).block, (ad237.add ((x7_2).toNat * 2)).off + 1, none⟩ = some (.string ((rd_T33 t234 x7_2).f1)) ∧ w'.cell? (ad237.add ((x7_2).toNat * 2)) = some (.string ((rd_T33 t234 x7_2).f0)) ∧ w'.cell? ⟨(ad237.add ((x7_2).toNat * 2)).block, (ad237.add ((x7_2).toNat * 2)).off + 1, none⟩ = some (.string ((rd_T33 t234 x7_2).f1))) (ds := []) #[false, false, false, false, false, false, false, false, false, false, false, false, false, false, false, false, false, false, false] (by kernel_rfl) rfl rfl ⟨hx237_0, hx237_1, hx238_0, hx238_1⟩ (fun hHeld => ?_); refine with_tabW odometerref03_Name.tab11 odometerref03_Name.bits11 (fun HT_ HW_ => ?_)
                            generalize wr.drew = w20 at HO_1 HB hx237_0 hx237_1 hx238_0 hx238_1 hHeld ⊢
                            refine pure_ (i := 0) (N := some 28) (v := ?_) (a' := ?_) #[true, false, false, false, false, false, false, false, false, false, false, false, false, false, false, false, false, false, false] rfl rfl (any_of HT_.out (by kernel_rfl)) (fun _ _ _ h => h) (Or.inl ⟨by rfl, ?_⟩) ?_ ?_
                            rotate_left
                            · intro w'
                              go_simp
                              with_reducible rfl
                            rotate_left
                            · simp only [Act.put, List.setIfInBounds_toArray, List.set_cons_zero, List.set_cons_succ, i64_w, i32_w]
                              rfl
                            refine pure_ (i := 1) (N := some 29) (v := ?_) (a' := ?_) #[true, true, false, false, false, false, false, false, false, false, false, false, false, false, false, false, false, false, false] rfl rfl (any_of HT_.out (by kernel_rfl)) (fun _ _ _ h => h) (Or.inl ⟨by rfl, ?_⟩) ?_ ?_
                            rotate_left
                            · intro w'
                              go_simp
                              with_reducible rfl
                            rotate_left
                            · simp only [Act.put, List.setIfInBounds_toArray, List.set_cons_zero, List.set_cons_succ, i64_w, i32_w]
                              rfl
                            refine pure_ (i := 2) (N := some 30) (v := ?_) (a' := ?_) #[true, true, true, false, false, false, false, false, false, false, false, false, false, false, false, false, false, false, false] rfl rfl (any_of HT_.out (by kernel_rfl)) (fun _ _ _ h => h) (Or.inl ⟨by rfl, ?_⟩) ?_ ?_
                            rotate_left
                            · intro w'
                              go_simp
                              with_reducible rfl
                            rotate_left
                            · simp only [Act.put, List.setIfInBounds_toArray, List.set_cons_zero, List.set_cons_succ, i64_w, i32_w]
                              rfl
                            refine pure_ (i := 3) (N := some 31) (v := ?_) (a' := ?_) #[true, true, true, true, false, false, false, false, false, false, false, false, false, false, false, false, false, false, false] rfl rfl (any_of HT_.out (by kernel_rfl)) (fun _ _ _ h => h) (Or.inl ⟨by rfl, ?_⟩) ?_ ?_
                            rotate_left
                            · intro w'
                              go_simp
                              with_reducible rfl
                            rotate_left
                            · simp only [Act.put, List.setIfInBounds_toArray, List.set_cons_zero, List.set_cons_succ, i64_w, i32_w]
                              rfl
                            refine pure_ (i := 4) (N := some 32) (v := ?_) (a' := ?_) #[true, true, true, true, true, false, false, false, false, false, false, false, false, false, false, false, false, false, false] rfl rfl (any_of HT_.out (by kernel_rfl)) (fun _ _ _ h => h) (Or.inl ⟨by rfl, ?_⟩) ?_ ?_
                            rotate_left
                            · intro w'
                              go_simp
                              with_reducible rfl
                            rotate_left
                            · simp only [Act.put, List.setIfInBounds_toArray, List.set_cons_zero, List.set_cons_succ, i64_w, i32_w]
                              rfl
                            refine pure_ (i := 5) (N := some 33) (v := ?_) (a' := ?_) #[true, true, true, true, true, true, false, false, false, false, false, false, false, false, false, false, false, false, false] rfl rfl (any_of HT_.out (by kernel_rfl)) (fun _ _ _ h => h) (Or.inl ⟨by rfl, ?_⟩) ?_ ?_
                            rotate_left
                            · intro w'
                              go_simp
                              with_reducible rfl
                            rotate_left
                            · simp only [Act.put, List.setIfInBounds_toArray, List.set_cons_zero, List.set_cons_succ, i64_w, i32_w]
                              rfl
                            refine pure_ (i := 6) (N := some 34) (v := ?_) (a' := ?_) #[true, true, true, true, true, true, true, false, false, false, false, false, false, false, false, false, false, false, false] rfl rfl (any_of HT_.out (by kernel_rfl)) (fun _ _ _ h => h) (Or.inl ⟨by rfl, ?_⟩) ?_ ?_
                            rotate_left
                            · intro w'
                              go_simp
                              with_reducible rfl
                            rotate_left
                            · simp only [Act.put, List.setIfInBounds_toArray, List.set_cons_zero, List.set_cons_succ, i64_w, i32_w]
                              rfl
                            refine pure_ (i := 10) (N := some 38) (v := ?_) (a' := ?_) #[true, true, true, true, true, true, true, false, false, false, true, false, false, false, false, false, false, false, false] rfl rfl (any_of HT_.out (by kernel_rfl)) (fun _ _ _ h => h) (Or.inl ⟨by rfl, ?_⟩) ?_ ?_
                            rotate_left
                            · intro w'
                              go_simp
                              with_reducible rfl
                            rotate_left
                            · simp only [Act.put, List.setIfInBounds_toArray, List.set_cons_zero, List.set_cons_succ, i64_w, i32_w]
                              rfl
                            refine pure_ (i := 11) (N := some 39) (v := ?_) (a' := ?_) #[true, true, true, true, true, true, true, false, false, false, true, true, false, false, false, false, false, false, false] rfl rfl (any_of HT_.out (by kernel_rfl)) (fun _ _ _ h => h) (Or.inl ⟨by rfl, ?_⟩) ?_ ?_
                            rotate_left
                            · intro w'
                              go_simp
                              with_reducible rfl
                            rotate_left
                            · simp only [Act.put, List.setIfInBounds_toArray, List.set_cons_zero, List.set_cons_succ, i64_w, i32_w]
                              rfl
                            refine pure_ (i := 12) (N := some 40) (v := ?_) (a' := ?_) #[true, true, true, true, true, true, true, false, false, false, true, true, true, false, false, false, false, false, false] rfl rfl (any_of HT_.out (by kernel_rfl)) (fun _ _ _ h => h) (Or.inl ⟨by rfl, ?_⟩) ?_ ?_
                            rotate_left
                            · intro w'
                              go_simp
                              with_reducible rfl
                            rotate_left
                            · simp only [Act.put, List.setIfInBounds_toArray, List.set_cons_zero, List.set_cons_succ, i64_w, i32_w]
                              rfl
                            refine pure_ (i := 13) (N := some 41) (v := ?_) (a' := ?_) #[true, true, true, true, true, true, true, false, false, false, true, true, true, true, false, false, false, false, false] rfl rfl (any_of HT_.out (by kernel_rfl)) (fun _ _ _ h => h) (Or.inl ⟨by rfl, ?_⟩) ?_ ?_
                            rotate_left
                            · intro w'
                              go_simp
                              with_reducible rfl
                            rotate_left
                            · simp only [Act.put, List.setIfInBounds_toArray, List.set_cons_zero, List.set_cons_succ, i64_w, i32_w]
                              rfl
                            refine take_ (i := 7) (N := some 35) (v := ?_) (a' := ?_) #[true, true, true, true, true, true, true, true, false, false, true, true, true, true, false, false, false, false, false] rfl rfl (take_ofW HT_.out HW_.out (by kernel_rfl)) (fun _ _ _ h => h) (Or.inl ⟨by rfl, ?_⟩) hHeld ?_ ?_
                            rotate_left
                            · rintro w' ⟨s0, s1, s2, s3⟩
                              go_simp
                              with_reducible rfl
                            rotate_left
                            · simp only [Act.put, List.setIfInBounds_toArray, List.set_cons_zero, List.set_cons_succ, i64_w, i32_w]
                              rfl
                            refine pure_ (i := 8) (N := some 36) (v := ?_) (a' := ?_) #[true, true, true, true, true, true, true, true, true, false, true, true, true, true, false, false, false, false, false] rfl rfl (any_of HT_.out (by kernel_rfl)) (fun _ _ _ h => h) (Or.inl ⟨by rfl, ?_⟩) ?_ ?_
                            rotate_left
                            · intro w'
                              go_simp
                              with_reducible rfl
                            rotate_left
                            · simp only [Act.put, List.setIfInBounds_toArray, List.set_cons_zero, List.set_cons_succ, i64_w, i32_w]
                              rfl
                            refine pure_ (i := 9) (N := some 37) (v := ?_) (a' := ?_) #[true, true, true, true, true, true, true, true, true, true, true, true, true, true, false, false, false, false, false] rfl rfl (any_of HT_.out (by kernel_rfl)) (fun _ _ _ h => h) (Or.inl ⟨by rfl, ?_⟩) ?_ ?_
                            rotate_left
                            · intro w'
                              go_simp
                              with_reducible rfl
                            rotate_left
                            · simp only [Act.put, List.setIfInBounds_toArray, List.set_cons_zero, List.set_cons_succ, i64_w, i32_w]
                              rfl
                            refine take_ (i := 14) (N := some 42) (v := ?_) (a' := ?_) #[true, true, true, true, true, true, true, true, true, true, true, true, true, true, true, false, false, false, false] rfl rfl (take_ofW HT_.out HW_.out (by kernel_rfl)) (fun _ _ _ h => h) (Or.inl ⟨by rfl, ?_⟩) hHeld ?_ ?_
                            rotate_left
                            · rintro w' ⟨s0, s1, s2, s3⟩
                              go_simp
                              with_reducible rfl
                            rotate_left
                            · simp only [Act.put, List.setIfInBounds_toArray, List.set_cons_zero, List.set_cons_succ, i64_w, i32_w]
                              rfl
                            refine one_ (i := 15) (N := some 43) #[true, true, true, true, true, true, true, true, true, true, true, true, true, true, true, true, false, false, false] rfl rfl (one_of HT_.out (by kernel_rfl)) (by decide) (fun K hK => ?_)
                            refine goes_ Try.func40 (by kernel_rfl) rfl #[.string ((rd_T33 t234 x7_2).f1)] (by rfl) rfl rfl (by (try simp only [List.map_toArray, List.map_cons, List.map_nil]); first | done | rfl | (simp only [List.length_drop, List.length_take]; rfl)) ?_
                            with_reducible refine (odometerref03_Escape.calls k2 ((rd_T33 t234 x7_2).f1) t239 _ A16.out).mono ?_
                            rintro e w21 ⟨rfl, hb⟩
                            have HS0_ := (hb.cell (World.block_lt_of_cell? _ _ (hHeld.1))).trans (hHeld.1)
                            have HS1_ := (hb.cell (World.block_lt_of_cell? _ _ (hHeld.2.1))).trans (hHeld.2.1)
                            have HS2_ := (hb.cell (World.block_lt_of_cell? _ _ (hHeld.2.2.1))).trans (hHeld.2.2.1)
                            have HS3_ := (hb.cell (World.block_lt_of_cell? _ _ (hHeld.2.2.2))).trans (hHeld.2.2.2)
                            refine ⟨_, rfl, ?_⟩
                            have n0_ := Aside0.mk (Kd.R_below (by (with_reducible repeat (first | apply Kd.R_alloc | apply Kd.R_drewN | apply Kd.R_drew)); exact HO_1.out) hb)
                            have n1_ := Aside0.mk (below_step (by repeat (first | (with_reducible first | exact HB.out | apply below_alloc | apply pw_below_drewN | apply below_drew1) | exact HB.out)) hb)
                            clear HO_1
                            clear HB
                            have HO_1 := n0_
                            have HB := n1_
                            clear n0_ n1_
                            (try clear hb)
                            (try clear hb2)
                            (try clear hk)
                            (try clear hi)
                            refine hK.out _ _ ⟨HS0_, HS1_, HS2_, HS3_⟩ (fun hHeld => ?_)
                            clear hK K
                            refine norm_ (a' := ?_) ?_ ?_
                            rotate_left
                            · show Act.put _ (some 43) _ = _
                              simp only [Act.put, List.setIfInBounds_toArray, List.set_cons_zero, List.set_cons_succ, i64_w, i32_w]
                              rfl
                            refine pure_ (i := 16) (N := some 44) (v := ?_) (a' := ?_) #[true, true, true, true, true, true, true, true, true, true, true, true, true, true, true, true, true, false, false] rfl rfl (any_of HT_.out (by kernel_rfl)) (fun _ _ _ h => h) (Or.inl ⟨by rfl, ?_⟩) ?_ ?_
                            rotate_left
                            · intro w'
                              go_simp
                              with_reducible rfl
                            rotate_left
                            · simp only [Act.put, List.setIfInBounds_toArray, List.set_cons_zero, List.set_cons_succ, i64_w, i32_w]
                              rfl
                            refine pure_ (i := 17) (N := some 45) (v := ?_) (a' := ?_) #[true, true, true, true, true, true, true, true, true, true, true, true, true, true, true, true, true, true, false] rfl rfl (any_of HT_.out (by kernel_rfl)) (fun _ _ _ h => h) (Or.inl ⟨by rfl, ?_⟩) ?_ ?_
                            rotate_left
                            · intro w'
                              go_simp
                              with_reducible rfl
                            rotate_left
                            · simp only [Act.put, List.setIfInBounds_toArray, List.set_cons_zero, List.set_cons_succ, i64_w, i32_w]
                              rfl
                            refine pure_ (i := 18) (N := some 6) (v := ?_) (a' := ?_) #[true, true, true, true, true, true, true, true, true, true, true, true, true, true, true, true, true, true, true] rfl rfl (any_of HT_.out (by kernel_rfl)) (fun _ _ _ h => h) (Or.inl ⟨by rfl, ?_⟩) ?_ ?_
                            rotate_left
                            · intro w'
                              go_simp
                              with_reducible rfl
                            rotate_left
                            · simp only [Act.put, List.setIfInBounds_toArray, List.set_cons_zero, List.set_cons_succ, i64_w, i32_w]
                              rfl
                            refine done_ (done_of HT_.out (by kernel_rfl)) ?_
                            try go_wp2
                            go_roundg k2
                            case measure => have := HJ2.out; have := HK2.out; omega
                            case rel => exact ⟨(((((x6_2 ++ (⟨#[123]⟩ : ByteArray)) ++ ((rd_T33 t234 x7_2).f0)) ++ (⟨#[61, 34]⟩ : ByteArray)) ++ t239) ++ (⟨#[34]⟩ : ByteArray)), (wrap64 (x7_2 + 1)), (by first | rfl | (simp; done) | (simp [*]; done)), (by first | rfl | (simp; done) | (simp [*]; done)), H', ⟨by have := HJ2.out; have := HK2.out; omega⟩, ⟨by (with_reducible repeat (first | apply Kd.R_alloc | apply Kd.R_drewN | apply Kd.R_drew)); exact HO_1.out⟩, ⟨by repeat (first | (with_reducible first | exact HB.out | apply below_alloc | apply pw_below_drewN | apply below_drew1) | exact HB.out)⟩⟩
                          · rw [if_neg c18] at H
                            exact absurd H (by simp)
                        · rw [if_neg c17] at H
                          exact absurd H (by simp)
                      · rw [if_neg c15] at H
                        exact absurd H (by simp)
                    · rw [if_neg c14] at H
                      exact absurd H (by simp)
                  · rw [if_neg c13] at H
                    exact absurd H (by simp)
                · rw [if_neg c12] at H
                  exact absurd H (by simp)
              · rw [if_neg c11] at H
                have c11b0 : (x7_2 == 0) = false := beq_eq_false_iff_ne.mpr c11
                have c11b1 : (x7_2 != 0) = true := bne_iff_ne.mpr c11
                by_cases c22 : x6_2.size + 1 ≤ 9223372036854775807
                · rw [if_pos c22] at H
                  have c22b0 := eq_true c22
                  have c22b1 : decide (x6_2.size + 1 ≤ 9223372036854775807) = true := decide_eq_true c22
                  try have c22b2 : (9223372036854775807 < x6_2.size + 1) = False := eq_false (Nat.not_lt.2 c22)
                  by_cases c23 : 0 ≤ x7_2
                  · rw [if_pos c23] at H
                    have c23b0 : decide (0 ≤ x7_2) = true := decide_eq_true c23
                    clear c23
                    by_cases c24 : (x6_2 ++ (⟨#[44]⟩ : ByteArray)).size + ((rd_T33 t234 x7_2).f0).size ≤ 9223372036854775807
                    · rw [if_pos c24] at H
                      have c24b0 := eq_true c24
                      have c24b1 : decide ((x6_2 ++ (⟨#[44]⟩ : ByteArray)).size + ((rd_T33 t234 x7_2).f0).size ≤ 9223372036854775807) = true := decide_eq_true c24
                      try have c24b2 : (9223372036854775807 < (x6_2 ++ (⟨#[44]⟩ : ByteArray)).size + ((rd_T33 t234 x7_2).f0).size) = False := eq_false (Nat.not_lt.2 c24)
                      try have c24b3 : (9223372036854775807 < x6_2.size + 1 + ((rd_T33 t234 x7_2).f0).size) = False := eq_false (by have h_ := c24; simp only [ByteArray.size_append] at h_; have z0_ : (⟨#[44]⟩ : ByteArray).size = 1 := rfl; omega)
                      by_cases c25 : ((x6_2 ++ (⟨#[44]⟩ : ByteArray)) ++ ((rd_T33 t234 x7_2).f0)).size + 2 ≤ 9223372036854775807
                      · rw [if_pos c25] at H
                        have c25b0 := eq_true c25
                        have c25b1 : decide (((x6_2 ++ (⟨#[44]⟩ : ByteArray)) ++ ((rd_T33 t234 x7_2).f0)).size + 2 ≤ 9223372036854775807) = true := decide_eq_true c25
                        try have c25b2 : (9223372036854775807 < ((x6_2 ++ (⟨#[44]⟩ : ByteArray)) ++ ((rd_T33 t234 x7_2).f0)).size + 2) = False := eq_false (Nat.not_lt.2 c25)
                        try have c25b3 : (9223372036854775807 < x6_2.size + 1 + ((rd_T33 t234 x7_2).f0).size + 2) = False := eq_false (by have h_ := c25; simp only [ByteArray.size_append] at h_; have z0_ : (⟨#[44]⟩ : ByteArray).size = 1 := rfl; omega)
                        replace H := Option.bind_eq_some_iff.mp H
                        obtain ⟨t242, A260, H⟩ := H
                        replace H : (if (((x6_2 ++ (⟨#[44]⟩ : ByteArray)) ++ ((rd_T33 t234 x7_2).f0)) ++ (⟨#[61, 34]⟩ : ByteArray)).size + t242.size ≤ 9223372036854775807 then (if ((((x6_2 ++ (⟨#[44]⟩ : ByteArray)) ++ ((rd_T33 t234 x7_2).f0)) ++ (⟨#[61, 34]⟩ : ByteArray)) ++ t242).size + 1 ≤ 9223372036854775807 then (odometerref03_Name.l0 k2 t234 (((((x6_2 ++ (⟨#[44]⟩ : ByteArray)) ++ ((rd_T33 t234 x7_2).f0)) ++ (⟨#[61, 34]⟩ : ByteArray)) ++ t242) ++ (⟨#[34]⟩ : ByteArray)) (wrap64 (x7_2 + 1))) else (none)) else (none)) = some (r1, r2) := H
                        have A26 := Aside0.mk A260
                        clear A260
                        by_cases c27 : (((x6_2 ++ (⟨#[44]⟩ : ByteArray)) ++ ((rd_T33 t234 x7_2).f0)) ++ (⟨#[61, 34]⟩ : ByteArray)).size + t242.size ≤ 9223372036854775807
                        · rw [if_pos c27] at H
                          have c27b0 := eq_true c27
                          have c27b1 : decide ((((x6_2 ++ (⟨#[44]⟩ : ByteArray)) ++ ((rd_T33 t234 x7_2).f0)) ++ (⟨#[61, 34]⟩ : ByteArray)).size + t242.size ≤ 9223372036854775807) = true := decide_eq_true c27
                          try have c27b2 : (9223372036854775807 < (((x6_2 ++ (⟨#[44]⟩ : ByteArray)) ++ ((rd_T33 t234 x7_2).f0)) ++ (⟨#[61, 34]⟩ : ByteArray)).size + t242.size) = False := eq_false (Nat.not_lt.2 c27)
                          try have c27b3 : (9223372036854775807 < x6_2.size + 1 + ((rd_T33 t234 x7_2).f0).size + 2 + t242.size) = False := eq_false (by have h_ := c27; simp only [ByteArray.size_append] at h_; have z0_ : (⟨#[44]⟩ : ByteArray).size = 1 := rfl; have z1_ : (⟨#[61, 34]⟩ : ByteArray).size = 2 := rfl; omega)
                          by_cases c28 : ((((x6_2 ++ (⟨#[44]⟩ : ByteArray)) ++ ((rd_T33 t234 x7_2).f0)) ++ (⟨#[61, 34]⟩ : ByteArray)) ++ t242).size + 1 ≤ 9223372036854775807
                          · rw [if_pos c28] at H
                            have c28b0 := eq_true c28
                            have c28b1 : decide (((((x6_2 ++ (⟨#[44]⟩ : ByteArray)) ++ ((rd_T33 t234 x7_2).f0)) ++ (⟨#[61, 34]⟩ : ByteArray)) ++ t242).size + 1 ≤ 9223372036854775807) = true := decide_eq_true c28
                            try have c28b2 : (9223372036854775807 < ((((x6_2 ++ (⟨#[44]⟩ : ByteArray)) ++ ((rd_T33 t234 x7_2).f0)) ++ (⟨#[61, 34]⟩ : ByteArray)) ++ t242).size + 1) = False := eq_false (Nat.not_lt.2 c28)
                            try have c28b3 : (9223372036854775807 < x6_2.size + 1 + ((rd_T33 t234 x7_2).f0).size + 2 + t242.size + 1) = False := eq_false (by have h_ := c28; simp only [ByteArray.size_append] at h_; have z0_ : (⟨#[44]⟩ : ByteArray).size = 1 := rfl; have z1_ : (⟨#[61, 34]⟩ : ByteArray).size = 2 := rfl; omega)
                            have H' := Aside0.mk H
                            clear H
                            obtain ⟨Ao29, co29, eo29⟩ := Kd.R_slice HO_1.out
                            subst eo29
                            try go_wp2
                            have n0_ := Aside0.mk (Kd.R_drew HO_1.out)
                            have n1_ := Aside0.mk (below_drew1 HB.out)
                            clear HO_1
                            clear HB
                            have HO_1 := n0_
                            have HB := n1_
                            clear n0_ n1_
                            have p240 : 0 ≤ (x7_2 : Int) := of_decide_eq_true (by first | (with_reducible assumption) | assumption)
                            have q240 : x7_2 < (t234.length : Int) := of_decide_eq_true (by first | (with_reducible assumption) | assumption)
                            (try (obtain ⟨Ax240_, cx240_, ex240_⟩ := Kd.R_slice HO_1.out; subst ex240_))
                            obtain ⟨ad240, e240, hx240_0, hx240_1⟩ := at_T33 (Kd.R_reads' HO_1.out).2.2 x7_2 p240 q240
                            cases e240
                            replace p240 := eq_true p240
                            replace q240 := eq_true q240
                            have p241 : 0 ≤ (x7_2 : Int) := of_decide_eq_true (by first | (with_reducible assumption) | assumption)
                            have q241 : x7_2 < (t234.length : Int) := of_decide_eq_true (by first | (with_reducible assumption) | assumption)
                            (try (obtain ⟨Ax241_, cx241_, ex241_⟩ := Kd.R_slice HO_1.out; subst ex241_))
                            obtain ⟨ad241, e241, hx241_0, hx241_1⟩ := at_T33 (Kd.R_reads' HO_1.out).2.2 x7_2 p241 q241
                            obtain rfl : ad240 = ad241 := (by injection e241)
                            replace p241 := eq_true p241
                            replace q241 := eq_true q241
                            refine start_ (n := 19) (S := fun w' => w'.cell? (ad240.add ((x7_2).toNat * 2)) = some (.string ((rd_T33 t234 x7_2).f0)) ∧ w'.cell? ⟨(ad240.add ((x7_2).toNat * 2)).block, (ad240.add ((x7_2).toNat * 2)).off + 1, none⟩ = some (.string ((rd_T33 t234 x7_2).f1)) ∧ w'.cell? (ad240.add ((x7_2).toNat * 2)) = some (.string ((rd_T33 t234 x7_2).f0)) ∧ w'.cell? ⟨(ad240.add ((x7_2).toNat * 2)).block, (ad240.add ((x7_2).toNat * 2)).off + 1, none⟩ = some (.string ((rd_T33 t234 x7_2).f1))) (ds := []) #[false, false, false, false, false, false, false, false, false, false, false, false, false, false, false, false, false, false, false] (by kernel_rfl) rfl rfl ⟨hx240_0, hx240_1, hx241_0, hx241_1⟩ (fun hHeld => ?_); refine with_tabW odometerref03_Name.tab11 odometerref03_Name.bits11 (fun HT_ HW_ => ?_)
                            generalize wr.drew = w30 at HO_1 HB hx240_0 hx240_1 hx241_0 hx241_1 hHeld ⊢
                            refine pure_ (i := 0) (N := some 28) (v := ?_) (a' := ?_) #[true, false, false, false, false, false, false, false, false, false, false, false, false, false, false, false, false, false, false] rfl rfl (any_of HT_.out (by kernel_rfl)) (fun _ _ _ h => h) (Or.inl ⟨by rfl, ?_⟩) ?_ ?_
                            rotate_left
                            · intro w'
                              go_simp
                              with_reducible rfl
                            rotate_left
                            · simp only [Act.put, List.setIfInBounds_toArray, List.set_cons_zero, List.set_cons_succ, i64_w, i32_w]
                              rfl
                            refine pure_ (i := 1) (N := some 29) (v := ?_) (a' := ?_) #[true, true, false, false, false, false, false, false, false, false, false, false, false, false, false, false, false, false, false] rfl rfl (any_of HT_.out (by kernel_rfl)) (fun _ _ _ h => h) (Or.inl ⟨by rfl, ?_⟩) ?_ ?_
                            rotate_left
                            · intro w'
                              go_simp
                              with_reducible rfl
                            rotate_left
                            · simp only [Act.put, List.setIfInBounds_toArray, List.set_cons_zero, List.set_cons_succ, i64_w, i32_w]
                              rfl
                            refine pure_ (i := 2) (N := some 30) (v := ?_) (a' := ?_) #[true, true, true, false, false, false, false, false, false, false, false, false, false, false, false, false, false, false, false] rfl rfl (any_of HT_.out (by kernel_rfl)) (fun _ _ _ h => h) (Or.inl ⟨by rfl, ?_⟩) ?_ ?_
                            rotate_left
                            · intro w'
                              go_simp
                              with_reducible rfl
                            rotate_left
                            · simp only [Act.put, List.setIfInBounds_toArray, List.set_cons_zero, List.set_cons_succ, i64_w, i32_w]
                              rfl
                            refine pure_ (i := 3) (N := some 31) (v := ?_) (a' := ?_) #[true, true, true, true, false, false, false, false, false, false, false, false, false, false, false, false, false, false, false] rfl rfl (any_of HT_.out (by kernel_rfl)) (fun _ _ _ h => h) (Or.inl ⟨by rfl, ?_⟩) ?_ ?_
                            rotate_left
                            · intro w'
                              go_simp
                              with_reducible rfl
                            rotate_left
                            · simp only [Act.put, List.setIfInBounds_toArray, List.set_cons_zero, List.set_cons_succ, i64_w, i32_w]
                              rfl
                            refine pure_ (i := 4) (N := some 32) (v := ?_) (a' := ?_) #[true, true, true, true, true, false, false, false, false, false, false, false, false, false, false, false, false, false, false] rfl rfl (any_of HT_.out (by kernel_rfl)) (fun _ _ _ h => h) (Or.inl ⟨by rfl, ?_⟩) ?_ ?_
                            rotate_left
                            · intro w'
                              go_simp
                              with_reducible rfl
                            rotate_left
                            · simp only [Act.put, List.setIfInBounds_toArray, List.set_cons_zero, List.set_cons_succ, i64_w, i32_w]
                              rfl
                            refine pure_ (i := 5) (N := some 33) (v := ?_) (a' := ?_) #[true, true, true, true, true, true, false, false, false, false, false, false, false, false, false, false, false, false, false] rfl rfl (any_of HT_.out (by kernel_rfl)) (fun _ _ _ h => h) (Or.inl ⟨by rfl, ?_⟩) ?_ ?_
                            rotate_left
                            · intro w'
                              go_simp
                              with_reducible rfl
                            rotate_left
                            · simp only [Act.put, List.setIfInBounds_toArray, List.set_cons_zero, List.set_cons_succ, i64_w, i32_w]
                              rfl
                            refine pure_ (i := 6) (N := some 34) (v := ?_) (a' := ?_) #[true, true, true, true, true, true, true, false, false, false, false, false, false, false, false, false, false, false, false] rfl rfl (any_of HT_.out (by kernel_rfl)) (fun _ _ _ h => h) (Or.inl ⟨by rfl, ?_⟩) ?_ ?_
                            rotate_left
                            · intro w'
                              go_simp
                              with_reducible rfl
                            rotate_left
                            · simp only [Act.put, List.setIfInBounds_toArray, List.set_cons_zero, List.set_cons_succ, i64_w, i32_w]
                              rfl
                            refine pure_ (i := 10) (N := some 38) (v := ?_) (a' := ?_) #[true, true, true, true, true, true, true, false, false, false, true, false, false, false, false, false, false, false, false] rfl rfl (any_of HT_.out (by kernel_rfl)) (fun _ _ _ h => h) (Or.inl ⟨by rfl, ?_⟩) ?_ ?_
                            rotate_left
                            · intro w'
                              go_simp
                              with_reducible rfl
                            rotate_left
                            · simp only [Act.put, List.setIfInBounds_toArray, List.set_cons_zero, List.set_cons_succ, i64_w, i32_w]
                              rfl
                            refine pure_ (i := 11) (N := some 39) (v := ?_) (a' := ?_) #[true, true, true, true, true, true, true, false, false, false, true, true, false, false, false, false, false, false, false] rfl rfl (any_of HT_.out (by kernel_rfl)) (fun _ _ _ h => h) (Or.inl ⟨by rfl, ?_⟩) ?_ ?_
                            rotate_left
                            · intro w'
                              go_simp
                              with_reducible rfl
                            rotate_left
                            · simp only [Act.put, List.setIfInBounds_toArray, List.set_cons_zero, List.set_cons_succ, i64_w, i32_w]
                              rfl
                            refine pure_ (i := 12) (N := some 40) (v := ?_) (a' := ?_) #[true, true, true, true, true, true, true, false, false, false, true, true, true, false, false, false, false, false, false] rfl rfl (any_of HT_.out (by kernel_rfl)) (fun _ _ _ h => h) (Or.inl ⟨by rfl, ?_⟩) ?_ ?_
                            rotate_left
                            · intro w'
                              go_simp
                              with_reducible rfl
                            rotate_left
                            · simp only [Act.put, List.setIfInBounds_toArray, List.set_cons_zero, List.set_cons_succ, i64_w, i32_w]
                              rfl
                            refine pure_ (i := 13) (N := some 41) (v := ?_) (a' := ?_) #[true, true, true, true, true, true, true, false, false, false, true, true, true, true, false, false, false, false, false] rfl rfl (any_of HT_.out (by kernel_rfl)) (fun _ _ _ h => h) (Or.inl ⟨by rfl, ?_⟩) ?_ ?_
                            rotate_left
                            · intro w'
                              go_simp
                              with_reducible rfl
                            rotate_left
                            · simp only [Act.put, List.setIfInBounds_toArray, List.set_cons_zero, List.set_cons_succ, i64_w, i32_w]
                              rfl
                            refine take_ (i := 7) (N := some 35) (v := ?_) (a' := ?_) #[true, true, true, true, true, true, true, true, false, false, true, true, true, true, false, false, false, false, false] rfl rfl (take_ofW HT_.out HW_.out (by kernel_rfl)) (fun _ _ _ h => h) (Or.inl ⟨by rfl, ?_⟩) hHeld ?_ ?_
                            rotate_left
                            · rintro w' ⟨s0, s1, s2, s3⟩
                              go_simp
                              with_reducible rfl
                            rotate_left
                            · simp only [Act.put, List.setIfInBounds_toArray, List.set_cons_zero, List.set_cons_succ, i64_w, i32_w]
                              rfl
                            refine pure_ (i := 8) (N := some 36) (v := ?_) (a' := ?_) #[true, true, true, true, true, true, true, true, true, false, true, true, true, true, false, false, false, false, false] rfl rfl (any_of HT_.out (by kernel_rfl)) (fun _ _ _ h => h) (Or.inl ⟨by rfl, ?_⟩) ?_ ?_
                            rotate_left
                            · intro w'
                              go_simp
                              with_reducible rfl
                            rotate_left
                            · simp only [Act.put, List.setIfInBounds_toArray, List.set_cons_zero, List.set_cons_succ, i64_w, i32_w]
                              rfl
                            refine pure_ (i := 9) (N := some 37) (v := ?_) (a' := ?_) #[true, true, true, true, true, true, true, true, true, true, true, true, true, true, false, false, false, false, false] rfl rfl (any_of HT_.out (by kernel_rfl)) (fun _ _ _ h => h) (Or.inl ⟨by rfl, ?_⟩) ?_ ?_
                            rotate_left
                            · intro w'
                              go_simp
                              with_reducible rfl
                            rotate_left
                            · simp only [Act.put, List.setIfInBounds_toArray, List.set_cons_zero, List.set_cons_succ, i64_w, i32_w]
                              rfl
                            refine take_ (i := 14) (N := some 42) (v := ?_) (a' := ?_) #[true, true, true, true, true, true, true, true, true, true, true, true, true, true, true, false, false, false, false] rfl rfl (take_ofW HT_.out HW_.out (by kernel_rfl)) (fun _ _ _ h => h) (Or.inl ⟨by rfl, ?_⟩) hHeld ?_ ?_
                            rotate_left
                            · rintro w' ⟨s0, s1, s2, s3⟩
                              go_simp
                              with_reducible rfl
                            rotate_left
                            · simp only [Act.put, List.setIfInBounds_toArray, List.set_cons_zero, List.set_cons_succ, i64_w, i32_w]
                              rfl
                            refine one_ (i := 15) (N := some 43) #[true, true, true, true, true, true, true, true, true, true, true, true, true, true, true, true, false, false, false] rfl rfl (one_of HT_.out (by kernel_rfl)) (by decide) (fun K hK => ?_)
                            refine goes_ Try.func40 (by kernel_rfl) rfl #[.string ((rd_T33 t234 x7_2).f1)] (by rfl) rfl rfl (by (try simp only [List.map_toArray, List.map_cons, List.map_nil]); first | done | rfl | (simp only [List.length_drop, List.length_take]; rfl)) ?_
                            with_reducible refine (odometerref03_Escape.calls k2 ((rd_T33 t234 x7_2).f1) t242 _ A26.out).mono ?_
                            rintro e w31 ⟨rfl, hb⟩
                            have HS0_ := (hb.cell (World.block_lt_of_cell? _ _ (hHeld.1))).trans (hHeld.1)
                            have HS1_ := (hb.cell (World.block_lt_of_cell? _ _ (hHeld.2.1))).trans (hHeld.2.1)
                            have HS2_ := (hb.cell (World.block_lt_of_cell? _ _ (hHeld.2.2.1))).trans (hHeld.2.2.1)
                            have HS3_ := (hb.cell (World.block_lt_of_cell? _ _ (hHeld.2.2.2))).trans (hHeld.2.2.2)
                            refine ⟨_, rfl, ?_⟩
                            have n0_ := Aside0.mk (Kd.R_below (by (with_reducible repeat (first | apply Kd.R_alloc | apply Kd.R_drewN | apply Kd.R_drew)); exact HO_1.out) hb)
                            have n1_ := Aside0.mk (below_step (by repeat (first | (with_reducible first | exact HB.out | apply below_alloc | apply pw_below_drewN | apply below_drew1) | exact HB.out)) hb)
                            clear HO_1
                            clear HB
                            have HO_1 := n0_
                            have HB := n1_
                            clear n0_ n1_
                            (try clear hb)
                            (try clear hb2)
                            (try clear hk)
                            (try clear hi)
                            refine hK.out _ _ ⟨HS0_, HS1_, HS2_, HS3_⟩ (fun hHeld => ?_)
                            clear hK K
                            refine norm_ (a' := ?_) ?_ ?_
                            rotate_left
                            · show Act.put _ (some 43) _ = _
                              simp only [Act.put, List.setIfInBounds_toArray, List.set_cons_zero, List.set_cons_succ, i64_w, i32_w]
                              rfl
                            refine pure_ (i := 16) (N := some 44) (v := ?_) (a' := ?_) #[true, true, true, true, true, true, true, true, true, true, true, true, true, true, true, true, true, false, false] rfl rfl (any_of HT_.out (by kernel_rfl)) (fun _ _ _ h => h) (Or.inl ⟨by rfl, ?_⟩) ?_ ?_
                            rotate_left
                            · intro w'
                              go_simp
                              with_reducible rfl
                            rotate_left
                            · simp only [Act.put, List.setIfInBounds_toArray, List.set_cons_zero, List.set_cons_succ, i64_w, i32_w]
                              rfl
                            refine pure_ (i := 17) (N := some 45) (v := ?_) (a' := ?_) #[true, true, true, true, true, true, true, true, true, true, true, true, true, true, true, true, true, true, false] rfl rfl (any_of HT_.out (by kernel_rfl)) (fun _ _ _ h => h) (Or.inl ⟨by rfl, ?_⟩) ?_ ?_
                            rotate_left
                            · intro w'
                              go_simp
                              with_reducible rfl
                            rotate_left
                            · simp only [Act.put, List.setIfInBounds_toArray, List.set_cons_zero, List.set_cons_succ, i64_w, i32_w]
                              rfl
                            refine pure_ (i := 18) (N := some 6) (v := ?_) (a' := ?_) #[true, true, true, true, true, true, true, true, true, true, true, true, true, true, true, true, true, true, true] rfl rfl (any_of HT_.out (by kernel_rfl)) (fun _ _ _ h => h) (Or.inl ⟨by rfl, ?_⟩) ?_ ?_
                            rotate_left
                            · intro w'
                              go_simp
                              with_reducible rfl
                            rotate_left
                            · simp only [Act.put, List.setIfInBounds_toArray, List.set_cons_zero, List.set_cons_succ, i64_w, i32_w]
                              rfl
                            refine done_ (done_of HT_.out (by kernel_rfl)) ?_
                            try go_wp2
                            go_roundg k2
                            case measure => have := HJ2.out; have := HK2.out; omega
                            case rel => exact ⟨(((((x6_2 ++ (⟨#[44]⟩ : ByteArray)) ++ ((rd_T33 t234 x7_2).f0)) ++ (⟨#[61, 34]⟩ : ByteArray)) ++ t242) ++ (⟨#[34]⟩ : ByteArray)), (wrap64 (x7_2 + 1)), (by first | rfl | (simp; done) | (simp [*]; done)), (by first | rfl | (simp; done) | (simp [*]; done)), H', ⟨by have := HJ2.out; have := HK2.out; omega⟩, ⟨by (with_reducible repeat (first | apply Kd.R_alloc | apply Kd.R_drewN | apply Kd.R_drew)); exact HO_1.out⟩, ⟨by repeat (first | (with_reducible first | exact HB.out | apply below_alloc | apply pw_below_drewN | apply below_drew1) | exact HB.out)⟩⟩
                          · rw [if_neg c28] at H
                            exact absurd H (by simp)
                        · rw [if_neg c27] at H
                          exact absurd H (by simp)
                      · rw [if_neg c25] at H
                        exact absurd H (by simp)
                    · rw [if_neg c24] at H
                      exact absurd H (by simp)
                  · rw [if_neg c23] at H
                    exact absurd H (by simp)
                · rw [if_neg c22] at H
                  exact absurd H (by simp)
            · rw [if_neg c10] at H
              have c10b0 : decide (x7_2 < (t234.length : Int)) = false := decide_eq_false c10
              clear c10
              by_cases c32 : (t234.length : Int) > 0
              · rw [if_pos c32] at H
                have c32b0 : decide (0 < (t234.length : Int)) = true := decide_eq_true c32
                have c32b1 : decide (0 < t234.length) = true := decide_eq_true (by omega)
                clear c32
                by_cases c33 : x6_2.size + 1 ≤ 9223372036854775807
                · rw [if_pos c33] at H
                  have c33b0 := eq_true c33
                  have c33b1 : decide (x6_2.size + 1 ≤ 9223372036854775807) = true := decide_eq_true c33
                  try have c33b2 : (9223372036854775807 < x6_2.size + 1) = False := eq_false (Nat.not_lt.2 c33)
                  simp only [Option.some.injEq, Prod.mk.injEq] at H
                  obtain ⟨rfl, rfl⟩ := H
                  obtain ⟨Ao34, co34, eo34⟩ := Kd.R_slice HO_1.out
                  subst eo34
                  go_wp2
                  go_ret2
                  exact ⟨by first | rfl | (simp [errW_none, errW_some] <;> rfl) | (simp [*, errW_none, errW_some] <;> rfl), by repeat (first | (with_reducible first | exact HB.out | apply below_alloc | apply pw_below_drewN | apply below_drew1) | exact HB.out)⟩
                · rw [if_neg c33] at H
                  exact absurd H (by simp)
              · rw [if_neg c32] at H
                have c32b0 : decide (0 < (t234.length : Int)) = false := decide_eq_false c32
                have c32b1 : decide (0 < t234.length) = false := decide_eq_false (by omega)
                clear c32
                simp only [Option.some.injEq, Prod.mk.injEq] at H
                obtain ⟨rfl, rfl⟩ := H
                obtain ⟨Ao35, co35, eo35⟩ := Kd.R_slice HO_1.out
                subst eo35
                go_wp2
                go_ret2
                exact ⟨by first | rfl | (simp [errW_none, errW_some] <;> rfl) | (simp [*, errW_none, errW_some] <;> rfl), by repeat (first | (with_reducible first | exact HB.out | apply below_alloc | apply pw_below_drewN | apply below_drew1) | exact HB.out)⟩

/-! ### odometerref13_Name: function 14 -/
def odometerref13_Name.f (k : Nat) (a0 : ByteArray) (a1_0 : ByteArray) (a1_1 : ByteArray) (a1_2 : ByteArray) (a1_3 : Int) (a1_4 : Int) : Option (ByteArray) := (odometerref03_Name.f k a0 (([(⟨(⟨#[106, 111, 98]⟩ : ByteArray), a1_0⟩ : S33), (⟨(⟨#[105, 110, 115, 116, 97, 110, 99, 101]⟩ : ByteArray), a1_1⟩ : S33)] : List (S33)))).bind fun bt247 => (some bt247.1)
theorem odometerref13_Name.mono : ∀ a0 a1 a2 a3 a4 a5 k, LeO (odometerref13_Name.f k a0 a1 a2 a3 a4 a5) (odometerref13_Name.f (k + 1) a0 a1 a2 a3 a4 a5) := by
  intro a0 a1 a2 a3 a4 a5 k
  unfold odometerref13_Name.f
  repeat' first
      | (with_reducible exact odometerref03_Name.mono _ _ _)
      | (with_reducible exact LeO.refl _)
      | (with_reducible exact LeO.none _)
      | (with_reducible refine LeO.ite ?_ ?_)
      | (with_reducible refine LeO.bind ?_ (fun _ => ?_))
      | exact odometerref03_Name.mono _ _ _
      | exact LeO.none _
      | refine LeO.ite ?_ ?_
      | refine LeO.bind ?_ (fun _ => ?_)
set_option maxHeartbeats 8000000 in
set_option maxRecDepth 100000 in
theorem odometerref13_Name.calls (k : Nat) (a0 : ByteArray) (a1_0 : ByteArray) (a1_1 : ByteArray) (a1_2 : ByteArray) (a1_3 : Int) (a1_4 : Int) (r : ByteArray) (w : World) (h : odometerref13_Name.f k a0 a1_0 a1_1 a1_2 a1_3 a1_4 = some r) :
    Calls Try.prog 14 #[.string a0, .agg #[.string a1_0, .string a1_1, .string a1_2, .int .i64 a1_3, .int .i64 a1_4]] w fun e w' => e = .returned (.string r) ∧ Below w.heap.size w w' := by
  have hu23 := Try.underlying23
  have hu33 := Try.underlying33
  have HB := Aside0.mk (Below.refl w.heap.size w)
  have H : ((odometerref03_Name.f k a0 (([(⟨(⟨#[106, 111, 98]⟩ : ByteArray), a1_0⟩ : S33), (⟨(⟨#[105, 110, 115, 116, 97, 110, 99, 101]⟩ : ByteArray), a1_1⟩ : S33)] : List (S33)))).bind fun bt247 => (some bt247.1)) = some r := h
  clear h
  obtain ⟨y244, hy244⟩ : ∃ y_ : List (S33), y_ = (([(⟨(⟨#[106, 111, 98]⟩ : ByteArray), a1_0⟩ : S33), (⟨(⟨#[105, 110, 115, 116, 97, 110, 99, 101]⟩ : ByteArray), a1_1⟩ : S33)] : List (S33))) := ⟨_, rfl⟩
  replace H : ((odometerref03_Name.f k a0 y244).bind fun bt247 => (some bt247.1)) = some r := by first | (rw [hy244]; with_reducible exact H) | (have H2_ := (Option.bind_some _ _).symm.trans H; rw [hy244]; with_reducible exact H2_) | (have H2_ := (Option.bind_some _ _).symm.trans H; with_reducible exact H2_) | with_reducible exact H | (rw [hy244]; exact H) | exact H
  have Ny244 := Aside0.mk hy244
  clear hy244
  replace H := Option.bind_eq_some_iff.mp H
  obtain ⟨⟨t247, t248⟩, A30, H⟩ := H
  replace H : (some t247) = some r := H
  have A3 := Aside0.mk A30
  clear A30
  obtain rfl := Option.some.inj H
  go_enter Try.func14, Try.ntmps14
  go_wp2_with (first | ((with_reducible refine gate_dst (N := 3) rfl ?_); refine box_event ?hg (N := 3) ?hd (cs := #[.string a1_0, .string a1_1, .string a1_2, .int .i64 a1_3, .int .i64 a1_4]) (t := 23) ?hr ?_; (case hd => rfl); (case hg => rfl); (case hr => first | (go_simp; done) | (go_simp; rfl)); intro gb243 hg w4 hbox hb; have n0_ := Aside0.mk (below_step (by repeat (first | (with_reducible first | exact HB.out | apply below_alloc | apply pw_below_drewN | apply below_drew1) | exact HB.out)) hb); have n1_ := Aside0.mk (hbox); have n2_ := Aside0.mk ((by rw [hg]; exact (below_size (by repeat (first | (with_reducible first | exact HB.out | apply below_alloc | apply pw_below_drewN | apply below_drew1) | exact HB.out))) : w.heap.size ≤ gb243)); have n3_ := Aside0.mk ((by rw [hg]; exact (below_size (by repeat (first | (with_reducible first | exact HB.out | apply below_alloc | apply pw_below_drewN | apply below_drew1) | exact HB.out))) : w.heap.size ≤ gb243)); clear HB; have HB := n0_; have BK243 := n1_; have GW243 := n2_; have GE243 := n3_; clear n0_ n1_ n2_ n3_; clear hb hbox hg; have hcz5_0 : w4.cell? ⟨gb243, 0, none⟩ = some (.string a1_0) := (blk_cell BK243.out 0).trans rfl; have hcz5_1 : w4.cell? ⟨gb243, 1, none⟩ = some (.string a1_1) := (blk_cell BK243.out 1).trans rfl; have hcz5_2 : w4.cell? ⟨gb243, 2, none⟩ = some (.string a1_2) := (blk_cell BK243.out 2).trans rfl; have hcz5_3 : w4.cell? ⟨gb243, 3, none⟩ = some (.int .i64 a1_3) := (blk_cell BK243.out 3).trans rfl; have hcz5_4 : w4.cell? ⟨gb243, 4, none⟩ = some (.int .i64 a1_4) := (blk_cell BK243.out 4).trans rfl; have hfz5_0 := blk_frozen BK243.out 0; have hfz5_1 := blk_frozen BK243.out 1; have hfz5_2 := blk_frozen BK243.out 2; have hfz5_3 := blk_frozen BK243.out 3; have hfz5_4 := blk_frozen BK243.out 4) | ((with_reducible refine gate_dst (N := 15) rfl ?_); refine Kd.R_lit k33 _ 33 ?hg (N := 15) ?hd (xs := ([(⟨(⟨#[106, 111, 98]⟩ : ByteArray), a1_0⟩ : S33), (⟨(⟨#[105, 110, 115, 116, 97, 110, 99, 101]⟩ : ByteArray), a1_1⟩ : S33)] : List (S33))) (inner := [.string (⟨#[106, 111, 98]⟩ : ByteArray), .string a1_0, .string (⟨#[105, 110, 115, 116, 97, 110, 99, 101]⟩ : ByteArray), .string a1_1]) (ok := fun _ => True) (okp := fun _ => True) ?hr ?hp (fun _ hk => hk) trivial (Below.refl _ _) (Nat.le_refl _) (by simp) ?_; (case hd => rfl); (case hg => rfl); (case hr => first | (go_simp; done) | (go_simp; rfl)); (case hp => exact (Reps.c2 (show Kd.M k33 _ _ _ (⟨(⟨#[106, 111, 98]⟩ : ByteArray), a1_0⟩ : S33) [.string (⟨#[106, 111, 98]⟩ : ByteArray), .string a1_0] from (k33_mkM _ _ _ (⟨(⟨#[106, 111, 98]⟩ : ByteArray), a1_0⟩ : S33) )) (Reps.c2 (show Kd.M k33 _ _ _ (⟨(⟨#[105, 110, 115, 116, 97, 110, 99, 101]⟩ : ByteArray), a1_1⟩ : S33) [.string (⟨#[105, 110, 115, 116, 97, 110, 99, 101]⟩ : ByteArray), .string a1_1] from (k33_mkM _ _ _ (⟨(⟨#[105, 110, 115, 116, 97, 110, 99, 101]⟩ : ByteArray), a1_1⟩ : S33) )) (Reps.none _ _)))); intro v245 w6 ho7 hb hg_ hnew_; clear hg_ hnew_; (first | rw [← Ny244.out] at ho7 | (simp only [Int.reduceToNat] at ho7; rw [← Ny244.out] at ho7)); have n0_ := Aside0.mk (Kd.R_lower ho7 (below_size (by repeat (first | (with_reducible first | exact HB.out | apply below_alloc | apply pw_below_drewN | apply below_drew1 | refine below_set ?_ GE243.out) | exact HB.out)))); have n1_ := Aside0.mk (blk_below (g := gb243) (o := .cells #[.string a1_0, .string a1_1, .string a1_2, .int .i64 a1_3, .int .i64 a1_4] 23 (0, 0)) (by (with_reducible repeat (first | refine blk_drewN ?_ _ | refine blk_drew ?_ | refine blk_alloc ?_ _)); exact BK243.out) hb); have n2_ := Aside0.mk (below_step (by repeat (first | (with_reducible first | exact HB.out | apply below_alloc | apply pw_below_drewN | apply below_drew1 | refine below_set ?_ GE243.out) | exact HB.out)) hb); clear BK243; clear HB; have HO246 := n0_; have BK243 := n1_; have HB := n2_; clear n0_ n1_ n2_; clear hb ho7; obtain ⟨Ao8, co8, eo8⟩ := Kd.R_slice HO246.out; subst eo8) | ((with_reducible refine gate_callee (f := 24) rfl ?_); refine goesL_ (some 16) rfl rfl Try.func24 (by kernel_rfl) rfl #[.string a0, .slice Ao8 y244.length co8] rfl (by (try simp only [List.map_toArray, List.map_cons, List.map_nil]); first | done | rfl | (simp only [List.length_drop, List.length_take]; rfl)) ?_; (with_reducible refine (odometerref03_Name.calls k a0 _ _ y244 t247 t248 _ ?side1 ?side2 A3.out).mono ?_); (case side1 => repeat (first | exact (Kd.R_reads' HO246.out).2.2 | (with_reducible refine Kd.C_alloc ?_ _) | (with_reducible refine Kd.C_drewN ?_ _) | (with_reducible refine Kd.C_drew ?_))); (case side2 => exact (Kd.R_reads' HO246.out).2.1); rintro e w9 ⟨rfl, hb⟩; refine ⟨_, rfl, ?_⟩; have n0_ := Aside0.mk (Kd.R_below (by (with_reducible repeat (first | apply Kd.R_alloc | apply Kd.R_drewN | apply Kd.R_drew)); exact HO246.out) hb); have n1_ := Aside0.mk (blk_below (g := gb243) (o := .cells #[.string a1_0, .string a1_1, .string a1_2, .int .i64 a1_3, .int .i64 a1_4] 23 (0, 0)) (by (with_reducible repeat (first | refine blk_drewN ?_ _ | refine blk_drew ?_ | refine blk_alloc ?_ _)); exact BK243.out) hb); have n2_ := Aside0.mk (below_step (by repeat (first | (with_reducible first | exact HB.out | apply below_alloc | apply pw_below_drewN | apply below_drew1 | refine below_set ?_ GE243.out) | exact HB.out)) hb); clear HO246; clear BK243; clear HB; have HO246 := n0_; have BK243 := n1_; have HB := n2_; clear n0_ n1_ n2_; (try clear hb); (try clear hb2); (try clear hk); (try clear hi)))
  go_ret
  exact ⟨by first | rfl | (simp [errW_none, errW_some] <;> rfl) | (simp [*, errW_none, errW_some] <;> rfl), by repeat (first | (with_reducible first | exact HB.out | apply below_alloc | apply pw_below_drewN | apply below_drew1 | refine below_set ?_ GE243.out) | exact HB.out)⟩

end Go.Proofs.Ytedchpflcemdkaa.PNms
