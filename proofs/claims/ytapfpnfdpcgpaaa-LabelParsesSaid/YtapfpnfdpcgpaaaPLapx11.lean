-- Printed for this claim by a program of the session (print2.py), out of the translation; Lean checks it.
import Derived.Test.YtapfpnfdpcgpaaaPLapx0
import Derived.Test.YtapfpnfdpcgpaaaPLapx2
import Derived.Test.YtapfpnfdpcgpaaaPLapx4
import Derived.Test.YtapfpnfdpcgpaaaPLapx9
import Derived.Test.YtapfpnfdpcgpaaaPLapx10
namespace Go.Proofs.Ytapfpnfdpcgpaaa.PLap
open Go.RowKit Go.Proofs.YtapfpnfdpcgpaaaW.PrintWords Go.Proofs.YtapfpnfdpcgpaaaW.PrintLast Go.Proofs.YtapfpnfdpcgpaaaW.PrintMore
set_option linter.unusedVariables false
set_option linter.unusedSimpArgs false

/-! ### odometerlaw03_LabelParses: function 7 -/
mutual
def odometerlaw03_LabelParses.j0 : Nat → ByteArray → List (S45) → List ByteArray → Bool → Option (Bool)
  | 0, _, _, _, _ => none
  | k + 1, x0, x1, x2, x33 => if x33 = true then ((odometerlaw03_known.f k).bind fun t322 => (some t322)) else ((label_Parse.f k x0).bind fun bt323 => ((odometerref03_Parse.f k x0).bind fun bt328 => (if bt323.1.toList = bt328.1.toList then (if bt323.2.2 = bt328.2.2 then ((odometerref03_Same.f k bt323.2.1 bt328.2.1).bind fun t333 => (if t333 = true then ((label_May.f k x0).bind fun t334 => (odometerlaw03_LabelParses.j1 k x0 x1 x2 (t334 != (bt328.2.2 == 0)))) else (odometerlaw03_LabelParses.j1 k x0 x1 x2 true))) else (odometerlaw03_LabelParses.j1 k x0 x1 x2 true)) else (odometerlaw03_LabelParses.j1 k x0 x1 x2 true))))
def odometerlaw03_LabelParses.j1 : Nat → ByteArray → List (S45) → List ByteArray → Bool → Option (Bool)
  | 0, _, _, _, _ => none
  | k + 1, x0, x1, x2, x67 => if x67 = true then (some false) else ((label_With.f k x0 x1).bind fun bt335 => ((odometerref03_With.f k x0 x1).bind fun bt337 => (if bt335.1.toList = bt337.1.toList then (if bt335.2 = bt337.2 then ((label_Only.f k x0 x2).bind fun t339 => ((odometerref03_Only.f k x0 x2).bind fun t340 => (odometerlaw03_LabelParses.j2 k x0 x2 (t339.toList != t340.toList)))) else (odometerlaw03_LabelParses.j2 k x0 x2 true)) else (odometerlaw03_LabelParses.j2 k x0 x2 true))))
def odometerlaw03_LabelParses.j2 : Nat → ByteArray → List ByteArray → Bool → Option (Bool)
  | 0, _, _, _ => none
  | k + 1, x0, x2, x96 => if x96 = true then (some false) else (odometerlaw03_LabelParses.l0 k x0 x2 0)
def odometerlaw03_LabelParses.l0 : Nat → ByteArray → List ByteArray → Int → Option (Bool)
  | 0, _, _, _ => none
  | k + 1, x0, x2, x17 => if x17 < (x2.length : Int) then (if 0 ≤ x17 then ((label_Get.f k x0 (rdOf ByteArray.empty x2 x17)).bind fun bt343 => ((odometerref03_Get.f k x0 (rdOf ByteArray.empty x2 x17)).bind fun bt346 => (if bt343.1.toList = bt346.1.toList then (if (bt343.2 != bt346.2) = true then (some false) else (odometerlaw03_LabelParses.l0 k x0 x2 (wrap64 (x17 + 1)))) else (some false)))) else (none)) else ((odometerlaw03_known.f k).bind fun t341 => (some t341))
end
def odometerlaw03_LabelParses.f (k : Nat) (a0 : ByteArray) (l1 : List (S45)) (l2 : List ByteArray) : Option (Bool) := if (a0.size : Int) > 3000 then (odometerlaw03_LabelParses.j0 k a0 l1 l2 true) else ((odometerref03_Much.f k l1).bind fun t321 => (if t321 = true then (odometerlaw03_LabelParses.j0 k a0 l1 l2 true) else (odometerlaw03_LabelParses.j0 k a0 l1 l2 (decide ((l2.length : Int) > 20)))))
theorem odometerlaw03_LabelParses.mono_l : ∀ k, (∀ y0 y1 y2 y3, LeO (odometerlaw03_LabelParses.j0 k y0 y1 y2 y3) (odometerlaw03_LabelParses.j0 (k + 1) y0 y1 y2 y3)) ∧ (∀ y0 y1 y2 y3, LeO (odometerlaw03_LabelParses.j1 k y0 y1 y2 y3) (odometerlaw03_LabelParses.j1 (k + 1) y0 y1 y2 y3)) ∧ (∀ y0 y1 y2, LeO (odometerlaw03_LabelParses.j2 k y0 y1 y2) (odometerlaw03_LabelParses.j2 (k + 1) y0 y1 y2)) ∧ (∀ y0 y1 y2, LeO (odometerlaw03_LabelParses.l0 k y0 y1 y2) (odometerlaw03_LabelParses.l0 (k + 1) y0 y1 y2))
  | 0 => ⟨fun _ _ _ _ r h => by simp [odometerlaw03_LabelParses.j0] at h, fun _ _ _ _ r h => by simp [odometerlaw03_LabelParses.j1] at h, fun _ _ _ r h => by simp [odometerlaw03_LabelParses.j2] at h, fun _ _ _ r h => by simp [odometerlaw03_LabelParses.l0] at h⟩
  | k + 1 => by
    obtain ⟨ih0, ih1, ih2, ih3⟩ := odometerlaw03_LabelParses.mono_l k
    refine ⟨?_, ?_, ?_, ?_⟩
    · intro y0 y1 y2 y3
      unfold odometerlaw03_LabelParses.j0
      repeat' first
      | (with_reducible exact ih0 _ _ _ _)
      | (with_reducible exact ih1 _ _ _ _)
      | (with_reducible exact ih2 _ _ _)
      | (with_reducible exact ih3 _ _ _)
      | (with_reducible exact label_Get.mono _ _ _)
      | (with_reducible exact label_May.mono _ _)
      | (with_reducible exact label_Only.mono _ _ _)
      | (with_reducible exact label_Parse.mono _ _)
      | (with_reducible exact label_With.mono _ _ _)
      | (with_reducible exact odometerlaw03_known.mono _)
      | (with_reducible exact odometerref03_Get.mono _ _ _)
      | (with_reducible exact odometerref03_Much.mono _ _)
      | (with_reducible exact odometerref03_Only.mono _ _ _)
      | (with_reducible exact odometerref03_Parse.mono _ _)
      | (with_reducible exact odometerref03_Same.mono _ _ _)
      | (with_reducible exact odometerref03_With.mono _ _ _)
      | (with_reducible exact LeO.refl _)
      | (with_reducible exact LeO.none _)
      | (with_reducible refine LeO.ite ?_ ?_)
      | (with_reducible refine LeO.bind ?_ (fun _ => ?_))
      | exact ih0 _ _ _ _
      | exact ih1 _ _ _ _
      | exact ih2 _ _ _
      | exact ih3 _ _ _
      | exact label_Get.mono _ _ _
      | exact label_May.mono _ _
      | exact label_Only.mono _ _ _
      | exact label_Parse.mono _ _
      | exact label_With.mono _ _ _
      | exact odometerlaw03_known.mono _
      | exact odometerref03_Get.mono _ _ _
      | exact odometerref03_Much.mono _ _
      | exact odometerref03_Only.mono _ _ _
      | exact odometerref03_Parse.mono _ _
      | exact odometerref03_Same.mono _ _ _
      | exact odometerref03_With.mono _ _ _
      | exact LeO.none _
      | refine LeO.ite ?_ ?_
      | refine LeO.bind ?_ (fun _ => ?_)
    · intro y0 y1 y2 y3
      unfold odometerlaw03_LabelParses.j1
      repeat' first
      | (with_reducible exact ih0 _ _ _ _)
      | (with_reducible exact ih1 _ _ _ _)
      | (with_reducible exact ih2 _ _ _)
      | (with_reducible exact ih3 _ _ _)
      | (with_reducible exact label_Get.mono _ _ _)
      | (with_reducible exact label_May.mono _ _)
      | (with_reducible exact label_Only.mono _ _ _)
      | (with_reducible exact label_Parse.mono _ _)
      | (with_reducible exact label_With.mono _ _ _)
      | (with_reducible exact odometerlaw03_known.mono _)
      | (with_reducible exact odometerref03_Get.mono _ _ _)
      | (with_reducible exact odometerref03_Much.mono _ _)
      | (with_reducible exact odometerref03_Only.mono _ _ _)
      | (with_reducible exact odometerref03_Parse.mono _ _)
      | (with_reducible exact odometerref03_Same.mono _ _ _)
      | (with_reducible exact odometerref03_With.mono _ _ _)
      | (with_reducible exact LeO.refl _)
      | (with_reducible exact LeO.none _)
      | (with_reducible refine LeO.ite ?_ ?_)
      | (with_reducible refine LeO.bind ?_ (fun _ => ?_))
      | exact ih0 _ _ _ _
      | exact ih1 _ _ _ _
      | exact ih2 _ _ _
      | exact ih3 _ _ _
      | exact label_Get.mono _ _ _
      | exact label_May.mono _ _
      | exact label_Only.mono _ _ _
      | exact label_Parse.mono _ _
      | exact label_With.mono _ _ _
      | exact odometerlaw03_known.mono _
      | exact odometerref03_Get.mono _ _ _
      | exact odometerref03_Much.mono _ _
      | exact odometerref03_Only.mono _ _ _
      | exact odometerref03_Parse.mono _ _
      | exact odometerref03_Same.mono _ _ _
      | exact odometerref03_With.mono _ _ _
      | exact LeO.none _
      | refine LeO.ite ?_ ?_
      | refine LeO.bind ?_ (fun _ => ?_)
    · intro y0 y1 y2
      unfold odometerlaw03_LabelParses.j2
      repeat' first
      | (with_reducible exact ih0 _ _ _ _)
      | (with_reducible exact ih1 _ _ _ _)
      | (with_reducible exact ih2 _ _ _)
      | (with_reducible exact ih3 _ _ _)
      | (with_reducible exact label_Get.mono _ _ _)
      | (with_reducible exact label_May.mono _ _)
      | (with_reducible exact label_Only.mono _ _ _)
      | (with_reducible exact label_Parse.mono _ _)
      | (with_reducible exact label_With.mono _ _ _)
      | (with_reducible exact odometerlaw03_known.mono _)
      | (with_reducible exact odometerref03_Get.mono _ _ _)
      | (with_reducible exact odometerref03_Much.mono _ _)
      | (with_reducible exact odometerref03_Only.mono _ _ _)
      | (with_reducible exact odometerref03_Parse.mono _ _)
      | (with_reducible exact odometerref03_Same.mono _ _ _)
      | (with_reducible exact odometerref03_With.mono _ _ _)
      | (with_reducible exact LeO.refl _)
      | (with_reducible exact LeO.none _)
      | (with_reducible refine LeO.ite ?_ ?_)
      | (with_reducible refine LeO.bind ?_ (fun _ => ?_))
      | exact ih0 _ _ _ _
      | exact ih1 _ _ _ _
      | exact ih2 _ _ _
      | exact ih3 _ _ _
      | exact label_Get.mono _ _ _
      | exact label_May.mono _ _
      | exact label_Only.mono _ _ _
      | exact label_Parse.mono _ _
      | exact label_With.mono _ _ _
      | exact odometerlaw03_known.mono _
      | exact odometerref03_Get.mono _ _ _
      | exact odometerref03_Much.mono _ _
      | exact odometerref03_Only.mono _ _ _
      | exact odometerref03_Parse.mono _ _
      | exact odometerref03_Same.mono _ _ _
      | exact odometerref03_With.mono _ _ _
      | exact LeO.none _
      | refine LeO.ite ?_ ?_
      | refine LeO.bind ?_ (fun _ => ?_)
    · intro y0 y1 y2
      unfold odometerlaw03_LabelParses.l0
      repeat' first
      | (with_reducible exact ih0 _ _ _ _)
      | (with_reducible exact ih1 _ _ _ _)
      | (with_reducible exact ih2 _ _ _)
      | (with_reducible exact ih3 _ _ _)
      | (with_reducible exact label_Get.mono _ _ _)
      | (with_reducible exact label_May.mono _ _)
      | (with_reducible exact label_Only.mono _ _ _)
      | (with_reducible exact label_Parse.mono _ _)
      | (with_reducible exact label_With.mono _ _ _)
      | (with_reducible exact odometerlaw03_known.mono _)
      | (with_reducible exact odometerref03_Get.mono _ _ _)
      | (with_reducible exact odometerref03_Much.mono _ _)
      | (with_reducible exact odometerref03_Only.mono _ _ _)
      | (with_reducible exact odometerref03_Parse.mono _ _)
      | (with_reducible exact odometerref03_Same.mono _ _ _)
      | (with_reducible exact odometerref03_With.mono _ _ _)
      | (with_reducible exact LeO.refl _)
      | (with_reducible exact LeO.none _)
      | (with_reducible refine LeO.ite ?_ ?_)
      | (with_reducible refine LeO.bind ?_ (fun _ => ?_))
      | exact ih0 _ _ _ _
      | exact ih1 _ _ _ _
      | exact ih2 _ _ _
      | exact ih3 _ _ _
      | exact label_Get.mono _ _ _
      | exact label_May.mono _ _
      | exact label_Only.mono _ _ _
      | exact label_Parse.mono _ _
      | exact label_With.mono _ _ _
      | exact odometerlaw03_known.mono _
      | exact odometerref03_Get.mono _ _ _
      | exact odometerref03_Much.mono _ _
      | exact odometerref03_Only.mono _ _ _
      | exact odometerref03_Parse.mono _ _
      | exact odometerref03_Same.mono _ _ _
      | exact odometerref03_With.mono _ _ _
      | exact LeO.none _
      | refine LeO.ite ?_ ?_
      | refine LeO.bind ?_ (fun _ => ?_)
theorem odometerlaw03_LabelParses.mono : ∀ a0 a1 a2 k, LeO (odometerlaw03_LabelParses.f k a0 a1 a2) (odometerlaw03_LabelParses.f (k + 1) a0 a1 a2) := by
  intro a0 a1 a2 k
  obtain ⟨ih0, ih1, ih2, ih3⟩ := odometerlaw03_LabelParses.mono_l k
  unfold odometerlaw03_LabelParses.f
  repeat' first
      | (with_reducible exact ih0 _ _ _ _)
      | (with_reducible exact ih1 _ _ _ _)
      | (with_reducible exact ih2 _ _ _)
      | (with_reducible exact ih3 _ _ _)
      | (with_reducible exact label_Get.mono _ _ _)
      | (with_reducible exact label_May.mono _ _)
      | (with_reducible exact label_Only.mono _ _ _)
      | (with_reducible exact label_Parse.mono _ _)
      | (with_reducible exact label_With.mono _ _ _)
      | (with_reducible exact odometerlaw03_known.mono _)
      | (with_reducible exact odometerref03_Get.mono _ _ _)
      | (with_reducible exact odometerref03_Much.mono _ _)
      | (with_reducible exact odometerref03_Only.mono _ _ _)
      | (with_reducible exact odometerref03_Parse.mono _ _)
      | (with_reducible exact odometerref03_Same.mono _ _ _)
      | (with_reducible exact odometerref03_With.mono _ _ _)
      | (with_reducible exact LeO.refl _)
      | (with_reducible exact LeO.none _)
      | (with_reducible refine LeO.ite ?_ ?_)
      | (with_reducible refine LeO.bind ?_ (fun _ => ?_))
      | exact ih0 _ _ _ _
      | exact ih1 _ _ _ _
      | exact ih2 _ _ _
      | exact ih3 _ _ _
      | exact label_Get.mono _ _ _
      | exact label_May.mono _ _
      | exact label_Only.mono _ _ _
      | exact label_Parse.mono _ _
      | exact label_With.mono _ _ _
      | exact odometerlaw03_known.mono _
      | exact odometerref03_Get.mono _ _ _
      | exact odometerref03_Much.mono _ _
      | exact odometerref03_Only.mono _ _ _
      | exact odometerref03_Parse.mono _ _
      | exact odometerref03_Same.mono _ _ _
      | exact odometerref03_With.mono _ _ _
      | exact LeO.none _
      | refine LeO.ite ?_ ?_
      | refine LeO.bind ?_ (fun _ => ?_)
set_option maxHeartbeats 8000000 in
set_option maxRecDepth 100000 in
theorem odometerlaw03_LabelParses.calls (k : Nat) (a0 : ByteArray) (A1 : Option Addr) (c1 : Nat) (l1 : List (S45)) (A2 : Option Addr) (c2 : Nat) (l2 : List ByteArray) (r : Bool) (w : World) (hSH : SH w) (hr1 : Kd.C k45 w A1 l1.length l1) (hc1 : l1.length ≤ c1) (hr2 : Kd.C Kd.string w A2 l2.length l2) (hc2 : l2.length ≤ c2) (h : odometerlaw03_LabelParses.f k a0 l1 l2 = some r) :
    Calls Try.prog 7 #[.string a0, .slice A1 l1.length c1, .slice A2 l2.length c2] w fun e w' => e = .returned (.bool r) ∧ Below w.heap.size w w' := by
  have HR1 := Aside0.mk hr1
  have HC1 := Aside0.mk hc1
  clear hr1 hc1
  have HR2 := Aside0.mk hr2
  have HC2 := Aside0.mk hc2
  clear hr2 hc2
  have HB := Aside0.mk (Below.refl w.heap.size w)
  have H : (if (a0.size : Int) > 3000 then (odometerlaw03_LabelParses.j0 k a0 l1 l2 true) else ((odometerref03_Much.f k l1).bind fun t321 => (if t321 = true then (odometerlaw03_LabelParses.j0 k a0 l1 l2 true) else (odometerlaw03_LabelParses.j0 k a0 l1 l2 (decide ((l2.length : Int) > 20)))))) = some r := h
  clear h
  have HC4 := Aside0.mk H
  clear H
  go_enter Try.func7, Try.ntmps7
  go_upto_region 1 with (fail)
  go_cut [33] (fun v33 wc => ∃ (kq : Nat) (x33_3 : Bool), v33 = .bool x33_3 ∧ Aside0 (odometerlaw03_LabelParses.j0 kq a0 l1 l2 x33_3 = some r) ∧ Aside0 (kq ≤ k) ∧ Aside0 (Below w.heap.size w wc))
  case first =>
    have H := HC4.out
    clear HC4
    by_cases c5 : (a0.size : Int) > 3000
    · rw [if_pos c5] at H
      have c5b0 : decide (3000 < (a0.size : Int)) = true := decide_eq_true c5
      have c5b1 : decide (3000 < a0.size) = true := decide_eq_true (by omega)
      clear c5
      (first | rw [c5b0] | (simp only [i64_w, i32_w]; rw [c5b0]) | rw [c5b1] | skip)
      have H' := Aside0.mk H
      clear H
      go_wp2
      go_meet
      case rel => exact ⟨_, (true), (by first | rfl | (simp; done) | (simp [*]; done)), H', ⟨by first | omega | exact Nat.le_refl _⟩, ⟨by repeat (first | (with_reducible first | exact HB.out | apply below_alloc | apply pw_below_drewN | apply below_drew1) | exact HB.out)⟩⟩
    · rw [if_neg c5] at H
      have c5b0 : decide (3000 < (a0.size : Int)) = false := decide_eq_false c5
      have c5b1 : decide (3000 < a0.size) = false := decide_eq_false (by omega)
      clear c5
      (first | rw [c5b0] | (simp only [i64_w, i32_w]; rw [c5b0]) | rw [c5b1] | skip)
      replace H := Option.bind_eq_some_iff.mp H
      obtain ⟨t321, A60, H⟩ := H
      replace H : (if t321 = true then (odometerlaw03_LabelParses.j0 k a0 l1 l2 true) else (odometerlaw03_LabelParses.j0 k a0 l1 l2 (decide ((l2.length : Int) > 20)))) = some r := H
      have A6 := Aside0.mk A60
      clear A60
      by_cases c7 : t321 = true
      · subst c7
        have H1 : (odometerlaw03_LabelParses.j0 k a0 l1 l2 true) = some r := by rw [if_pos rfl] at H; exact H
        clear H
        have H := H1
        clear H1
        have H' := Aside0.mk H
        clear H
        go_wp2_with (first | (go_at_call 18; (with_reducible refine (odometerref03_Much.calls k _ _ l1 true _ ?side1 ?side2 A6.out).mono ?_); (case side1 => repeat (first | exact (Kd.C_below HR1.out HB.out) | (with_reducible refine Kd.C_alloc ?_ _) | (with_reducible refine Kd.C_drewN ?_ _) | (with_reducible refine Kd.C_drew ?_))); (case side2 => exact HC1.out); rintro e w' ⟨rfl, ⟨nd, rfl⟩⟩))
        go_meet
        case rel => exact ⟨_, (true), (by first | rfl | (simp; done) | (simp [*]; done)), H', ⟨by first | omega | exact Nat.le_refl _⟩, ⟨by repeat (first | (with_reducible first | exact HB.out | apply below_alloc | apply pw_below_drewN | apply below_drew1) | exact HB.out)⟩⟩
      · replace c7 := Bool.eq_false_iff.mpr c7
        subst c7
        have H1 : (odometerlaw03_LabelParses.j0 k a0 l1 l2 (decide ((l2.length : Int) > 20))) = some r := by rw [if_neg (show ¬ (false = true) by decide)] at H; exact H
        clear H
        have H := H1
        clear H1
        have H' := Aside0.mk H
        clear H
        go_wp2_with (first | (go_at_call 18; (with_reducible refine (odometerref03_Much.calls k _ _ l1 false _ ?side1 ?side2 A6.out).mono ?_); (case side1 => repeat (first | exact (Kd.C_below HR1.out HB.out) | (with_reducible refine Kd.C_alloc ?_ _) | (with_reducible refine Kd.C_drewN ?_ _) | (with_reducible refine Kd.C_drew ?_))); (case side2 => exact HC1.out); rintro e w' ⟨rfl, ⟨nd, rfl⟩⟩))
        go_meet
        case rel => exact ⟨_, (decide ((l2.length : Int) > 20)), (by first | rfl | (simp; done) | (simp [*]; done)), H', ⟨by first | omega | exact Nat.le_refl _⟩, ⟨by repeat (first | (with_reducible first | exact HB.out | apply below_alloc | apply pw_below_drewN | apply below_drew1) | exact HB.out)⟩⟩
  case rest =>
    clear HC4
    try clear c1
    try clear c2
    try clear p2
    try clear c5
    try clear c5b0
    try clear c5b1
    try clear c7
    obtain ⟨kq, x33_3, rfl, HA, HJ3, HB⟩ := hcut
    cases kq with
    | zero => exact absurd HA.out (by simp [odometerlaw03_LabelParses.j0])
    | succ kj3 =>
      have H := HA.out
      clear HA
      simp only [odometerlaw03_LabelParses.j0] at H
      by_cases c8 : x33_3 = true
      · subst c8
        have H1 : ((odometerlaw03_known.f kj3).bind fun t322 => (some t322)) = some r := by rw [if_pos rfl] at H; exact H
        clear H
        have H := H1
        clear H1
        replace H := Option.bind_eq_some_iff.mp H
        obtain ⟨t322, A90, H⟩ := H
        replace H : (some t322) = some r := H
        have A9 := Aside0.mk A90
        clear A90
        obtain rfl := Option.some.inj H
        go_wp2_with (first | ((with_reducible refine gate_callee (f := 8) rfl ?_); refine goesL_ (some 34) rfl rfl Try.func8 (by kernel_rfl) rfl #[] rfl (by (try simp only [List.map_toArray, List.map_cons, List.map_nil]); first | done | rfl | (simp only [List.length_drop, List.length_take]; rfl)) ?_; (with_reducible refine (odometerlaw03_known.calls kj3  t322 _ A9.out).mono ?_); rintro e w10 ⟨rfl, hb⟩; refine ⟨_, rfl, ?_⟩; have n0_ := Aside0.mk (below_step (by repeat (first | (with_reducible first | exact HB.out | apply below_alloc | apply pw_below_drewN | apply below_drew1) | exact HB.out)) hb); clear HB; have HB := n0_; clear n0_; (try clear hb); (try clear hb2); (try clear hk); (try clear hi)))
        go_ret
        exact ⟨by first | rfl | (simp [errW_none, errW_some] <;> rfl) | (simp [*, errW_none, errW_some] <;> rfl), by repeat (first | (with_reducible first | exact HB.out | apply below_alloc | apply pw_below_drewN | apply below_drew1) | exact HB.out)⟩
      · replace c8 := Bool.eq_false_iff.mpr c8
        subst c8
        have H1 : ((label_Parse.f kj3 a0).bind fun bt323 => ((odometerref03_Parse.f kj3 a0).bind fun bt328 => (if bt323.1.toList = bt328.1.toList then (if bt323.2.2 = bt328.2.2 then ((odometerref03_Same.f kj3 bt323.2.1 bt328.2.1).bind fun t333 => (if t333 = true then ((label_May.f kj3 a0).bind fun t334 => (odometerlaw03_LabelParses.j1 kj3 a0 l1 l2 (t334 != (bt328.2.2 == 0)))) else (odometerlaw03_LabelParses.j1 kj3 a0 l1 l2 true))) else (odometerlaw03_LabelParses.j1 kj3 a0 l1 l2 true)) else (odometerlaw03_LabelParses.j1 kj3 a0 l1 l2 true)))) = some r := by rw [if_neg (show ¬ (false = true) by decide)] at H; exact H
        clear H
        have H := H1
        clear H1
        replace H := Option.bind_eq_some_iff.mp H
        obtain ⟨⟨t323, t324, t325⟩, A110, H⟩ := H
        replace H : ((odometerref03_Parse.f kj3 a0).bind fun bt328 => (if t323.toList = bt328.1.toList then (if t325 = bt328.2.2 then ((odometerref03_Same.f kj3 t324 bt328.2.1).bind fun t333 => (if t333 = true then ((label_May.f kj3 a0).bind fun t334 => (odometerlaw03_LabelParses.j1 kj3 a0 l1 l2 (t334 != (bt328.2.2 == 0)))) else (odometerlaw03_LabelParses.j1 kj3 a0 l1 l2 true))) else (odometerlaw03_LabelParses.j1 kj3 a0 l1 l2 true)) else (odometerlaw03_LabelParses.j1 kj3 a0 l1 l2 true))) = some r := H
        have A11 := Aside0.mk A110
        clear A110
        replace H := Option.bind_eq_some_iff.mp H
        obtain ⟨⟨t328, t329, t330⟩, A120, H⟩ := H
        replace H : (if t323.toList = t328.toList then (if t325 = t330 then ((odometerref03_Same.f kj3 t324 t329).bind fun t333 => (if t333 = true then ((label_May.f kj3 a0).bind fun t334 => (odometerlaw03_LabelParses.j1 kj3 a0 l1 l2 (t334 != (t330 == 0)))) else (odometerlaw03_LabelParses.j1 kj3 a0 l1 l2 true))) else (odometerlaw03_LabelParses.j1 kj3 a0 l1 l2 true)) else (odometerlaw03_LabelParses.j1 kj3 a0 l1 l2 true)) = some r := H
        have A12 := Aside0.mk A120
        clear A120
        have HC13 := Aside0.mk H
        clear H
        go_upto_region 5 with (first | ((with_reducible refine gate_callee (f := 22) rfl ?_); refine goesL_ (some 37) rfl rfl Try.func22 (by kernel_rfl) rfl #[.string a0] rfl (by (try simp only [List.map_toArray, List.map_cons, List.map_nil]); first | done | rfl | (simp only [List.length_drop, List.length_take]; rfl)) ?_; (with_reducible refine (label_Parse.calls kj3 a0 t323 t324 t325 _ ?side1 A11.out).mono ?_); (case side1 => exact SH.below hSH (by repeat (first | (with_reducible first | exact HB.out | apply below_alloc | apply pw_below_drewN | apply below_drew1) | exact HB.out))); rintro e w14 ⟨v326, rfl, ho0, hb⟩; refine ⟨_, rfl, ?_⟩; have n0_ := Aside0.mk (Kd.R_lower ho0 (below_size (by repeat (first | (with_reducible first | exact HB.out | apply below_alloc | apply pw_below_drewN | apply below_drew1) | exact HB.out)))); have n1_ := Aside0.mk (below_step (by repeat (first | (with_reducible first | exact HB.out | apply below_alloc | apply pw_below_drewN | apply below_drew1) | exact HB.out)) hb); clear HB; have HO327 := n0_; have HB := n1_; clear n0_ n1_; (try clear hb); (try clear hb2); (try clear hk); (try clear hi); (try clear ho0)) | ((with_reducible refine gate_callee (f := 27) rfl ?_); refine goesL_ (some 43) rfl rfl Try.func27 (by kernel_rfl) rfl #[.string a0] rfl (by (try simp only [List.map_toArray, List.map_cons, List.map_nil]); first | done | rfl | (simp only [List.length_drop, List.length_take]; rfl)) ?_; (with_reducible refine (odometerref03_Parse.calls kj3 a0 t328 t329 t330 _ A12.out).mono ?_); rintro e w15 ⟨v331, rfl, ho0, hb⟩; refine ⟨_, rfl, ?_⟩; have n0_ := Aside0.mk (Kd.R_elder' (by (with_reducible repeat (first | apply Kd.R_alloc | apply Kd.R_drewN | apply Kd.R_drew)); exact HO327.out) (Kd.R_base ho0) hb); have n1_ := Aside0.mk (Kd.R_lower (Kd.R_new' ho0 (Kd.R_lt (by (with_reducible repeat (first | apply Kd.R_alloc | apply Kd.R_drewN | apply Kd.R_drew)); exact HO327.out))) (below_size (by repeat (first | (with_reducible first | exact HB.out | apply below_alloc | apply pw_below_drewN | apply below_drew1) | exact HB.out)))); have n2_ := Aside0.mk (below_step (by repeat (first | (with_reducible first | exact HB.out | apply below_alloc | apply pw_below_drewN | apply below_drew1) | exact HB.out)) hb); clear HO327; clear HB; have HO327 := n0_; have HO332 := n1_; have HB := n2_; clear n0_ n1_ n2_; (try clear hb); (try clear hb2); (try clear hk); (try clear hi); (try clear ho0)))
        (try simp only [Act.put, List.setIfInBounds_toArray, List.set_cons_zero, List.set_cons_succ])
        go_cut [67] (fun v67 wc => ∃ (kq : Nat) (x67_12 : Bool), v67 = .bool x67_12 ∧ Aside0 (odometerlaw03_LabelParses.j1 kq a0 l1 l2 x67_12 = some r) ∧ Aside0 (kq ≤ kj3) ∧ Aside0 (Below w.heap.size w wc))
        case first =>
          have H := HC13.out
          clear HC13
          by_cases c16 : t323.toList = t328.toList
          · rw [if_pos c16] at H
            have c16b0 : (t323.toList == t328.toList) = true := beq_iff_eq.mpr c16
            have c16b1 : (t323.toList != t328.toList) = false := bne_eq_false_iff_eq.mpr c16
            clear c16
            (first | rw [c16b0] | (simp only [i64_w, i32_w]; rw [c16b0]) | skip)
            by_cases c17 : t325 = t330
            · rw [if_pos c17] at H
              have c17b0 : (t325 == t330) = true := beq_iff_eq.mpr c17
              have c17b1 : (t325 != t330) = false := bne_eq_false_iff_eq.mpr c17
              clear c17
              replace H := Option.bind_eq_some_iff.mp H
              obtain ⟨t333, A180, H⟩ := H
              replace H : (if t333 = true then ((label_May.f kj3 a0).bind fun t334 => (odometerlaw03_LabelParses.j1 kj3 a0 l1 l2 (t334 != (t330 == 0)))) else (odometerlaw03_LabelParses.j1 kj3 a0 l1 l2 true)) = some r := H
              have A18 := Aside0.mk A180
              clear A180
              by_cases c19 : t333 = true
              · subst c19
                have H1 : ((label_May.f kj3 a0).bind fun t334 => (odometerlaw03_LabelParses.j1 kj3 a0 l1 l2 (t334 != (t330 == 0)))) = some r := by rw [if_pos rfl] at H; exact H
                clear H
                have H := H1
                clear H1
                replace H := Option.bind_eq_some_iff.mp H
                obtain ⟨t334, A200, H⟩ := H
                replace H : (odometerlaw03_LabelParses.j1 kj3 a0 l1 l2 (t334 != (t330 == 0))) = some r := H
                have A20 := Aside0.mk A200
                clear A200
                have H' := Aside0.mk H
                clear H
                obtain ⟨Ao21, co21, eo21⟩ := Kd.R_slice HO327.out
                subst eo21
                obtain ⟨Ao22, co22, eo22⟩ := Kd.R_slice HO332.out
                subst eo22
                go_wp2_with (first | (go_at_call 21; (with_reducible refine (odometerref03_Same.calls kj3 _ _ t324 _ _ t329 true _ ?side1 ?side2 ?side3 ?side4 A18.out).mono ?_); (case side1 => repeat (first | exact (Kd.R_reads' HO327.out).2.2 | (with_reducible refine Kd.C_alloc ?_ _) | (with_reducible refine Kd.C_drewN ?_ _) | (with_reducible refine Kd.C_drew ?_))); (case side2 => exact (Kd.R_reads' HO327.out).2.1); (case side3 => repeat (first | exact (Kd.R_reads' HO332.out).2.2 | (with_reducible refine Kd.C_alloc ?_ _) | (with_reducible refine Kd.C_drewN ?_ _) | (with_reducible refine Kd.C_drew ?_))); (case side4 => exact (Kd.R_reads' HO332.out).2.1); rintro e w' ⟨rfl, ⟨nd, rfl⟩⟩) | (go_at_call 24; (with_reducible refine (label_May.calls kj3 a0 t334 _ ?side1 A20.out).mono ?_); (case side1 => exact SH.below hSH (by repeat (first | (with_reducible first | exact HB.out | apply below_alloc | apply pw_below_drewN | apply below_drew1) | exact HB.out))); rintro e w23 ⟨rfl, hb⟩; have n0_ := Aside0.mk (Kd.R_below (by (with_reducible repeat (first | apply Kd.R_alloc | apply Kd.R_drewN | apply Kd.R_drew)); exact HO327.out) hb); have n1_ := Aside0.mk (Kd.R_below (by (with_reducible repeat (first | apply Kd.R_alloc | apply Kd.R_drewN | apply Kd.R_drew)); exact HO332.out) hb); have n2_ := Aside0.mk (below_step (by repeat (first | (with_reducible first | exact HB.out | apply below_alloc | apply pw_below_drewN | apply below_drew1) | exact HB.out)) hb); clear HO327; clear HO332; clear HB; have HO327 := n0_; have HO332 := n1_; have HB := n2_; clear n0_ n1_ n2_; (try clear hb); (try clear hb2); (try clear hk); (try clear hi)))
                go_meet
                case rel => exact ⟨_, ((t334 != (t330 == 0))), (by first | rfl | (simp; done) | (simp [*]; done)), H', ⟨by have := HJ3.out; first | omega | exact Nat.le_refl _⟩, ⟨by repeat (first | (with_reducible first | exact HB.out | apply below_alloc | apply pw_below_drewN | apply below_drew1) | exact HB.out)⟩⟩
              · replace c19 := Bool.eq_false_iff.mpr c19
                subst c19
                have H1 : (odometerlaw03_LabelParses.j1 kj3 a0 l1 l2 true) = some r := by rw [if_neg (show ¬ (false = true) by decide)] at H; exact H
                clear H
                have H := H1
                clear H1
                have H' := Aside0.mk H
                clear H
                obtain ⟨Ao24, co24, eo24⟩ := Kd.R_slice HO327.out
                subst eo24
                obtain ⟨Ao25, co25, eo25⟩ := Kd.R_slice HO332.out
                subst eo25
                go_wp2_with (first | (go_at_call 21; (with_reducible refine (odometerref03_Same.calls kj3 _ _ t324 _ _ t329 false _ ?side1 ?side2 ?side3 ?side4 A18.out).mono ?_); (case side1 => repeat (first | exact (Kd.R_reads' HO327.out).2.2 | (with_reducible refine Kd.C_alloc ?_ _) | (with_reducible refine Kd.C_drewN ?_ _) | (with_reducible refine Kd.C_drew ?_))); (case side2 => exact (Kd.R_reads' HO327.out).2.1); (case side3 => repeat (first | exact (Kd.R_reads' HO332.out).2.2 | (with_reducible refine Kd.C_alloc ?_ _) | (with_reducible refine Kd.C_drewN ?_ _) | (with_reducible refine Kd.C_drew ?_))); (case side4 => exact (Kd.R_reads' HO332.out).2.1); rintro e w' ⟨rfl, ⟨nd, rfl⟩⟩))
                go_meet
                case rel => exact ⟨_, (true), (by first | rfl | (simp; done) | (simp [*]; done)), H', ⟨by have := HJ3.out; first | omega | exact Nat.le_refl _⟩, ⟨by repeat (first | (with_reducible first | exact HB.out | apply below_alloc | apply pw_below_drewN | apply below_drew1) | exact HB.out)⟩⟩
            · rw [if_neg c17] at H
              have c17b0 : (t325 == t330) = false := beq_eq_false_iff_ne.mpr c17
              have c17b1 : (t325 != t330) = true := bne_iff_ne.mpr c17
              have H' := Aside0.mk H
              clear H
              go_wp2
              go_meet
              case rel => exact ⟨_, (true), (by first | rfl | (simp; done) | (simp [*]; done)), H', ⟨by have := HJ3.out; first | omega | exact Nat.le_refl _⟩, ⟨by repeat (first | (with_reducible first | exact HB.out | apply below_alloc | apply pw_below_drewN | apply below_drew1) | exact HB.out)⟩⟩
          · rw [if_neg c16] at H
            have c16b0 : (t323.toList == t328.toList) = false := beq_eq_false_iff_ne.mpr c16
            have c16b1 : (t323.toList != t328.toList) = true := bne_iff_ne.mpr c16
            (first | rw [c16b0] | (simp only [i64_w, i32_w]; rw [c16b0]) | skip)
            have H' := Aside0.mk H
            clear H
            go_wp2
            go_meet
            case rel => exact ⟨_, (true), (by first | rfl | (simp; done) | (simp [*]; done)), H', ⟨by have := HJ3.out; first | omega | exact Nat.le_refl _⟩, ⟨by repeat (first | (with_reducible first | exact HB.out | apply below_alloc | apply pw_below_drewN | apply below_drew1) | exact HB.out)⟩⟩
        case rest =>
          clear HC13
          try clear c1
          try clear c2
          try clear p2
          try clear c5
          try clear c5b0
          try clear c5b1
          try clear c7
          try clear c8
          try clear c16
          try clear c16b0
          try clear c16b1
          try clear c17
          try clear c17b0
          try clear c17b1
          try clear c19
          try clear c22
          try clear p2
          obtain ⟨kq, x67_12, rfl, HA, HJ12, HB⟩ := hcut
          cases kq with
          | zero => exact absurd HA.out (by simp [odometerlaw03_LabelParses.j1])
          | succ kj12 =>
            have H := HA.out
            clear HA
            simp only [odometerlaw03_LabelParses.j1] at H
            by_cases c26 : x67_12 = true
            · subst c26
              have H1 : (some false) = some r := by rw [if_pos rfl] at H; exact H
              clear H
              have H := H1
              clear H1
              obtain rfl := Option.some.inj H
              go_wp2
              go_ret
              exact ⟨by first | rfl | (simp [errW_none, errW_some] <;> rfl) | (simp [*, errW_none, errW_some] <;> rfl), by repeat (first | (with_reducible first | exact HB.out | apply below_alloc | apply pw_below_drewN | apply below_drew1) | exact HB.out)⟩
            · replace c26 := Bool.eq_false_iff.mpr c26
              subst c26
              have H1 : ((label_With.f kj12 a0 l1).bind fun bt335 => ((odometerref03_With.f kj12 a0 l1).bind fun bt337 => (if bt335.1.toList = bt337.1.toList then (if bt335.2 = bt337.2 then ((label_Only.f kj12 a0 l2).bind fun t339 => ((odometerref03_Only.f kj12 a0 l2).bind fun t340 => (odometerlaw03_LabelParses.j2 kj12 a0 l2 (t339.toList != t340.toList)))) else (odometerlaw03_LabelParses.j2 kj12 a0 l2 true)) else (odometerlaw03_LabelParses.j2 kj12 a0 l2 true)))) = some r := by rw [if_neg (show ¬ (false = true) by decide)] at H; exact H
              clear H
              have H := H1
              clear H1
              replace H := Option.bind_eq_some_iff.mp H
              obtain ⟨⟨t335, t336⟩, A270, H⟩ := H
              replace H : ((odometerref03_With.f kj12 a0 l1).bind fun bt337 => (if t335.toList = bt337.1.toList then (if t336 = bt337.2 then ((label_Only.f kj12 a0 l2).bind fun t339 => ((odometerref03_Only.f kj12 a0 l2).bind fun t340 => (odometerlaw03_LabelParses.j2 kj12 a0 l2 (t339.toList != t340.toList)))) else (odometerlaw03_LabelParses.j2 kj12 a0 l2 true)) else (odometerlaw03_LabelParses.j2 kj12 a0 l2 true))) = some r := H
              have A27 := Aside0.mk A270
              clear A270
              replace H := Option.bind_eq_some_iff.mp H
              obtain ⟨⟨t337, t338⟩, A280, H⟩ := H
              replace H : (if t335.toList = t337.toList then (if t336 = t338 then ((label_Only.f kj12 a0 l2).bind fun t339 => ((odometerref03_Only.f kj12 a0 l2).bind fun t340 => (odometerlaw03_LabelParses.j2 kj12 a0 l2 (t339.toList != t340.toList)))) else (odometerlaw03_LabelParses.j2 kj12 a0 l2 true)) else (odometerlaw03_LabelParses.j2 kj12 a0 l2 true)) = some r := H
              have A28 := Aside0.mk A280
              clear A280
              have HC29 := Aside0.mk H
              clear H
              go_upto_region 9 with (first | ((with_reducible refine gate_callee (f := 26) rfl ?_); refine goesL_ (some 71) rfl rfl Try.func26 (by kernel_rfl) rfl #[.string a0, .slice A1 l1.length c1] rfl (by (try simp only [List.map_toArray, List.map_cons, List.map_nil]); first | done | rfl | (simp only [List.length_drop, List.length_take]; rfl)) ?_; (with_reducible refine (label_With.calls kj12 a0 _ _ l1 t335 t336 _ ?side3 ?side1 ?side2 A27.out).mono ?_); (case side1 => repeat (first | exact (Kd.C_below HR1.out HB.out) | (with_reducible refine Kd.C_alloc ?_ _) | (with_reducible refine Kd.C_drewN ?_ _) | (with_reducible refine Kd.C_drew ?_))); (case side2 => exact HC1.out); (case side3 => exact SH.below hSH (by repeat (first | (with_reducible first | exact HB.out | apply below_alloc | apply pw_below_drewN | apply below_drew1) | exact HB.out))); rintro e w30 ⟨rfl, hb⟩; refine ⟨_, rfl, ?_⟩; have n0_ := Aside0.mk (below_step (by repeat (first | (with_reducible first | exact HB.out | apply below_alloc | apply pw_below_drewN | apply below_drew1) | exact HB.out)) hb); clear HB; have HB := n0_; clear n0_; (try clear hb); (try clear hb2); (try clear hk); (try clear hi)) | ((with_reducible refine gate_callee (f := 28) rfl ?_); refine goesL_ (some 77) rfl rfl Try.func28 (by kernel_rfl) rfl #[.string a0, .slice A1 l1.length c1] rfl (by (try simp only [List.map_toArray, List.map_cons, List.map_nil]); first | done | rfl | (simp only [List.length_drop, List.length_take]; rfl)) ?_; (with_reducible refine (odometerref03_With.calls kj12 a0 _ _ l1 t337 t338 _ ?side1 ?side2 A28.out).mono ?_); (case side1 => repeat (first | exact (Kd.C_below HR1.out HB.out) | (with_reducible refine Kd.C_alloc ?_ _) | (with_reducible refine Kd.C_drewN ?_ _) | (with_reducible refine Kd.C_drew ?_))); (case side2 => exact HC1.out); rintro e w31 ⟨rfl, hb⟩; refine ⟨_, rfl, ?_⟩; have n0_ := Aside0.mk (below_step (by repeat (first | (with_reducible first | exact HB.out | apply below_alloc | apply pw_below_drewN | apply below_drew1) | exact HB.out)) hb); clear HB; have HB := n0_; clear n0_; (try clear hb); (try clear hb2); (try clear hk); (try clear hi)))
              (try simp only [Act.put, List.setIfInBounds_toArray, List.set_cons_zero, List.set_cons_succ])
              go_cut [96] (fun v96 wc => ∃ (kq : Nat) (x96_28 : Bool), v96 = .bool x96_28 ∧ Aside0 (odometerlaw03_LabelParses.j2 kq a0 l2 x96_28 = some r) ∧ Aside0 (kq ≤ kj12) ∧ Aside0 (Below w.heap.size w wc))
              case first =>
                have H := HC29.out
                clear HC29
                by_cases c32 : t335.toList = t337.toList
                · rw [if_pos c32] at H
                  have c32b0 : (t335.toList == t337.toList) = true := beq_iff_eq.mpr c32
                  have c32b1 : (t335.toList != t337.toList) = false := bne_eq_false_iff_eq.mpr c32
                  clear c32
                  (first | rw [c32b0] | (simp only [i64_w, i32_w]; rw [c32b0]) | skip)
                  by_cases c33 : t336 = t338
                  · rw [if_pos c33] at H
                    have c33b0 : (t336 == t338) = true := beq_iff_eq.mpr c33
                    have c33b1 : (t336 != t338) = false := bne_eq_false_iff_eq.mpr c33
                    clear c33
                    replace H := Option.bind_eq_some_iff.mp H
                    obtain ⟨t339, A340, H⟩ := H
                    replace H : ((odometerref03_Only.f kj12 a0 l2).bind fun t340 => (odometerlaw03_LabelParses.j2 kj12 a0 l2 (t339.toList != t340.toList))) = some r := H
                    have A34 := Aside0.mk A340
                    clear A340
                    replace H := Option.bind_eq_some_iff.mp H
                    obtain ⟨t340, A350, H⟩ := H
                    replace H : (odometerlaw03_LabelParses.j2 kj12 a0 l2 (t339.toList != t340.toList)) = some r := H
                    have A35 := Aside0.mk A350
                    clear A350
                    have H' := Aside0.mk H
                    clear H
                    go_wp2_with (first | (go_at_call 29; (with_reducible refine (label_Only.calls kj12 a0 _ _ l2 t339 _ ?side3 ?side1 ?side2 A34.out).mono ?_); (case side1 => repeat (first | exact (Kd.C_below HR2.out HB.out) | (with_reducible refine Kd.C_alloc ?_ _) | (with_reducible refine Kd.C_drewN ?_ _) | (with_reducible refine Kd.C_drew ?_))); (case side2 => exact HC2.out); (case side3 => exact SH.below hSH (by repeat (first | (with_reducible first | exact HB.out | apply below_alloc | apply pw_below_drewN | apply below_drew1) | exact HB.out))); rintro e w36 ⟨rfl, hb⟩; have n0_ := Aside0.mk (below_step (by repeat (first | (with_reducible first | exact HB.out | apply below_alloc | apply pw_below_drewN | apply below_drew1) | exact HB.out)) hb); clear HB; have HB := n0_; clear n0_; (try clear hb); (try clear hb2); (try clear hk); (try clear hi)) | (go_at_call 30; (with_reducible refine (odometerref03_Only.calls kj12 a0 _ _ l2 t340 _ ?side1 ?side2 A35.out).mono ?_); (case side1 => repeat (first | exact (Kd.C_below HR2.out HB.out) | (with_reducible refine Kd.C_alloc ?_ _) | (with_reducible refine Kd.C_drewN ?_ _) | (with_reducible refine Kd.C_drew ?_))); (case side2 => exact HC2.out); rintro e w37 ⟨rfl, hb⟩; have n0_ := Aside0.mk (below_step (by repeat (first | (with_reducible first | exact HB.out | apply below_alloc | apply pw_below_drewN | apply below_drew1) | exact HB.out)) hb); clear HB; have HB := n0_; clear n0_; (try clear hb); (try clear hb2); (try clear hk); (try clear hi)))
                    go_meet
                    case rel => exact ⟨_, ((t339.toList != t340.toList)), (by first | rfl | (simp; done) | (simp [*]; done)), H', ⟨by have := HJ3.out; have := HJ12.out; first | omega | exact Nat.le_refl _⟩, ⟨by repeat (first | (with_reducible first | exact HB.out | apply below_alloc | apply pw_below_drewN | apply below_drew1) | exact HB.out)⟩⟩
                  · rw [if_neg c33] at H
                    have c33b0 : (t336 == t338) = false := beq_eq_false_iff_ne.mpr c33
                    have c33b1 : (t336 != t338) = true := bne_iff_ne.mpr c33
                    have H' := Aside0.mk H
                    clear H
                    go_wp2
                    go_meet
                    case rel => exact ⟨_, (true), (by first | rfl | (simp; done) | (simp [*]; done)), H', ⟨by have := HJ3.out; have := HJ12.out; first | omega | exact Nat.le_refl _⟩, ⟨by repeat (first | (with_reducible first | exact HB.out | apply below_alloc | apply pw_below_drewN | apply below_drew1) | exact HB.out)⟩⟩
                · rw [if_neg c32] at H
                  have c32b0 : (t335.toList == t337.toList) = false := beq_eq_false_iff_ne.mpr c32
                  have c32b1 : (t335.toList != t337.toList) = true := bne_iff_ne.mpr c32
                  (first | rw [c32b0] | (simp only [i64_w, i32_w]; rw [c32b0]) | skip)
                  have H' := Aside0.mk H
                  clear H
                  go_wp2
                  go_meet
                  case rel => exact ⟨_, (true), (by first | rfl | (simp; done) | (simp [*]; done)), H', ⟨by have := HJ3.out; have := HJ12.out; first | omega | exact Nat.le_refl _⟩, ⟨by repeat (first | (with_reducible first | exact HB.out | apply below_alloc | apply pw_below_drewN | apply below_drew1) | exact HB.out)⟩⟩
              case rest =>
                clear HC29
                try clear c1
                try clear c2
                try clear p2
                try clear c3
                try clear c5
                try clear c5b0
                try clear c5b1
                try clear c7
                try clear c8
                try clear c16
                try clear c16b0
                try clear c16b1
                try clear c17
                try clear c17b0
                try clear c17b1
                try clear c19
                try clear c22
                try clear c26
                try clear c27
                try clear c28
                try clear c32
                try clear c32b0
                try clear c32b1
                try clear c33
                try clear c33b0
                try clear c33b1
                try clear p2
                obtain ⟨kq, x96_28, rfl, HA, HJ28, HB⟩ := hcut
                cases kq with
                | zero => exact absurd HA.out (by simp [odometerlaw03_LabelParses.j2])
                | succ kj28 =>
                  have H := HA.out
                  clear HA
                  simp only [odometerlaw03_LabelParses.j2] at H
                  by_cases c38 : x96_28 = true
                  · subst c38
                    have H1 : (some false) = some r := by rw [if_pos rfl] at H; exact H
                    clear H
                    have H := H1
                    clear H1
                    obtain rfl := Option.some.inj H
                    go_wp2
                    go_ret
                    exact ⟨by first | rfl | (simp [errW_none, errW_some] <;> rfl) | (simp [*, errW_none, errW_some] <;> rfl), by repeat (first | (with_reducible first | exact HB.out | apply below_alloc | apply pw_below_drewN | apply below_drew1) | exact HB.out)⟩
                  · replace c38 := Bool.eq_false_iff.mpr c38
                    subst c38
                    have H1 : (odometerlaw03_LabelParses.l0 kj28 a0 l2 0) = some r := by rw [if_neg (show ¬ (false = true) by decide)] at H; exact H
                    clear H
                    have H := H1
                    clear H1
                    have H' := Aside0.mk H
                    clear H
                    go_wp2
                    go_loopg [17] kj28 (fun kq v17 w' => ∃ (x17_4 : Int), v17 = .int .i64 x17_4 ∧ Aside0 (odometerlaw03_LabelParses.l0 kq a0 l2 x17_4 = some r) ∧ Aside0 (kq ≤ kj28) ∧ Aside0 (Below w.heap.size w w'))
                    case atStart => exact ⟨(0), (by first | rfl | (simp; done) | (simp [*]; done)), H', ⟨Nat.le_refl _⟩, ⟨by repeat (first | (with_reducible first | exact HB.out | apply below_alloc | apply pw_below_drewN | apply below_drew1) | exact HB.out)⟩⟩
                    case round =>
                      clear H'
                      try clear c1
                      try clear c2
                      try clear p2
                      try clear c3
                      try clear c5
                      try clear c5b0
                      try clear c5b1
                      try clear c7
                      try clear c8
                      try clear c16
                      try clear c16b0
                      try clear c16b1
                      try clear c17
                      try clear c17b0
                      try clear c17b1
                      try clear c19
                      try clear c22
                      try clear c26
                      try clear c27
                      try clear c28
                      try clear c32
                      try clear c32b0
                      try clear c32b1
                      try clear c33
                      try clear c33b0
                      try clear c33b1
                      try clear c38
                      try clear p2
                      obtain ⟨x17_4, rfl, HA, HK4, HB⟩ := hrel
                      cases gk with
                      | zero => exact absurd HA.out (by simp [odometerlaw03_LabelParses.l0])
                      | succ k4 =>
                        have H := HA.out
                        clear HA
                        simp only [odometerlaw03_LabelParses.l0] at H
                        by_cases c39 : x17_4 < (l2.length : Int)
                        · rw [if_pos c39] at H
                          have c39b0 : decide (x17_4 < (l2.length : Int)) = true := decide_eq_true c39
                          clear c39
                          by_cases c40 : 0 ≤ x17_4
                          · rw [if_pos c40] at H
                            have c40b0 : decide (0 ≤ x17_4) = true := decide_eq_true c40
                            clear c40
                            replace H := Option.bind_eq_some_iff.mp H
                            obtain ⟨⟨t343, t344⟩, A410, H⟩ := H
                            replace H : ((odometerref03_Get.f k4 a0 (rdOf ByteArray.empty l2 x17_4)).bind fun bt346 => (if t343.toList = bt346.1.toList then (if (t344 != bt346.2) = true then (some false) else (odometerlaw03_LabelParses.l0 k4 a0 l2 (wrap64 (x17_4 + 1)))) else (some false))) = some r := H
                            have A41 := Aside0.mk A410
                            clear A410
                            replace H := Option.bind_eq_some_iff.mp H
                            obtain ⟨⟨t346, t347⟩, A420, H⟩ := H
                            replace H : (if t343.toList = t346.toList then (if (t344 != t347) = true then (some false) else (odometerlaw03_LabelParses.l0 k4 a0 l2 (wrap64 (x17_4 + 1)))) else (some false)) = some r := H
                            have A42 := Aside0.mk A420
                            clear A420
                            by_cases c43 : t343.toList = t346.toList
                            · rw [if_pos c43] at H
                              have c43b0 : (t343.toList == t346.toList) = true := beq_iff_eq.mpr c43
                              have c43b1 : (t343.toList != t346.toList) = false := bne_eq_false_iff_eq.mpr c43
                              clear c43
                              by_cases c44 : (t344 != t347) = true
                              · rw [if_pos c44] at H
                                have c44b0 : (t344 != t347) = true := c44
                                (try (have c44b1 : decide (t344 = t347) = false := by simpa using c44))
                                (try (have c44b2 : (t344 == t347) = false := by simpa using c44))
                                (try (have c44b3 : ¬ (t344 = t347) := by simpa using c44))
                                clear c44
                                obtain rfl := Option.some.inj H
                                have p342 : 0 ≤ (x17_4 : Int) := of_decide_eq_true (by first | (with_reducible assumption) | assumption)
                                have q342 : x17_4 < (l2.length : Int) := of_decide_eq_true (by first | (with_reducible assumption) | assumption)
                                obtain ⟨ad342, e342, hx342_0⟩ := Kd.at_string HR2.out x17_4 p342 q342
                                cases e342
                                replace hx342_0 := (HB.out.cell (World.block_lt_of_cell? w _ hx342_0)).trans hx342_0
                                replace p342 := eq_true p342
                                replace q342 := eq_true q342
                                go_wp2_with (first | ((with_reducible refine gate_callee (f := 31) rfl ?_); refine goesL_ (some 109) rfl rfl Try.func31 (by kernel_rfl) rfl #[.string a0, .string (rdOf ByteArray.empty l2 x17_4)] rfl (by (try simp only [List.map_toArray, List.map_cons, List.map_nil]); first | done | rfl | (simp only [List.length_drop, List.length_take]; rfl)) ?_; (with_reducible refine (label_Get.calls k4 a0 (rdOf ByteArray.empty l2 x17_4) t343 t344 _ ?side1 A41.out).mono ?_); (case side1 => exact SH.below hSH (by repeat (first | (with_reducible first | exact HB.out | apply below_alloc | apply pw_below_drewN | apply below_drew1) | exact HB.out))); rintro e w45 ⟨rfl, hb⟩; refine ⟨_, rfl, ?_⟩; have n0_ := Aside0.mk (below_step (by repeat (first | (with_reducible first | exact HB.out | apply below_alloc | apply pw_below_drewN | apply below_drew1) | exact HB.out)) hb); clear HB; have HB := n0_; clear n0_; (try clear hb); (try clear hb2); (try clear hk); (try clear hi); have p345 : 0 ≤ (x17_4 : Int) := of_decide_eq_true (by first | (with_reducible assumption) | assumption); have q345 : x17_4 < (l2.length : Int) := of_decide_eq_true (by first | (with_reducible assumption) | assumption); obtain ⟨ad345, e345, hx345_0⟩ := Kd.at_string HR2.out x17_4 p345 q345; obtain rfl : ad342 = ad345 := (by injection e345); replace hx345_0 := (HB.out.cell (World.block_lt_of_cell? w _ hx345_0)).trans hx345_0; replace p345 := eq_true p345; replace q345 := eq_true q345) | ((with_reducible refine gate_callee (f := 32) rfl ?_); refine goesL_ (some 118) rfl rfl Try.func32 (by kernel_rfl) rfl #[.string a0, .string (rdOf ByteArray.empty l2 x17_4)] rfl (by (try simp only [List.map_toArray, List.map_cons, List.map_nil]); first | done | rfl | (simp only [List.length_drop, List.length_take]; rfl)) ?_; (with_reducible refine (odometerref03_Get.calls k4 a0 (rdOf ByteArray.empty l2 x17_4) t346 t347 _ A42.out).mono ?_); rintro e w46 ⟨rfl, hb⟩; refine ⟨_, rfl, ?_⟩; have n0_ := Aside0.mk (below_step (by repeat (first | (with_reducible first | exact HB.out | apply below_alloc | apply pw_below_drewN | apply below_drew1) | exact HB.out)) hb); clear HB; have HB := n0_; clear n0_; (try clear hb); (try clear hb2); (try clear hk); (try clear hi)))
                                go_ret
                                exact ⟨by first | rfl | (simp [errW_none, errW_some] <;> rfl) | (simp [*, errW_none, errW_some] <;> rfl), by repeat (first | (with_reducible first | exact HB.out | apply below_alloc | apply pw_below_drewN | apply below_drew1) | exact HB.out)⟩
                              · rw [if_neg c44] at H
                                have c44b0 : (t344 != t347) = false := by simpa using c44
                                (try (have c44b1 : decide (t344 = t347) = true := by simpa using c44))
                                (try (have c44b2 : (t344 == t347) = true := by simpa using c44))
                                clear c44
                                have H' := Aside0.mk H
                                clear H
                                have p342 : 0 ≤ (x17_4 : Int) := of_decide_eq_true (by first | (with_reducible assumption) | assumption)
                                have q342 : x17_4 < (l2.length : Int) := of_decide_eq_true (by first | (with_reducible assumption) | assumption)
                                obtain ⟨ad342, e342, hx342_0⟩ := Kd.at_string HR2.out x17_4 p342 q342
                                cases e342
                                replace hx342_0 := (HB.out.cell (World.block_lt_of_cell? w _ hx342_0)).trans hx342_0
                                replace p342 := eq_true p342
                                replace q342 := eq_true q342
                                go_wp2_with (first | ((with_reducible refine gate_callee (f := 31) rfl ?_); refine goesL_ (some 109) rfl rfl Try.func31 (by kernel_rfl) rfl #[.string a0, .string (rdOf ByteArray.empty l2 x17_4)] rfl (by (try simp only [List.map_toArray, List.map_cons, List.map_nil]); first | done | rfl | (simp only [List.length_drop, List.length_take]; rfl)) ?_; (with_reducible refine (label_Get.calls k4 a0 (rdOf ByteArray.empty l2 x17_4) t343 t344 _ ?side1 A41.out).mono ?_); (case side1 => exact SH.below hSH (by repeat (first | (with_reducible first | exact HB.out | apply below_alloc | apply pw_below_drewN | apply below_drew1) | exact HB.out))); rintro e w47 ⟨rfl, hb⟩; refine ⟨_, rfl, ?_⟩; have n0_ := Aside0.mk (below_step (by repeat (first | (with_reducible first | exact HB.out | apply below_alloc | apply pw_below_drewN | apply below_drew1) | exact HB.out)) hb); clear HB; have HB := n0_; clear n0_; (try clear hb); (try clear hb2); (try clear hk); (try clear hi); have p345 : 0 ≤ (x17_4 : Int) := of_decide_eq_true (by first | (with_reducible assumption) | assumption); have q345 : x17_4 < (l2.length : Int) := of_decide_eq_true (by first | (with_reducible assumption) | assumption); obtain ⟨ad345, e345, hx345_0⟩ := Kd.at_string HR2.out x17_4 p345 q345; obtain rfl : ad342 = ad345 := (by injection e345); replace hx345_0 := (HB.out.cell (World.block_lt_of_cell? w _ hx345_0)).trans hx345_0; replace p345 := eq_true p345; replace q345 := eq_true q345) | ((with_reducible refine gate_callee (f := 32) rfl ?_); refine goesL_ (some 118) rfl rfl Try.func32 (by kernel_rfl) rfl #[.string a0, .string (rdOf ByteArray.empty l2 x17_4)] rfl (by (try simp only [List.map_toArray, List.map_cons, List.map_nil]); first | done | rfl | (simp only [List.length_drop, List.length_take]; rfl)) ?_; (with_reducible refine (odometerref03_Get.calls k4 a0 (rdOf ByteArray.empty l2 x17_4) t346 t347 _ A42.out).mono ?_); rintro e w48 ⟨rfl, hb⟩; refine ⟨_, rfl, ?_⟩; have n0_ := Aside0.mk (below_step (by repeat (first | (with_reducible first | exact HB.out | apply below_alloc | apply pw_below_drewN | apply below_drew1) | exact HB.out)) hb); clear HB; have HB := n0_; clear n0_; (try clear hb); (try clear hb2); (try clear hk); (try clear hi)))
                                go_roundg k4
                                case measure => have := HJ3.out; have := HJ12.out; have := HJ28.out; have := HK4.out; omega
                                case rel => exact ⟨(wrap64 (x17_4 + 1)), (by first | rfl | (simp; done) | (simp [*]; done)), H', ⟨by have := HJ3.out; have := HJ12.out; have := HJ28.out; have := HK4.out; omega⟩, ⟨by repeat (first | (with_reducible first | exact HB.out | apply below_alloc | apply pw_below_drewN | apply below_drew1) | exact HB.out)⟩⟩
                            · rw [if_neg c43] at H
                              have c43b0 : (t343.toList == t346.toList) = false := beq_eq_false_iff_ne.mpr c43
                              have c43b1 : (t343.toList != t346.toList) = true := bne_iff_ne.mpr c43
                              obtain rfl := Option.some.inj H
                              have p342 : 0 ≤ (x17_4 : Int) := of_decide_eq_true (by first | (with_reducible assumption) | assumption)
                              have q342 : x17_4 < (l2.length : Int) := of_decide_eq_true (by first | (with_reducible assumption) | assumption)
                              obtain ⟨ad342, e342, hx342_0⟩ := Kd.at_string HR2.out x17_4 p342 q342
                              cases e342
                              replace hx342_0 := (HB.out.cell (World.block_lt_of_cell? w _ hx342_0)).trans hx342_0
                              replace p342 := eq_true p342
                              replace q342 := eq_true q342
                              go_wp2_with (first | ((with_reducible refine gate_callee (f := 31) rfl ?_); refine goesL_ (some 109) rfl rfl Try.func31 (by kernel_rfl) rfl #[.string a0, .string (rdOf ByteArray.empty l2 x17_4)] rfl (by (try simp only [List.map_toArray, List.map_cons, List.map_nil]); first | done | rfl | (simp only [List.length_drop, List.length_take]; rfl)) ?_; (with_reducible refine (label_Get.calls k4 a0 (rdOf ByteArray.empty l2 x17_4) t343 t344 _ ?side1 A41.out).mono ?_); (case side1 => exact SH.below hSH (by repeat (first | (with_reducible first | exact HB.out | apply below_alloc | apply pw_below_drewN | apply below_drew1) | exact HB.out))); rintro e w49 ⟨rfl, hb⟩; refine ⟨_, rfl, ?_⟩; have n0_ := Aside0.mk (below_step (by repeat (first | (with_reducible first | exact HB.out | apply below_alloc | apply pw_below_drewN | apply below_drew1) | exact HB.out)) hb); clear HB; have HB := n0_; clear n0_; (try clear hb); (try clear hb2); (try clear hk); (try clear hi); have p345 : 0 ≤ (x17_4 : Int) := of_decide_eq_true (by first | (with_reducible assumption) | assumption); have q345 : x17_4 < (l2.length : Int) := of_decide_eq_true (by first | (with_reducible assumption) | assumption); obtain ⟨ad345, e345, hx345_0⟩ := Kd.at_string HR2.out x17_4 p345 q345; obtain rfl : ad342 = ad345 := (by injection e345); replace hx345_0 := (HB.out.cell (World.block_lt_of_cell? w _ hx345_0)).trans hx345_0; replace p345 := eq_true p345; replace q345 := eq_true q345) | ((with_reducible refine gate_callee (f := 32) rfl ?_); refine goesL_ (some 118) rfl rfl Try.func32 (by kernel_rfl) rfl #[.string a0, .string (rdOf ByteArray.empty l2 x17_4)] rfl (by (try simp only [List.map_toArray, List.map_cons, List.map_nil]); first | done | rfl | (simp only [List.length_drop, List.length_take]; rfl)) ?_; (with_reducible refine (odometerref03_Get.calls k4 a0 (rdOf ByteArray.empty l2 x17_4) t346 t347 _ A42.out).mono ?_); rintro e w50 ⟨rfl, hb⟩; refine ⟨_, rfl, ?_⟩; have n0_ := Aside0.mk (below_step (by repeat (first | (with_reducible first | exact HB.out | apply below_alloc | apply pw_below_drewN | apply below_drew1) | exact HB.out)) hb); clear HB; have HB := n0_; clear n0_; (try clear hb); (try clear hb2); (try clear hk); (try clear hi)))
                              go_ret
                              exact ⟨by first | rfl | (simp [errW_none, errW_some] <;> rfl) | (simp [*, errW_none, errW_some] <;> rfl), by repeat (first | (with_reducible first | exact HB.out | apply below_alloc | apply pw_below_drewN | apply below_drew1) | exact HB.out)⟩
                          · rw [if_neg c40] at H
                            exact absurd H (by simp)
                        · rw [if_neg c39] at H
                          have c39b0 : decide (x17_4 < (l2.length : Int)) = false := decide_eq_false c39
                          clear c39
                          replace H := Option.bind_eq_some_iff.mp H
                          obtain ⟨t341, A510, H⟩ := H
                          replace H : (some t341) = some r := H
                          have A51 := Aside0.mk A510
                          clear A510
                          obtain rfl := Option.some.inj H
                          go_wp2_with (first | ((with_reducible refine gate_callee (f := 8) rfl ?_); refine goesL_ (some 129) rfl rfl Try.func8 (by kernel_rfl) rfl #[] rfl (by (try simp only [List.map_toArray, List.map_cons, List.map_nil]); first | done | rfl | (simp only [List.length_drop, List.length_take]; rfl)) ?_; (with_reducible refine (odometerlaw03_known.calls k4  t341 _ A51.out).mono ?_); rintro e w52 ⟨rfl, hb⟩; refine ⟨_, rfl, ?_⟩; have n0_ := Aside0.mk (below_step (by repeat (first | (with_reducible first | exact HB.out | apply below_alloc | apply pw_below_drewN | apply below_drew1) | exact HB.out)) hb); clear HB; have HB := n0_; clear n0_; (try clear hb); (try clear hb2); (try clear hk); (try clear hi)))
                          go_ret
                          exact ⟨by first | rfl | (simp [errW_none, errW_some] <;> rfl) | (simp [*, errW_none, errW_some] <;> rfl), by repeat (first | (with_reducible first | exact HB.out | apply below_alloc | apply pw_below_drewN | apply below_drew1) | exact HB.out)⟩

end Go.Proofs.Ytapfpnfdpcgpaaa.PLap
