/- Pruned. -/
import Derived.Test.YtcikjeiebpmmcaaGreatQyPMchx0
import Derived.Test.YtcikjeiebpmmcaaGreatQyPMchx5
import Derived.Test.YtcikjeiebpmmcaaGreatQyPMchx6
import Derived.Test.YtcikjeiebpmmcaaGreatQyPMchx7
namespace Go.Proofs.YtcikjeiebpmmcaaGreat.PMch
open Go.RowKit Go.Proofs.YtcikjeiebpmmcaaGreatW.PrintWords Go.Proofs.YtcikjeiebpmmcaaGreatW.PrintLast Go.Proofs.YtcikjeiebpmmcaaGreatW.PrintMore
attribute [local go_sem] max2_int max_two
set_option linter.unusedVariables false
set_option linter.unusedSimpArgs false
def label_value.l0 : Nat → ByteArray → Int → Option (ByteArray × ByteArray × Bool)
 | 0, _, _ => none
 | k + 1, x0, x5 => if x5 < (x0.size : Int) then (if 0 ≤ x5 then (if (bt x0 x5) = 92 then (label_value.l0 k x0 (wrap64 ((wrap64 (x5 + 1)) + 1))) else (if (bt x0 x5) = 34 then (if x5 ≤ (x0.size : Int) then ((label_Unescape.f k (x0.extract 0 (x5 : Int).toNat)).bind fun bt166 => (if 0 ≤ (wrap64 (x5 + 1)) then (if (wrap64 (x5 + 1)) ≤ (x0.size : Int) then (some (bt166.1, x0.extract ((wrap64 (x5 + 1)) : Int).toNat x0.size, bt166.2)) else (none)) else (none))) else (none)) else (label_value.l0 k x0 (wrap64 (x5 + 1))))) else (none)) else (some ((⟨#[]⟩ : ByteArray), (⟨#[]⟩ : ByteArray), false))
def label_value.f (k : Nat) (a0 : ByteArray) : Option (ByteArray × ByteArray × Bool) := label_value.l0 k a0 0
theorem label_value.mono_l : ∀ k, (∀ y0 y1, LeO (label_value.l0 k y0 y1) (label_value.l0 (k + 1) y0 y1))
 | 0 => fun _ _ r h => by simp [label_value.l0] at h
 | k + 1 => by
  have ih0 := label_value.mono_l k
  ·intro y0 y1
   unfold label_value.l0
   repeat' first
   | (with_reducible first | exact ih0 _ _ | exact label_Unescape.mono _ _ | exact LeO.refl _ | exact LeO.none _ | refine LeO.ite ?_ ?_ | refine LeO.bind ?_ (fun _ => ?_))
theorem label_value.mono : ∀ a0 k, LeO (label_value.f k a0) (label_value.f (k + 1) a0) := by
 intro a0 k
 have ih0 := label_value.mono_l k
 unfold label_value.f
 repeat' first
  | (with_reducible first | exact ih0 _ _ | exact label_Unescape.mono _ _ | exact LeO.refl _ | exact LeO.none _ | refine LeO.ite ?_ ?_ | refine LeO.bind ?_ (fun _ => ?_))
set_option maxHeartbeats 8000000 in
set_option maxRecDepth 100000 in
theorem label_value.calls (k : Nat) (a0 : ByteArray) (r1 : ByteArray) (r2 : ByteArray) (r3 : Bool) (w : World) (h : label_value.f k a0 = some (r1, r2, r3)) :
 Calls Tryz.prog 80 #[.string a0] w fun e w' => e = .returned (.tuple #[.string r1, .string r2, .bool r3]) ∧ Below w.heap.size w w' := by
 have HB := A_ (Below.refl w.heap.size w)
 have H : (label_value.l0 k a0 0) = some (r1, r2, r3) := h
 clear h
 have H' := A_ H
 clear H
 go_enter Tryz.func80, Tryz.ntmps80
 go_wp2
 repeat (go_quiet (fail); try go_wp2)
 go_loopg [5] k (fun kq v5 w' => ∃ (x5_1 : Int), v5 = .int .i64 x5_1 ∧ Aside0 (label_value.l0 kq a0 x5_1 = some (r1, r2, r3)) ∧ Aside0 (kq ≤ k) ∧ Aside0 (Below w.heap.size w w'))
 case atStart => exact ⟨(0), (by rfl), H', ⟨Nat.le_refl _⟩, ⟨HB.out⟩⟩
 case round =>
  clear H'
  obtain ⟨x5_1, rfl, HA, HK1, HB⟩ := hrel
  cases gk with
  | zero => exact absurd HA.out (by simp [label_value.l0])
  | succ k1 =>
   have H := HA.out
   clear HA
   simp only [label_value.l0] at H
   by_cases c2 : x5_1 < (a0.size : Int)
   rotate_left
   ·rw [if_neg c2] at H
    have c2b0 := decide_eq_false c2
    clear c2
    simp only [Option.some.injEq, Prod.mk.injEq] at H
    obtain ⟨rfl, rfl, rfl⟩ := H
    go_wp2
    repeat (go_quiet (fail); try go_wp2)
    go_ret3
    exact ⟨by rfl, HB.out⟩
   rw [if_pos c2] at H
   have c2b0 := decide_eq_true c2
   clear c2
   by_cases c3 : 0 ≤ x5_1
   rotate_left
   ·rw [if_neg c3] at H
    exact absurd H (by simp)
   rw [if_pos c3] at H
   have c3b0 := decide_eq_true c3
   clear c3
   by_cases c5 : (bt a0 x5_1) = 92
   ·rw [if_pos c5] at H
    have c5b0 : ((bt a0 x5_1) == 92) = true := beq_iff_eq.mpr c5
    have c5b1 : ((bt a0 x5_1) != 92) = false := bne_eq_false_iff_eq.mpr c5
    clear c5
    have H' := A_ H
    clear H
    have p4 : 0 ≤ (x5_1 : Int) := od_
    have q4 : x5_1 < (a0.size : Int) := od_
    have hx4 := bt_at a0 x5_1
    replace p4 := eq_true p4
    replace q4 := eq_true q4
    go_wp2
    repeat (go_quiet (fail); try go_wp2)
    go_roundg k1
    case measure => have := HK1.out; omega
    case rel => exact ⟨(wrap64 ((wrap64 (x5_1 + 1)) + 1)), (by rfl), H', ⟨by have := HK1.out; omega⟩, ⟨HB.out⟩⟩
   rw [if_neg c5] at H
   have c5b0 : ((bt a0 x5_1) == 92) = false := beq_eq_false_iff_ne.mpr c5
   have c5b1 : ((bt a0 x5_1) != 92) = true := bne_iff_ne.mpr c5
   by_cases c6 : (bt a0 x5_1) = 34
   rotate_left
   ·rw [if_neg c6] at H
    have c6b0 : ((bt a0 x5_1) == 34) = false := beq_eq_false_iff_ne.mpr c6
    have c6b1 : ((bt a0 x5_1) != 34) = true := bne_iff_ne.mpr c6
    have H' := A_ H
    clear H
    have p4 : 0 ≤ (x5_1 : Int) := od_
    have q4 : x5_1 < (a0.size : Int) := od_
    have hx4 := bt_at a0 x5_1
    replace p4 := eq_true p4
    replace q4 := eq_true q4
    go_wp2
    repeat (go_quiet (fail); try go_wp2)
    go_roundg k1
    case measure => have := HK1.out; omega
    case rel => exact ⟨(wrap64 (x5_1 + 1)), (by rfl), H', ⟨by have := HK1.out; omega⟩, ⟨HB.out⟩⟩
   rw [if_pos c6] at H
   have c6b0 : ((bt a0 x5_1) == 34) = true := beq_iff_eq.mpr c6
   have c6b1 : ((bt a0 x5_1) != 34) = false := bne_eq_false_iff_eq.mpr c6
   clear c6
   have c7b0 := eq_true (od_ : 0 ≤ x5_1)
   by_cases c8 : x5_1 ≤ (a0.size : Int)
   rotate_left
   ·rw [if_neg c8] at H
    exact absurd H (by simp)
   rw [if_pos c8] at H
   have c8b0 := eq_true c8
   have c8b1 := decide_eq_true c8
   clear c8
   replace H := Option.bind_eq_some_iff.mp H
   obtain ⟨⟨t166, t167⟩, A90, H⟩ := H
   replace H : (if 0 ≤ (wrap64 (x5_1 + 1)) then (if (wrap64 (x5_1 + 1)) ≤ (a0.size : Int) then (some (t166, a0.extract ((wrap64 (x5_1 + 1)) : Int).toNat a0.size, t167)) else (none)) else (none)) = some (r1, r2, r3) := H
   have A9 := A_ A90
   clear A90
   obtain ⟨ji10, hji10⟩ : ∃ j_ : Int, (wrap64 (x5_1 + 1)) = j_ := ⟨_, rfl⟩
   replace H : (if 0 ≤ (ji10) then (if (ji10) ≤ (a0.size : Int) then (some (t166, a0.extract ((ji10) : Int).toNat a0.size, t167)) else (none)) else (none)) = some (r1, r2, r3) := by (rw [hji10] at H; exact H)
   (try rw [hji10] at A9)
   have hji10w : (IntKind.i64.wrap (x5_1 + 1)) = ji10 := (i64_w _).trans hji10
   by_cases c11 : 0 ≤ (ji10)
   rotate_left
   ·rw [if_neg c11] at H
    exact absurd H (by simp)
   rw [if_pos c11] at H
   have c11b0 := eq_true c11
   have c11b1 := decide_eq_true c11
   clear c11
   by_cases c12 : (ji10) ≤ (a0.size : Int)
   rotate_left
   ·rw [if_neg c12] at H
    exact absurd H (by simp)
   rw [if_pos c12] at H
   have c12b0 := eq_true c12
   have c12b1 := decide_eq_true c12
   clear c12
   simp only [Option.some.injEq, Prod.mk.injEq] at H
   obtain ⟨rfl, rfl, rfl⟩ := H
   have p4 : 0 ≤ (x5_1 : Int) := od_
   have q4 : x5_1 < (a0.size : Int) := od_
   have hx4 := bt_at a0 x5_1
   replace p4 := eq_true p4
   replace q4 := eq_true q4
   go_wp2_with (first | (go_at_call 99; (with_reducible refine (label_Unescape.calls k1 (a0.extract 0 (x5_1 : Int).toNat) t166 t167 _ A9.out).mono ?_); rintro e w13 ⟨rfl, hb⟩; have n0_ := A_ (below_step HB.out hb); clear HB; have HB := n0_; clear n0_; (try clear hb); (try clear hb2); (try clear hk); (try clear hi)))
   repeat (go_quiet (first | (go_at_call 99; (with_reducible refine (label_Unescape.calls k1 (a0.extract 0 (x5_1 : Int).toNat) t166 t167 _ A9.out).mono ?_); rintro e w13 ⟨rfl, hb⟩; have n0_ := A_ (below_step (bw_ HB.out) hb); clear HB; have HB := n0_; clear n0_; (try clear hb); (try clear hb2); (try clear hk); (try clear hi))); try go_wp2_with (first | (go_at_call 99; (with_reducible refine (label_Unescape.calls k1 (a0.extract 0 (x5_1 : Int).toNat) t166 t167 _ A9.out).mono ?_); rintro e w13 ⟨rfl, hb⟩; have n0_ := A_ (below_step (bw_ HB.out) hb); clear HB; have HB := n0_; clear n0_; (try clear hb); (try clear hb2); (try clear hk); (try clear hi))))
   go_ret3
   exact ⟨by rfl, by repeat ((with_reducible first | exact HB.out | apply pw_below_drewN))⟩
def stringslite_HasPrefix.f (a0 : ByteArray) (a1 : ByteArray) : Option (Bool) := if (a0.size : Int) ≥ (a1.size : Int) then (if 0 ≤ (a1.size : Int) then (if (a1.size : Int) ≤ (a0.size : Int) then (some ((a0.extract 0 ((a1.size : Int) : Int).toNat).toList == a1.toList)) else (none)) else (none)) else (some false)
set_option maxHeartbeats 8000000 in
set_option maxRecDepth 100000 in
theorem stringslite_HasPrefix.calls (a0 : ByteArray) (a1 : ByteArray) (r : Bool) (w : World) (h : stringslite_HasPrefix.f a0 a1 = some r) :
 Calls Tryz.prog 100 #[.string a0, .string a1] w fun e w' => e = .returned (.bool r) ∧ Drawn0 w w' := by
 have H : (if (a0.size : Int) ≥ (a1.size : Int) then (if 0 ≤ (a1.size : Int) then (if (a1.size : Int) ≤ (a0.size : Int) then (some ((a0.extract 0 ((a1.size : Int) : Int).toNat).toList == a1.toList)) else (none)) else (none)) else (some false)) = some r := h
 clear h
 by_cases c3 : (a0.size : Int) ≥ (a1.size : Int)
 rotate_left
 ·rw [if_neg c3] at H
  have c3b0 := decide_eq_false c3
  have c3b1 : decide (a1.size ≤ a0.size) = false := decide_eq_false (fun h => c3 (Int.ofNat_le.mpr h))
  clear c3
  obtain rfl := Option.some.inj H
  go_enter Tryz.func100, Tryz.ntmps100
  go_wp2
  go_ret
  exact ⟨by rfl, by repeat (exact Drawn0.refl _)⟩
 rw [if_pos c3] at H
 have c3b0 := decide_eq_true c3
 have c3b1 : decide (a1.size ≤ a0.size) = true := decide_eq_true (Int.ofNat_le.mp c3)
 clear c3
 by_cases c4 : 0 ≤ (a1.size : Int)
 rotate_left
 ·rw [if_neg c4] at H
  exact absurd H (by simp)
 rw [if_pos c4] at H
 have c4b0 := eq_true c4
 have c4b1 := decide_eq_true c4
 clear c4
 by_cases c5 : (a1.size : Int) ≤ (a0.size : Int)
 rotate_left
 ·rw [if_neg c5] at H
  exact absurd H (by simp)
 rw [if_pos c5] at H
 have c5b0 := eq_true c5
 have c5b1 := decide_eq_true c5
 clear c5
 obtain rfl := Option.some.inj H
 go_enter Tryz.func100, Tryz.ntmps100
 go_wp2
 go_ret
 exact ⟨by rfl, by repeat (exact Drawn0.refl _)⟩
def strings_HasPrefix.f (a0 : ByteArray) (a1 : ByteArray) : Option (Bool) := (stringslite_HasPrefix.f a0 a1).bind fun t168 => (some t168)
set_option maxHeartbeats 8000000 in
set_option maxRecDepth 100000 in
theorem strings_HasPrefix.calls (a0 : ByteArray) (a1 : ByteArray) (r : Bool) (w : World) (h : strings_HasPrefix.f a0 a1 = some r) :
 Calls Tryz.prog 81 #[.string a0, .string a1] w fun e w' => e = .returned (.bool r) ∧ Drawn0 w w' := by
 have H : ((stringslite_HasPrefix.f a0 a1).bind fun t168 => (some t168)) = some r := h
 clear h
 replace H := Option.bind_eq_some_iff.mp H
 obtain ⟨t168, A30, H⟩ := H
 replace H : (some t168) = some r := H
 have A3 := A_ A30
 clear A30
 obtain rfl := Option.some.inj H
 go_enter Tryz.func81, Tryz.ntmps81
 go_wp2_with (first | ((with_reducible refine gate_callee (f := 100) rfl ?_); refine goesL_ (some 7) rfl rfl Tryz.func100 (by kernel_rfl) rfl #[.string a0, .string a1] rfl mp_ ?_; (with_reducible refine (stringslite_HasPrefix.calls a0 a1 t168 _ A3.out).mono ?_); rintro e w' ⟨rfl, ⟨nd, rfl⟩⟩; refine ⟨_, rfl, ?_⟩))
 go_ret
 exact ⟨by rfl, by repeat (first | exact Drawn0.refl _ | apply Drawn0.step)⟩
mutual
def label_labels.l0 : Nat → ByteArray → List (S96) → Option ((List (S96)) × Bool)
 | 0, _, _ => none
 | k + 1, x0, x2 => (strings_Cut.f x0 (⟨#[61, 34]⟩ : ByteArray)).bind fun bt169 => ((label_value.f k bt169.2.1).bind fun bt172 => (if bt169.2.2 = true then (if bt172.2.2 = true then (label_labels.j1 k x2 bt169.1 bt172.1 bt172.2.1 (decide ((x2.length : Int) > 16))) else (label_labels.j1 k x2 bt169.1 bt172.1 bt172.2.1 true)) else (label_labels.j1 k x2 bt169.1 bt172.1 bt172.2.1 true)))
def label_labels.j1 : Nat → List (S96) → ByteArray → ByteArray → ByteArray → Bool → Option ((List (S96)) × Bool)
 | 0, _, _, _, _, _ => none
 | k + 1, x2, x4, x7, x8, x32 => if x32 = true then (some (([] : List (S96)), false)) else (if x2.length < 4398046511104 then ((some (x2 ++ [(⟨x4, x7⟩ : S96)] : List (S96))).bind fun y175 => (if x8.toList = ([125] : List UInt8) then (some (y175, true)) else ((strings_HasPrefix.f x8 (⟨#[44]⟩ : ByteArray)).bind fun t178 => (if t178 = true then (if 1 ≤ (x8.size : Int) then (label_labels.l0 k (x8.extract 1 x8.size) y175) else (none)) else (some (([] : List (S96)), false)))))) else (none))
end
def label_labels.f (k : Nat) (a0 : ByteArray) : Option ((List (S96)) × Bool) := label_labels.l0 k a0 ([] : List (S96))
theorem label_labels.mono_l : ∀ k, (∀ y0 y1, LeO (label_labels.l0 k y0 y1) (label_labels.l0 (k + 1) y0 y1)) ∧ (∀ y0 y1 y2 y3 y4, LeO (label_labels.j1 k y0 y1 y2 y3 y4) (label_labels.j1 (k + 1) y0 y1 y2 y3 y4))
 | 0 => ⟨fun _ _ r h => by simp [label_labels.l0] at h, fun _ _ _ _ _ r h => by simp [label_labels.j1] at h⟩
 | k + 1 => by
  obtain ⟨ih0, ih1⟩ := label_labels.mono_l k
  refine ⟨?_, ?_⟩
  rotate_left
  ·intro y0 y1 y2 y3 y4
   unfold label_labels.j1
   repeat' first
   | (with_reducible first | exact ih0 _ _ | exact ih1 _ _ _ _ _ | exact label_value.mono _ _ | exact LeO.refl _ | exact LeO.none _ | refine LeO.ite ?_ ?_ | refine LeO.bind ?_ (fun _ => ?_))
  intro y0 y1
  unfold label_labels.l0
  repeat' first
  | (with_reducible first | exact ih0 _ _ | exact ih1 _ _ _ _ _ | exact label_value.mono _ _ | exact LeO.refl _ | exact LeO.none _ | refine LeO.ite ?_ ?_ | refine LeO.bind ?_ (fun _ => ?_))
theorem label_labels.mono : ∀ a0 k, LeO (label_labels.f k a0) (label_labels.f (k + 1) a0) := by
 intro a0 k
 obtain ⟨ih0, ih1⟩ := label_labels.mono_l k
 unfold label_labels.f
 repeat' first
  | (with_reducible first | exact ih0 _ _ | exact ih1 _ _ _ _ _ | exact label_value.mono _ _ | exact LeO.refl _ | exact LeO.none _ | refine LeO.ite ?_ ?_ | refine LeO.bind ?_ (fun _ => ?_))
set_option maxHeartbeats 8000000 in
set_option maxRecDepth 100000 in
theorem label_labels.calls (k : Nat) (a0 : ByteArray) (r1 : List (S96)) (r2 : Bool) (w : World) (hSH : SH w) (h : label_labels.f k a0 = some (r1, r2)) :
 Calls Tryz.prog 56 #[.string a0] w fun e w' => ∃ v0_ : Value, e = .returned (.tuple #[v0_, .bool r2]) ∧ Kd.R k96 96 w' w.heap.size (fun _ => True) v0_ r1 ∧ Below w.heap.size w w' := by
 have hu96 := Tryz.underlying96
 have HB := A_ (Below.refl w.heap.size w)
 have H : (label_labels.l0 k a0 ([] : List (S96))) = some (r1, r2) := h
 clear h
 have H' := A_ H
 clear H
 go_enter Tryz.func56, Tryz.ntmps56
 go_wp2
 go_loopg [0, 2] k (fun kq v0 v2 w' => ∃ (x0_1 : ByteArray) (x2_1 : List (S96)), v0 = .string x0_1 ∧ Aside0 (label_labels.l0 kq x0_1 x2_1 = some (r1, r2)) ∧ Aside0 (kq ≤ k) ∧ Aside0 (Kd.R k96 96 w' w.heap.size (fun _ => True) v2 x2_1) ∧ Aside0 (Below w.heap.size w w'))
 case atStart => exact ⟨(a0), (([] : List (S96))), (by rfl), H', ⟨Nat.le_refl _⟩, ⟨by exact Kd.R_nil _ _ _ _ _⟩, ⟨HB.out⟩⟩
 case round =>
  clear H'
  obtain ⟨x0_1, x2_1, rfl, HA, HK1, HO_2, HB⟩ := hrel
  cases gk with
  | zero => exact absurd HA.out (by simp [label_labels.l0])
  | succ k1 =>
   have H := HA.out
   clear HA
   simp only [label_labels.l0] at H
   replace H := Option.bind_eq_some_iff.mp H
   obtain ⟨⟨t169, t170, t171⟩, A20, H⟩ := H
   replace H : ((label_value.f k1 t170).bind fun bt172 => (if t171 = true then (if bt172.2.2 = true then (label_labels.j1 k1 x2_1 t169 bt172.1 bt172.2.1 (decide ((x2_1.length : Int) > 16))) else (label_labels.j1 k1 x2_1 t169 bt172.1 bt172.2.1 true)) else (label_labels.j1 k1 x2_1 t169 bt172.1 bt172.2.1 true))) = some (r1, r2) := H
   have A2 := A_ A20
   clear A20
   replace H := Option.bind_eq_some_iff.mp H
   obtain ⟨⟨t172, t173, t174⟩, A30, H⟩ := H
   replace H : (if t171 = true then (if t174 = true then (label_labels.j1 k1 x2_1 t169 t172 t173 (decide ((x2_1.length : Int) > 16))) else (label_labels.j1 k1 x2_1 t169 t172 t173 true)) else (label_labels.j1 k1 x2_1 t169 t172 t173 true)) = some (r1, r2) := H
   have A3 := A_ A30
   clear A30
   have HC4 := A_ H
   clear H
   go_upto_region 3 with (first | ((with_reducible refine gate_callee (f := 55) rfl ?_); refine goesL_ (some 12) rfl rfl Tryz.func55 (by kernel_rfl) rfl #[.string x0_1, .string (⟨#[61, 34]⟩ : ByteArray)] rfl mp_ ?_; (with_reducible refine (strings_Cut.calls x0_1 (⟨#[61, 34]⟩ : ByteArray) t169 t170 t171 _ ?side1 A2.out).mono ?_); (case side1 => exact SH.below hSH HB.out); rintro e w' ⟨rfl, ⟨nd, rfl⟩⟩; refine ⟨_, rfl, ?_⟩) | ((with_reducible refine gate_callee (f := 80) rfl ?_); refine goesL_ (some 18) rfl rfl Tryz.func80 (by kernel_rfl) rfl #[.string t170] rfl mp_ ?_; (with_reducible refine (label_value.calls k1 t170 t172 t173 t174 _ A3.out).mono ?_); rintro e w5 ⟨rfl, hb⟩; refine ⟨_, rfl, ?_⟩; have n0_ := A_ (Kd.R_below (by (with_reducible repeat (apply Kd.R_drewN)); exact HO_2.out) hb); have n1_ := A_ (below_step (by repeat ((with_reducible first | exact HB.out | apply pw_below_drewN))) hb); clear HO_2; clear HB; have HO_2 := n0_; have HB := n1_; clear n0_ n1_; (try clear hb); (try clear hb2); (try clear hk); (try clear hi)))
   (try simp only [Act.put,s1_,s2_,s3_])
   go_cut [32] (fun v32 wc => ∃ (kq : Nat) (x32_3 : Bool), v32 = .bool x32_3 ∧ Aside0 (label_labels.j1 kq x2_1 t169 t172 t173 x32_3 = some (r1, r2)) ∧ Aside0 (kq ≤ k1) ∧ Aside0 (Kd.R k96 96 wc w.heap.size (fun _ => True) u2 x2_1) ∧ Aside0 (Below w.heap.size w wc))
   case first =>
    have H := HC4.out
    clear HC4
    by_cases c6 : t171 = true
    rotate_left
    ·replace c6 := Bool.eq_false_iff.mpr c6
     subst c6
     have H1 : (label_labels.j1 k1 x2_1 t169 t172 t173 true) = some (r1, r2) := by rw [if_neg (show ¬ (false = true) by decide)] at H; exact H
     clear H
     have H := H1
     clear H1
     have H' := A_ H
     clear H
     go_wp2
     go_meet
     case rel => exact ⟨_, (true), (by rfl), H', ⟨by have := HK1.out; omega⟩, ⟨rr_ HO_2.out⟩, ⟨HB.out⟩⟩
    subst c6
    have H1 : (if t174 = true then (label_labels.j1 k1 x2_1 t169 t172 t173 (decide ((x2_1.length : Int) > 16))) else (label_labels.j1 k1 x2_1 t169 t172 t173 true)) = some (r1, r2) := by rw [if_pos rfl] at H; exact H
    clear H
    have H := H1
    clear H1
    by_cases c7 : t174 = true
    rotate_left
    ·replace c7 := Bool.eq_false_iff.mpr c7
     subst c7
     have H1 : (label_labels.j1 k1 x2_1 t169 t172 t173 true) = some (r1, r2) := by rw [if_neg (show ¬ (false = true) by decide)] at H; exact H
     clear H
     have H := H1
     clear H1
     have H' := A_ H
     clear H
     go_wp2
     go_meet
     case rel => exact ⟨_, (true), (by rfl), H', ⟨by have := HK1.out; omega⟩, ⟨rr_ HO_2.out⟩, ⟨HB.out⟩⟩
    subst c7
    have H1 : (label_labels.j1 k1 x2_1 t169 t172 t173 (decide ((x2_1.length : Int) > 16))) = some (r1, r2) := by rw [if_pos rfl] at H; exact H
    clear H
    have H := H1
    clear H1
    have H' := A_ H
    clear H
    obtain ⟨Ao8, co8, eo8⟩ := Kd.R_slice HO_2.out
    subst eo8
    go_wp2
    go_meet
    case rel => exact ⟨_, (decide ((x2_1.length : Int) > 16)), (by rfl), H', ⟨by have := HK1.out; omega⟩, ⟨rr_ HO_2.out⟩, ⟨HB.out⟩⟩
   case rest =>
    clear HC4
    try clear p2
    try clear c5
    try clear c6
    try clear c7
    try clear c8
    obtain ⟨kq, x32_3, rfl, HA, HJ3, HO_2, HB⟩ := hcut
    cases kq with
    | zero => exact absurd HA.out (by simp [label_labels.j1])
    | succ kj3 =>
     have H := HA.out
     clear HA
     simp only [label_labels.j1] at H
     by_cases c9 : x32_3 = true
     ·subst c9
      have H1 : (some (([] : List (S96)), false)) = some (r1, r2) := by rw [if_pos rfl] at H; exact H
      clear H
      have H := H1
      clear H1
      simp only [Option.some.injEq, Prod.mk.injEq] at H
      obtain ⟨rfl, rfl⟩ := H
      go_wp2
      go_ret2
      exact ⟨_, by rfl, by exact Kd.R_nil _ _ _ _ _, HB.out⟩
     replace c9 := Bool.eq_false_iff.mpr c9
     subst c9
     have H1 : (if x2_1.length < 4398046511104 then ((some (x2_1 ++ [(⟨t169, t172⟩ : S96)] : List (S96))).bind fun y175 => (if t173.toList = ([125] : List UInt8) then (some (y175, true)) else ((strings_HasPrefix.f t173 (⟨#[44]⟩ : ByteArray)).bind fun t178 => (if t178 = true then (if 1 ≤ (t173.size : Int) then (label_labels.l0 kj3 (t173.extract 1 t173.size) y175) else (none)) else (some (([] : List (S96)), false)))))) else (none)) = some (r1, r2) := by rw [if_neg (show ¬ (false = true) by decide)] at H; exact H
     clear H
     have H := H1
     clear H1
     by_cases c10 : x2_1.length < 4398046511104
     rotate_left
     ·rw [if_neg c10] at H
      exact absurd H (by simp)
     rw [if_pos c10] at H
     have LMc10 := A_ c10
     clear c10
     obtain ⟨y175, hy175⟩ : ∃ y_ : List (S96), y_ = (x2_1 ++ [(⟨t169, t172⟩ : S96)]) := ⟨_, rfl⟩
     replace H : (if t173.toList = ([125] : List UInt8) then (some (y175, true)) else ((strings_HasPrefix.f t173 (⟨#[44]⟩ : ByteArray)).bind fun t178 => (if t178 = true then (if 1 ≤ (t173.size : Int) then (label_labels.l0 kj3 (t173.extract 1 t173.size) y175) else (none)) else (some (([] : List (S96)), false))))) = some (r1, r2) := by (have H2_ := (Option.bind_some _ _).symm.trans H; rw [hy175]; with_reducible exact H2_)
     have Ny175 := A_ hy175
     clear hy175
     by_cases c11 : t173.toList = ([125] : List UInt8)
     ·rw [if_pos c11] at H
      have c11b0 : (t173.toList == ([125] : List UInt8)) = true := beq_iff_eq.mpr c11
      have c11b1 : (t173.toList != ([125] : List UInt8)) = false := bne_eq_false_iff_eq.mpr c11
      clear c11
      simp only [Option.some.injEq, Prod.mk.injEq] at H
      obtain ⟨rfl, rfl⟩ := H
      go_wp2_with (first | ((with_reducible refine gate_builtin (b := .append) (xs := #[.tmp 33, .tmp 37]) rfl ?_); (try (refine gate_guard (by rfl) ?_; dsimp only)); at_builtin; refine Kd.R_append k96 (w0 := w) w.heap.size rfl (.tmp 33) (.tmp 37) 44 96 (.agg #[(.string ⟨#[]⟩), (.string ⟨#[]⟩)]) 32 rfl Tryz.underlying44 info96 rfl (by decide) (by omega) u2 x2_1 (⟨t169, t172⟩ : S96) [.string t169, .string t172] (fun _ => True) (fun _ => False) rfl rfl ?aP (fun _ hk => hk.elim) ?aF ?aO ?aB ?aS ?aL ?_; (case aP => exact k96_mkM _ _ _ (⟨t169, t172⟩ : S96)); (case aB => exact HB.out); (case aF => exact (fun _ _ => trivial)); (case aO => exact (rr_ HO_2.out)); (case aS => exact (below_size HB.out)); (case aL => have := LMc10.out; omega); intro v176 w12 ho hb hg hat; rw [← Ny175.out] at ho; have n0_ := A_ (hb); have n1_ := A_ (ho); clear HB; clear HO_2; have HB := n0_; have HO177 := n1_; clear n0_ n1_; clear ho hb hg hat))
      go_ret2
      exact ⟨_, by rfl, rr_ HO177.out, HB.out⟩
     rw [if_neg c11] at H
     have c11b0 : (t173.toList == ([125] : List UInt8)) = false := beq_eq_false_iff_ne.mpr c11
     have c11b1 : (t173.toList != ([125] : List UInt8)) = true := bne_iff_ne.mpr c11
     replace H := Option.bind_eq_some_iff.mp H
     obtain ⟨t178, A130, H⟩ := H
     replace H : (if t178 = true then (if 1 ≤ (t173.size : Int) then (label_labels.l0 kj3 (t173.extract 1 t173.size) y175) else (none)) else (some (([] : List (S96)), false))) = some (r1, r2) := H
     have A13 := A_ A130
     clear A130
     by_cases c14 : t178 = true
     rotate_left
     ·replace c14 := Bool.eq_false_iff.mpr c14
      subst c14
      have H1 : (some (([] : List (S96)), false)) = some (r1, r2) := by rw [if_neg (show ¬ (false = true) by decide)] at H; exact H
      clear H
      have H := H1
      clear H1
      simp only [Option.some.injEq, Prod.mk.injEq] at H
      obtain ⟨rfl, rfl⟩ := H
      go_wp2_with (first | ((with_reducible refine gate_builtin (b := .append) (xs := #[.tmp 33, .tmp 37]) rfl ?_); (try (refine gate_guard (by rfl) ?_; dsimp only)); at_builtin; refine Kd.R_append k96 (w0 := w) w.heap.size rfl (.tmp 33) (.tmp 37) 44 96 (.agg #[(.string ⟨#[]⟩), (.string ⟨#[]⟩)]) 32 rfl Tryz.underlying44 info96 rfl (by decide) (by omega) u2 x2_1 (⟨t169, t172⟩ : S96) [.string t169, .string t172] (fun _ => True) (fun _ => False) rfl rfl ?aP (fun _ hk => hk.elim) ?aF ?aO ?aB ?aS ?aL ?_; (case aP => exact k96_mkM _ _ _ (⟨t169, t172⟩ : S96)); (case aB => exact HB.out); (case aF => exact (fun _ _ => trivial)); (case aO => exact (rr_ HO_2.out)); (case aS => exact (below_size HB.out)); (case aL => have := LMc10.out; omega); intro v176 w17 ho hb hg hat; rw [← Ny175.out] at ho; have n0_ := A_ (hb); have n1_ := A_ (ho); clear HB; clear HO_2; have HB := n0_; have HO177 := n1_; clear n0_ n1_; clear ho hb hg hat) | ((with_reducible refine gate_callee (f := 81) rfl ?_); refine goesL_ (some 43) rfl rfl Tryz.func81 (by kernel_rfl) rfl #[.string t173, .string (⟨#[44]⟩ : ByteArray)] rfl mp_ ?_; (with_reducible refine (strings_HasPrefix.calls t173 (⟨#[44]⟩ : ByteArray) false _ A13.out).mono ?_); rintro e w' ⟨rfl, ⟨nd, rfl⟩⟩; refine ⟨_, rfl, ?_⟩))
      go_ret2
      exact ⟨_, by rfl, by exact Kd.R_nil _ _ _ _ _, by repeat ((with_reducible first | exact HB.out | apply pw_below_drewN))⟩
     subst c14
     have H1 : (if 1 ≤ (t173.size : Int) then (label_labels.l0 kj3 (t173.extract 1 t173.size) y175) else (none)) = some (r1, r2) := by rw [if_pos rfl] at H; exact H
     clear H
     have H := H1
     clear H1
     by_cases c15 : 1 ≤ (t173.size : Int)
     rotate_left
     ·rw [if_neg c15] at H
      exact absurd H (by simp)
     rw [if_pos c15] at H
     have c15b0 := eq_true c15
     have c15b1 := decide_eq_true c15
     clear c15
     have H' := A_ H
     clear H
     go_wp2_with (first | ((with_reducible refine gate_builtin (b := .append) (xs := #[.tmp 33, .tmp 37]) rfl ?_); (try (refine gate_guard (by rfl) ?_; dsimp only)); at_builtin; refine Kd.R_append k96 (w0 := w) w.heap.size rfl (.tmp 33) (.tmp 37) 44 96 (.agg #[(.string ⟨#[]⟩), (.string ⟨#[]⟩)]) 32 rfl Tryz.underlying44 info96 rfl (by decide) (by omega) u2 x2_1 (⟨t169, t172⟩ : S96) [.string t169, .string t172] (fun _ => True) (fun _ => False) rfl rfl ?aP (fun _ hk => hk.elim) ?aF ?aO ?aB ?aS ?aL ?_; (case aP => exact k96_mkM _ _ _ (⟨t169, t172⟩ : S96)); (case aB => exact HB.out); (case aF => exact (fun _ _ => trivial)); (case aO => exact (rr_ HO_2.out)); (case aS => exact (below_size HB.out)); (case aL => have := LMc10.out; omega); intro v176 w16 ho hb hg hat; rw [← Ny175.out] at ho; have n0_ := A_ (hb); have n1_ := A_ (ho); clear HB; clear HO_2; have HB := n0_; have HO177 := n1_; clear n0_ n1_; clear ho hb hg hat) | ((with_reducible refine gate_callee (f := 81) rfl ?_); refine goesL_ (some 43) rfl rfl Tryz.func81 (by kernel_rfl) rfl #[.string t173, .string (⟨#[44]⟩ : ByteArray)] rfl mp_ ?_; (with_reducible refine (strings_HasPrefix.calls t173 (⟨#[44]⟩ : ByteArray) true _ A13.out).mono ?_); rintro e w' ⟨rfl, ⟨nd, rfl⟩⟩; refine ⟨_, rfl, ?_⟩))
     go_roundg kj3
     case measure => have := HK1.out; have := HJ3.out; omega
     case rel => exact ⟨(t173.extract 1 t173.size), (y175), (by rfl), H', ⟨by have := HK1.out; have := HJ3.out; omega⟩, ⟨by (with_reducible repeat (apply Kd.R_drewN)); exact HO177.out⟩, ⟨by repeat ((with_reducible first | exact HB.out | apply pw_below_drewN))⟩⟩
def label_Parse.f (k : Nat) (a0 : ByteArray) : Option (ByteArray × (List (S96)) × Int) := (strings_Cut.f a0 (⟨#[123]⟩ : ByteArray)).bind fun bt179 => (if bt179.2.2 = true then ((label_labels.f k bt179.2.1).bind fun bt182 => (if bt182.2 = true then ((label_Name.f k bt179.1 bt182.1).bind fun bt186 => (if bt186.2 = 0 then (if bt186.1.toList = a0.toList then (some (bt179.1, bt182.1, 0)) else (some ((⟨#[]⟩ : ByteArray), ([] : List (S96)), 5))) else (some ((⟨#[]⟩ : ByteArray), ([] : List (S96)), 5)))) else (some ((⟨#[]⟩ : ByteArray), ([] : List (S96)), 5)))) else ((label_Name.f k bt179.1 ([] : List (S96))).bind fun bt188 => (if bt188.2 = 0 then (if bt188.1.toList = a0.toList then (some (bt179.1, ([] : List (S96)), 0)) else (some ((⟨#[]⟩ : ByteArray), ([] : List (S96)), 5))) else (some ((⟨#[]⟩ : ByteArray), ([] : List (S96)), 5)))))
theorem label_Parse.mono : ∀ a0 k, LeO (label_Parse.f k a0) (label_Parse.f (k + 1) a0) := by
 intro a0 k
 unfold label_Parse.f
 repeat' first
  | (with_reducible first | exact label_Name.mono _ _ _ | exact label_labels.mono _ _ | exact LeO.refl _ | exact LeO.none _ | refine LeO.ite ?_ ?_ | refine LeO.bind ?_ (fun _ => ?_))
set_option maxHeartbeats 8000000 in
set_option maxRecDepth 100000 in
theorem label_Parse.calls (k : Nat) (a0 : ByteArray) (r1 : ByteArray) (r2 : List (S96)) (r3 : Int) (w : World) (hSH : SH w) (h : label_Parse.f k a0 = some (r1, r2, r3)) :
 Calls Tryz.prog 37 #[.string a0] w fun e w' => ∃ v1_ : Value, e = .returned (.tuple #[.string r1, v1_, .int .i64 r3]) ∧ Kd.R k96 96 w' w.heap.size (fun _ => True) v1_ r2 ∧ Below w.heap.size w w' := by
 have HB := A_ (Below.refl w.heap.size w)
 have H : ((strings_Cut.f a0 (⟨#[123]⟩ : ByteArray)).bind fun bt179 => (if bt179.2.2 = true then ((label_labels.f k bt179.2.1).bind fun bt182 => (if bt182.2 = true then ((label_Name.f k bt179.1 bt182.1).bind fun bt186 => (if bt186.2 = 0 then (if bt186.1.toList = a0.toList then (some (bt179.1, bt182.1, 0)) else (some ((⟨#[]⟩ : ByteArray), ([] : List (S96)), 5))) else (some ((⟨#[]⟩ : ByteArray), ([] : List (S96)), 5)))) else (some ((⟨#[]⟩ : ByteArray), ([] : List (S96)), 5)))) else ((label_Name.f k bt179.1 ([] : List (S96))).bind fun bt188 => (if bt188.2 = 0 then (if bt188.1.toList = a0.toList then (some (bt179.1, ([] : List (S96)), 0)) else (some ((⟨#[]⟩ : ByteArray), ([] : List (S96)), 5))) else (some ((⟨#[]⟩ : ByteArray), ([] : List (S96)), 5)))))) = some (r1, r2, r3) := h
 clear h
 replace H := Option.bind_eq_some_iff.mp H
 obtain ⟨⟨t179, t180, t181⟩, A20, H⟩ := H
 replace H : (if t181 = true then ((label_labels.f k t180).bind fun bt182 => (if bt182.2 = true then ((label_Name.f k t179 bt182.1).bind fun bt186 => (if bt186.2 = 0 then (if bt186.1.toList = a0.toList then (some (t179, bt182.1, 0)) else (some ((⟨#[]⟩ : ByteArray), ([] : List (S96)), 5))) else (some ((⟨#[]⟩ : ByteArray), ([] : List (S96)), 5)))) else (some ((⟨#[]⟩ : ByteArray), ([] : List (S96)), 5)))) else ((label_Name.f k t179 ([] : List (S96))).bind fun bt188 => (if bt188.2 = 0 then (if bt188.1.toList = a0.toList then (some (t179, ([] : List (S96)), 0)) else (some ((⟨#[]⟩ : ByteArray), ([] : List (S96)), 5))) else (some ((⟨#[]⟩ : ByteArray), ([] : List (S96)), 5))))) = some (r1, r2, r3) := H
 have A2 := A_ A20
 clear A20
 by_cases c3 : t181 = true
 rotate_left
 ·replace c3 := Bool.eq_false_iff.mpr c3
  subst c3
  have H1 : ((label_Name.f k t179 ([] : List (S96))).bind fun bt188 => (if bt188.2 = 0 then (if bt188.1.toList = a0.toList then (some (t179, ([] : List (S96)), 0)) else (some ((⟨#[]⟩ : ByteArray), ([] : List (S96)), 5))) else (some ((⟨#[]⟩ : ByteArray), ([] : List (S96)), 5)))) = some (r1, r2, r3) := by rw [if_neg (show ¬ (false = true) by decide)] at H; exact H
  clear H
  have H := H1
  clear H1
  replace H := Option.bind_eq_some_iff.mp H
  obtain ⟨⟨t188, t189⟩, A190, H⟩ := H
  replace H : (if t189 = 0 then (if t188.toList = a0.toList then (some (t179, ([] : List (S96)), 0)) else (some ((⟨#[]⟩ : ByteArray), ([] : List (S96)), 5))) else (some ((⟨#[]⟩ : ByteArray), ([] : List (S96)), 5))) = some (r1, r2, r3) := H
  have A19 := A_ A190
  clear A190
  by_cases c20 : t189 = 0
  rotate_left
  ·rw [if_neg c20] at H
   have c20b0 : (t189 == 0) = false := beq_eq_false_iff_ne.mpr c20
   have c20b1 : (t189 != 0) = true := bne_iff_ne.mpr c20
   simp only [Option.some.injEq, Prod.mk.injEq] at H
   obtain ⟨rfl, rfl, rfl⟩ := H
   go_enter Tryz.func37, Tryz.ntmps37
   go_wp2_with (first | ((with_reducible refine gate_callee (f := 55) rfl ?_); refine goesL_ (some 15) rfl rfl Tryz.func55 (by kernel_rfl) rfl #[.string a0, .string (⟨#[123]⟩ : ByteArray)] rfl mp_ ?_; (with_reducible refine (strings_Cut.calls a0 (⟨#[123]⟩ : ByteArray) t179 t180 false _ ?side1 A2.out).mono ?_); (case side1 => exact SH.below hSH HB.out); rintro e w' ⟨rfl, ⟨nd, rfl⟩⟩; refine ⟨_, rfl, ?_⟩) | ((with_reducible refine gate_callee (f := 39) rfl ?_); refine goesL_ (some 31) rfl rfl Tryz.func39 (by kernel_rfl) rfl #[.string t179, .slice none 0 0] rfl mp_ ?_; (refine (label_Name.calls k t179 _ _ ([] : List (S96)) t188 t189 _ ?side1 ?side2 A19.out).mono ?_); (case side1 => exact Kd.C_nil _ _); (case side2 => exact Nat.le_refl _); rintro e w24 ⟨rfl, hb⟩; refine ⟨_, rfl, ?_⟩; have n0_ := A_ (below_step (by repeat ((with_reducible first | exact HB.out | apply pw_below_drewN))) hb); clear HB; have HB := n0_; clear n0_; (try clear hb); (try clear hb2); (try clear hk); (try clear hi)))
   go_ret3
   exact ⟨_, by rfl, by exact Kd.R_nil _ _ _ _ _, HB.out⟩
  rw [if_pos c20] at H
  have c20b0 : (t189 == 0) = true := beq_iff_eq.mpr c20
  have c20b1 : (t189 != 0) = false := bne_eq_false_iff_eq.mpr c20
  clear c20
  by_cases c21 : t188.toList = a0.toList
  rotate_left
  ·rw [if_neg c21] at H
   have c21b0 : (t188.toList == a0.toList) = false := beq_eq_false_iff_ne.mpr c21
   have c21b1 : (t188.toList != a0.toList) = true := bne_iff_ne.mpr c21
   simp only [Option.some.injEq, Prod.mk.injEq] at H
   obtain ⟨rfl, rfl, rfl⟩ := H
   go_enter Tryz.func37, Tryz.ntmps37
   go_wp2_with (first | ((with_reducible refine gate_callee (f := 55) rfl ?_); refine goesL_ (some 15) rfl rfl Tryz.func55 (by kernel_rfl) rfl #[.string a0, .string (⟨#[123]⟩ : ByteArray)] rfl mp_ ?_; (with_reducible refine (strings_Cut.calls a0 (⟨#[123]⟩ : ByteArray) t179 t180 false _ ?side1 A2.out).mono ?_); (case side1 => exact SH.below hSH HB.out); rintro e w' ⟨rfl, ⟨nd, rfl⟩⟩; refine ⟨_, rfl, ?_⟩) | ((with_reducible refine gate_callee (f := 39) rfl ?_); refine goesL_ (some 31) rfl rfl Tryz.func39 (by kernel_rfl) rfl #[.string t179, .slice none 0 0] rfl mp_ ?_; (refine (label_Name.calls k t179 _ _ ([] : List (S96)) t188 t189 _ ?side1 ?side2 A19.out).mono ?_); (case side1 => exact Kd.C_nil _ _); (case side2 => exact Nat.le_refl _); rintro e w23 ⟨rfl, hb⟩; refine ⟨_, rfl, ?_⟩; have n0_ := A_ (below_step (by repeat ((with_reducible first | exact HB.out | apply pw_below_drewN))) hb); clear HB; have HB := n0_; clear n0_; (try clear hb); (try clear hb2); (try clear hk); (try clear hi)))
   go_ret3
   exact ⟨_, by rfl, by exact Kd.R_nil _ _ _ _ _, HB.out⟩
  rw [if_pos c21] at H
  have c21b0 : (t188.toList == a0.toList) = true := beq_iff_eq.mpr c21
  have c21b1 : (t188.toList != a0.toList) = false := bne_eq_false_iff_eq.mpr c21
  clear c21
  simp only [Option.some.injEq, Prod.mk.injEq] at H
  obtain ⟨rfl, rfl, rfl⟩ := H
  go_enter Tryz.func37, Tryz.ntmps37
  go_wp2_with (first | ((with_reducible refine gate_callee (f := 55) rfl ?_); refine goesL_ (some 15) rfl rfl Tryz.func55 (by kernel_rfl) rfl #[.string a0, .string (⟨#[123]⟩ : ByteArray)] rfl mp_ ?_; (with_reducible refine (strings_Cut.calls a0 (⟨#[123]⟩ : ByteArray) t179 t180 false _ ?side1 A2.out).mono ?_); (case side1 => exact SH.below hSH HB.out); rintro e w' ⟨rfl, ⟨nd, rfl⟩⟩; refine ⟨_, rfl, ?_⟩) | ((with_reducible refine gate_callee (f := 39) rfl ?_); refine goesL_ (some 31) rfl rfl Tryz.func39 (by kernel_rfl) rfl #[.string t179, .slice none 0 0] rfl mp_ ?_; (refine (label_Name.calls k t179 _ _ ([] : List (S96)) t188 t189 _ ?side1 ?side2 A19.out).mono ?_); (case side1 => exact Kd.C_nil _ _); (case side2 => exact Nat.le_refl _); rintro e w22 ⟨rfl, hb⟩; refine ⟨_, rfl, ?_⟩; have n0_ := A_ (below_step (by repeat ((with_reducible first | exact HB.out | apply pw_below_drewN))) hb); clear HB; have HB := n0_; clear n0_; (try clear hb); (try clear hb2); (try clear hk); (try clear hi)))
  go_ret3
  exact ⟨_, by rfl, by exact Kd.R_nil _ _ _ _ _, HB.out⟩
 subst c3
 have H1 : ((label_labels.f k t180).bind fun bt182 => (if bt182.2 = true then ((label_Name.f k t179 bt182.1).bind fun bt186 => (if bt186.2 = 0 then (if bt186.1.toList = a0.toList then (some (t179, bt182.1, 0)) else (some ((⟨#[]⟩ : ByteArray), ([] : List (S96)), 5))) else (some ((⟨#[]⟩ : ByteArray), ([] : List (S96)), 5)))) else (some ((⟨#[]⟩ : ByteArray), ([] : List (S96)), 5)))) = some (r1, r2, r3) := by rw [if_pos rfl] at H; exact H
 clear H
 have H := H1
 clear H1
 replace H := Option.bind_eq_some_iff.mp H
 obtain ⟨⟨t182, t183⟩, A40, H⟩ := H
 replace H : (if t183 = true then ((label_Name.f k t179 t182).bind fun bt186 => (if bt186.2 = 0 then (if bt186.1.toList = a0.toList then (some (t179, t182, 0)) else (some ((⟨#[]⟩ : ByteArray), ([] : List (S96)), 5))) else (some ((⟨#[]⟩ : ByteArray), ([] : List (S96)), 5)))) else (some ((⟨#[]⟩ : ByteArray), ([] : List (S96)), 5))) = some (r1, r2, r3) := H
 have A4 := A_ A40
 clear A40
 by_cases c5 : t183 = true
 rotate_left
 ·replace c5 := Bool.eq_false_iff.mpr c5
  subst c5
  have H1 : (some ((⟨#[]⟩ : ByteArray), ([] : List (S96)), 5)) = some (r1, r2, r3) := by rw [if_neg (show ¬ (false = true) by decide)] at H; exact H
  clear H
  have H := H1
  clear H1
  simp only [Option.some.injEq, Prod.mk.injEq] at H
  obtain ⟨rfl, rfl, rfl⟩ := H
  go_enter Tryz.func37, Tryz.ntmps37
  go_wp2_with (first | ((with_reducible refine gate_callee (f := 55) rfl ?_); refine goesL_ (some 15) rfl rfl Tryz.func55 (by kernel_rfl) rfl #[.string a0, .string (⟨#[123]⟩ : ByteArray)] rfl mp_ ?_; (with_reducible refine (strings_Cut.calls a0 (⟨#[123]⟩ : ByteArray) t179 t180 true _ ?side1 A2.out).mono ?_); (case side1 => exact SH.below hSH HB.out); rintro e w' ⟨rfl, ⟨nd, rfl⟩⟩; refine ⟨_, rfl, ?_⟩) | ((with_reducible refine gate_callee (f := 56) rfl ?_); refine goesL_ (some 22) rfl rfl Tryz.func56 (by kernel_rfl) rfl #[.string t180] rfl mp_ ?_; (with_reducible refine (label_labels.calls k t180 t182 false _ ?side1 A4.out).mono ?_); (case side1 => exact SH.below hSH (by repeat ((with_reducible first | exact HB.out | apply pw_below_drewN)))); rintro e w18 ⟨v184, rfl, ho0, hb⟩; refine ⟨_, rfl, ?_⟩; have n0_ := A_ (Kd.R_lower ho0 (below_size (by repeat ((with_reducible first | exact HB.out | apply pw_below_drewN))))); have n1_ := A_ (below_step (by repeat ((with_reducible first | exact HB.out | apply pw_below_drewN))) hb); clear HB; have HO185 := n0_; have HB := n1_; clear n0_ n1_; (try clear hb); (try clear hb2); (try clear hk); (try clear hi); (try clear ho0)))
  go_ret3
  exact ⟨_, by rfl, by exact Kd.R_nil _ _ _ _ _, HB.out⟩
 subst c5
 have H1 : ((label_Name.f k t179 t182).bind fun bt186 => (if bt186.2 = 0 then (if bt186.1.toList = a0.toList then (some (t179, t182, 0)) else (some ((⟨#[]⟩ : ByteArray), ([] : List (S96)), 5))) else (some ((⟨#[]⟩ : ByteArray), ([] : List (S96)), 5)))) = some (r1, r2, r3) := by rw [if_pos rfl] at H; exact H
 clear H
 have H := H1
 clear H1
 replace H := Option.bind_eq_some_iff.mp H
 obtain ⟨⟨t186, t187⟩, A60, H⟩ := H
 replace H : (if t187 = 0 then (if t186.toList = a0.toList then (some (t179, t182, 0)) else (some ((⟨#[]⟩ : ByteArray), ([] : List (S96)), 5))) else (some ((⟨#[]⟩ : ByteArray), ([] : List (S96)), 5))) = some (r1, r2, r3) := H
 have A6 := A_ A60
 clear A60
 by_cases c7 : t187 = 0
 rotate_left
 ·rw [if_neg c7] at H
  have c7b0 : (t187 == 0) = false := beq_eq_false_iff_ne.mpr c7
  have c7b1 : (t187 != 0) = true := bne_iff_ne.mpr c7
  simp only [Option.some.injEq, Prod.mk.injEq] at H
  obtain ⟨rfl, rfl, rfl⟩ := H
  go_enter Tryz.func37, Tryz.ntmps37
  go_wp2_with (first | ((with_reducible refine gate_callee (f := 55) rfl ?_); refine goesL_ (some 15) rfl rfl Tryz.func55 (by kernel_rfl) rfl #[.string a0, .string (⟨#[123]⟩ : ByteArray)] rfl mp_ ?_; (with_reducible refine (strings_Cut.calls a0 (⟨#[123]⟩ : ByteArray) t179 t180 true _ ?side1 A2.out).mono ?_); (case side1 => exact SH.below hSH HB.out); rintro e w' ⟨rfl, ⟨nd, rfl⟩⟩; refine ⟨_, rfl, ?_⟩) | ((with_reducible refine gate_callee (f := 56) rfl ?_); refine goesL_ (some 22) rfl rfl Tryz.func56 (by kernel_rfl) rfl #[.string t180] rfl mp_ ?_; (with_reducible refine (label_labels.calls k t180 t182 true _ ?side1 A4.out).mono ?_); (case side1 => exact SH.below hSH (by repeat ((with_reducible first | exact HB.out | apply pw_below_drewN)))); rintro e w15 ⟨v184, rfl, ho0, hb⟩; refine ⟨_, rfl, ?_⟩; have n0_ := A_ (Kd.R_lower ho0 (below_size (by repeat ((with_reducible first | exact HB.out | apply pw_below_drewN))))); have n1_ := A_ (below_step (by repeat ((with_reducible first | exact HB.out | apply pw_below_drewN))) hb); clear HB; have HO185 := n0_; have HB := n1_; clear n0_ n1_; (try clear hb); (try clear hb2); (try clear hk); (try clear hi); (try clear ho0); obtain ⟨Ao16, co16, eo16⟩ := Kd.R_slice HO185.out; subst eo16) | ((with_reducible refine gate_callee (f := 39) rfl ?_); refine goesL_ (some 31) rfl rfl Tryz.func39 (by kernel_rfl) rfl #[.string t179, .slice Ao16 t182.length co16] rfl mp_ ?_; (with_reducible refine (label_Name.calls k t179 _ _ t182 t186 t187 _ ?side1 ?side2 A6.out).mono ?_); (case side1 => repeat (exact (Kd.R_reads' HO185.out).2.2)); (case side2 => exact (Kd.R_reads' HO185.out).2.1); rintro e w17 ⟨rfl, hb⟩; refine ⟨_, rfl, ?_⟩; have n0_ := A_ (Kd.R_below (rr_ HO185.out) hb); have n1_ := A_ (below_step HB.out hb); clear HO185; clear HB; have HO185 := n0_; have HB := n1_; clear n0_ n1_; (try clear hb); (try clear hb2); (try clear hk); (try clear hi)))
  go_ret3
  exact ⟨_, by rfl, by exact Kd.R_nil _ _ _ _ _, HB.out⟩
 rw [if_pos c7] at H
 have c7b0 : (t187 == 0) = true := beq_iff_eq.mpr c7
 have c7b1 : (t187 != 0) = false := bne_eq_false_iff_eq.mpr c7
 clear c7
 by_cases c8 : t186.toList = a0.toList
 rotate_left
 ·rw [if_neg c8] at H
  have c8b0 : (t186.toList == a0.toList) = false := beq_eq_false_iff_ne.mpr c8
  have c8b1 : (t186.toList != a0.toList) = true := bne_iff_ne.mpr c8
  simp only [Option.some.injEq, Prod.mk.injEq] at H
  obtain ⟨rfl, rfl, rfl⟩ := H
  go_enter Tryz.func37, Tryz.ntmps37
  go_wp2_with (first | ((with_reducible refine gate_callee (f := 55) rfl ?_); refine goesL_ (some 15) rfl rfl Tryz.func55 (by kernel_rfl) rfl #[.string a0, .string (⟨#[123]⟩ : ByteArray)] rfl mp_ ?_; (with_reducible refine (strings_Cut.calls a0 (⟨#[123]⟩ : ByteArray) t179 t180 true _ ?side1 A2.out).mono ?_); (case side1 => exact SH.below hSH HB.out); rintro e w' ⟨rfl, ⟨nd, rfl⟩⟩; refine ⟨_, rfl, ?_⟩) | ((with_reducible refine gate_callee (f := 56) rfl ?_); refine goesL_ (some 22) rfl rfl Tryz.func56 (by kernel_rfl) rfl #[.string t180] rfl mp_ ?_; (with_reducible refine (label_labels.calls k t180 t182 true _ ?side1 A4.out).mono ?_); (case side1 => exact SH.below hSH (by repeat ((with_reducible first | exact HB.out | apply pw_below_drewN)))); rintro e w12 ⟨v184, rfl, ho0, hb⟩; refine ⟨_, rfl, ?_⟩; have n0_ := A_ (Kd.R_lower ho0 (below_size (by repeat ((with_reducible first | exact HB.out | apply pw_below_drewN))))); have n1_ := A_ (below_step (by repeat ((with_reducible first | exact HB.out | apply pw_below_drewN))) hb); clear HB; have HO185 := n0_; have HB := n1_; clear n0_ n1_; (try clear hb); (try clear hb2); (try clear hk); (try clear hi); (try clear ho0); obtain ⟨Ao13, co13, eo13⟩ := Kd.R_slice HO185.out; subst eo13) | ((with_reducible refine gate_callee (f := 39) rfl ?_); refine goesL_ (some 31) rfl rfl Tryz.func39 (by kernel_rfl) rfl #[.string t179, .slice Ao13 t182.length co13] rfl mp_ ?_; (with_reducible refine (label_Name.calls k t179 _ _ t182 t186 t187 _ ?side1 ?side2 A6.out).mono ?_); (case side1 => repeat (exact (Kd.R_reads' HO185.out).2.2)); (case side2 => exact (Kd.R_reads' HO185.out).2.1); rintro e w14 ⟨rfl, hb⟩; refine ⟨_, rfl, ?_⟩; have n0_ := A_ (Kd.R_below (rr_ HO185.out) hb); have n1_ := A_ (below_step HB.out hb); clear HO185; clear HB; have HO185 := n0_; have HB := n1_; clear n0_ n1_; (try clear hb); (try clear hb2); (try clear hk); (try clear hi)))
  go_ret3
  exact ⟨_, by rfl, by exact Kd.R_nil _ _ _ _ _, HB.out⟩
 rw [if_pos c8] at H
 have c8b0 : (t186.toList == a0.toList) = true := beq_iff_eq.mpr c8
 have c8b1 : (t186.toList != a0.toList) = false := bne_eq_false_iff_eq.mpr c8
 clear c8
 simp only [Option.some.injEq, Prod.mk.injEq] at H
 obtain ⟨rfl, rfl, rfl⟩ := H
 go_enter Tryz.func37, Tryz.ntmps37
 go_wp2_with (first | ((with_reducible refine gate_callee (f := 55) rfl ?_); refine goesL_ (some 15) rfl rfl Tryz.func55 (by kernel_rfl) rfl #[.string a0, .string (⟨#[123]⟩ : ByteArray)] rfl mp_ ?_; (with_reducible refine (strings_Cut.calls a0 (⟨#[123]⟩ : ByteArray) t179 t180 true _ ?side1 A2.out).mono ?_); (case side1 => exact SH.below hSH HB.out); rintro e w' ⟨rfl, ⟨nd, rfl⟩⟩; refine ⟨_, rfl, ?_⟩) | ((with_reducible refine gate_callee (f := 56) rfl ?_); refine goesL_ (some 22) rfl rfl Tryz.func56 (by kernel_rfl) rfl #[.string t180] rfl mp_ ?_; (with_reducible refine (label_labels.calls k t180 t182 true _ ?side1 A4.out).mono ?_); (case side1 => exact SH.below hSH (by repeat ((with_reducible first | exact HB.out | apply pw_below_drewN)))); rintro e w9 ⟨v184, rfl, ho0, hb⟩; refine ⟨_, rfl, ?_⟩; have n0_ := A_ (Kd.R_lower ho0 (below_size (by repeat ((with_reducible first | exact HB.out | apply pw_below_drewN))))); have n1_ := A_ (below_step (by repeat ((with_reducible first | exact HB.out | apply pw_below_drewN))) hb); clear HB; have HO185 := n0_; have HB := n1_; clear n0_ n1_; (try clear hb); (try clear hb2); (try clear hk); (try clear hi); (try clear ho0); obtain ⟨Ao10, co10, eo10⟩ := Kd.R_slice HO185.out; subst eo10) | ((with_reducible refine gate_callee (f := 39) rfl ?_); refine goesL_ (some 31) rfl rfl Tryz.func39 (by kernel_rfl) rfl #[.string t179, .slice Ao10 t182.length co10] rfl mp_ ?_; (with_reducible refine (label_Name.calls k t179 _ _ t182 t186 t187 _ ?side1 ?side2 A6.out).mono ?_); (case side1 => repeat (exact (Kd.R_reads' HO185.out).2.2)); (case side2 => exact (Kd.R_reads' HO185.out).2.1); rintro e w11 ⟨rfl, hb⟩; refine ⟨_, rfl, ?_⟩; have n0_ := A_ (Kd.R_below (rr_ HO185.out) hb); have n1_ := A_ (below_step HB.out hb); clear HO185; clear HB; have HO185 := n0_; have HB := n1_; clear n0_ n1_; (try clear hb); (try clear hb2); (try clear hk); (try clear hi)))
 go_ret3
 exact ⟨_, by rfl, rr_ HO185.out, HB.out⟩
def relabel_Apply.step (k : Nat) (x : S43) (m : ByteArray) (l : List S96) : Option (ByteArray × List S96 × Bool) :=
 stepF (fun x : S96 => x.f0) (fun x => x.f1) (fun a b => ⟨a, b⟩) (relabel_Match.f k) relabel_Fill.f x.f0 x.f1 x.f2 x.f3 x.f4 m l
def relabel_Apply.f (k : Nat) (l0 : List S43) (a1 : ByteArray) : Option (ByteArray × Bool × Int) :=
 (relabel_May.f k l0).bind fun b => if b = true then (label_Parse.f k a1).bind fun p => if p.2.2 = 0 then (if l0.length ≤ 1099511627776 then goF (relabel_Apply.step k) (label_Name.f k) l0 p.1 p.2.1 a1 else none) else some (⟨#[]⟩, false, p.2.2) else some (⟨#[]⟩, false, 2)
theorem relabel_Apply.mono : ∀ a0 a1 k, LeO (relabel_Apply.f k a0 a1) (relabel_Apply.f (k + 1) a0 a1) := by
 intro a0 a1 k r h
 unfold relabel_Apply.f at h ⊢
 obtain ⟨b, hb, h⟩ := Option.bind_eq_some_iff.1 h
 rw [relabel_May.mono a0 k b hb, Option.bind_some]
 split
 rotate_left
 ·rename_i hc
  rw [if_neg hc] at h
  exact h
 rename_i hc
 rw [if_pos hc] at h
 obtain ⟨p, hp, h⟩ := Option.bind_eq_some_iff.1 h
 rw [label_Parse.mono a1 k p hp, Option.bind_some]
 split
 rotate_left
 ·rename_i h0
  rw [if_neg h0] at h
  exact h
 rename_i h0
 rw [if_pos h0] at h
 split at h
 ·rename_i hl
  rw [if_pos hl]
  exact goF_mono (fun a b c r hr => stepF_mono _ _ _ _ (fun a b r hr => relabel_Match.mono a b k r hr) _ _ _ _ _ _ _ r hr) (fun a b r hr => label_Name.mono a b k r hr) a0 p.1 p.2.1 a1 r h
 cases h
theorem relabel_Apply.calls (k : Nat) (A0 : Option Addr) (c0 : Nat) (l0 : List S43) (a1 : ByteArray) (r1 : ByteArray) (r2 : Bool) (r3 : Int) (w : World) (hSH : SH w) (hr0 : Kd.C k43 w A0 l0.length l0) (hc0 : l0.length ≤ c0) (h : relabel_Apply.f k l0 a1 = some (r1, r2, r3)) :
 Calls Tryz.prog 19 #[.slice A0 l0.length c0, .string a1] w fun e w' => e = .returned (.tuple #[.string r1, .bool r2, .int .i64 r3]) ∧ Below w.heap.size w w' := by
 unfold relabel_Apply.f at h
 obtain ⟨b, hb, h⟩ := Option.bind_eq_some_iff.1 h
 have hm := relabel_May.calls k A0 c0 l0 b w hr0 hc0 hb
 cases b with
 | false =>
  rw [if_neg (by simp)] at h
  have h1 := Option.some.inj h
  obtain ⟨rfl, rfl, rfl⟩ : (⟨#[]⟩ : ByteArray) = r1 ∧ false = r2 ∧ (2 : Int) = r3 := by simpa using h1
  exact apply_no A0 l0.length c0 a1 w hm
 | true =>
  rw [if_pos rfl] at h
  obtain ⟨⟨m, ls, er⟩, hx, h⟩ := Option.bind_eq_some_iff.1 h
  have hp := fun W2 (hb : Below w.heap.size w W2) => label_Parse.calls k a1 m ls er W2 (SH.below hSH hb) hx
  by_cases her : er = 0
  rotate_left
  ·rw [if_neg her] at h
   have h1 := Option.some.inj h
   obtain ⟨rfl, rfl, rfl⟩ : (⟨#[]⟩ : ByteArray) = r1 ∧ false = r2 ∧ er = r3 := by simpa using h1
   exact apply_bad k96 A0 l0.length c0 a1 m ls er her w hm hp
  subst her
  rw [if_pos rfl] at h
  split at h
  case isFalse => cases h
  case isTrue hl =>
   exact apply_calls k96 k43 (fun x => x.f0) (fun x => x.f1) (fun x => x.f2) (fun x => x.f3) (fun x => x.f4) rfl k43_open (relabel_Apply.step k) (label_Name.f k) A0 c0 l0 a1 w hr0 hl m ls hm hp
    (fun m l s er W2 A c hn hC hle => label_Name.calls k m A c l s er W2 hC hle hn)
    (fun x m l m' l' go B v W base hs hB hR hbase => step_calls k96 (fun x => x.f0) (fun x => x.f1) (fun a b => ⟨a, b⟩) (fun _ _ => rfl) (fun _ _ => rfl) rfl rfl k96_open k96_openM (fun w base ok x => k96_mkM w base ok x)
     (relabel_Match.f k) (fun a b r ok W hm => relabel_Match.calls k a b r ok W hm) relabel_Fill.f (fun a l r ok W A c hf hC hle => relabel_Fill.calls a A c l r ok W hC hle hf) x.f0 x.f1 x.f2 x.f3 x.f4 B m v l W base m' l' go hs hB hR hbase)
    r1 r2 r3 h
def l29_known.f (k : Nat)  : Option (Bool) := (relabel_Apply.f k (([(⟨3, (⟨#[104, 111, 115, 116]⟩ : ByteArray), (⟨#[42, 58, 42]⟩ : ByteArray), (⟨#[36, 49]⟩ : ByteArray), (⟨#[104, 111, 115, 116]⟩ : ByteArray)⟩ : S43)] : List (S43))) (⟨#[97, 123, 104, 111, 115, 116, 61, 34, 104, 58, 56, 48, 34, 125]⟩ : ByteArray)).bind fun bt193 => (if bt193.2.2 = 0 then (if bt193.2.1 = true then (some (bt193.1.toList == ([97, 123, 104, 111, 115, 116, 61, 34, 104, 34, 125] : List UInt8))) else (some false)) else (some false))
theorem l29_known.mono : ∀ k, LeO (l29_known.f k ) (l29_known.f (k + 1) ) := by
 intro  k
 unfold l29_known.f
 repeat' first
  | (with_reducible first | exact relabel_Apply.mono _ _ _ | exact LeO.refl _ | exact LeO.none _ | refine LeO.ite ?_ ?_ | refine LeO.bind ?_ (fun _ => ?_))
set_option maxHeartbeats 8000000 in
set_option maxRecDepth 100000 in
theorem l29_known.calls (k : Nat)  (r : Bool) (w : World) (hSH : SH w) (h : l29_known.f k  = some r) :
 Calls Tryz.prog 10 #[] w fun e w' => e = .returned (.bool r) ∧ Below w.heap.size w w' := by
 have hu43 := Tryz.underlying43
 have HB := A_ (Below.refl w.heap.size w)
 have H : ((relabel_Apply.f k (([(⟨3, (⟨#[104, 111, 115, 116]⟩ : ByteArray), (⟨#[42, 58, 42]⟩ : ByteArray), (⟨#[36, 49]⟩ : ByteArray), (⟨#[104, 111, 115, 116]⟩ : ByteArray)⟩ : S43)] : List (S43))) (⟨#[97, 123, 104, 111, 115, 116, 61, 34, 104, 58, 56, 48, 34, 125]⟩ : ByteArray)).bind fun bt193 => (if bt193.2.2 = 0 then (if bt193.2.1 = true then (some (bt193.1.toList == ([97, 123, 104, 111, 115, 116, 61, 34, 104, 34, 125] : List UInt8))) else (some false)) else (some false))) = some r := h
 clear h
 obtain ⟨y190, hy190⟩ : ∃ y_ : List (S43), y_ = (([(⟨3, (⟨#[104, 111, 115, 116]⟩ : ByteArray), (⟨#[42, 58, 42]⟩ : ByteArray), (⟨#[36, 49]⟩ : ByteArray), (⟨#[104, 111, 115, 116]⟩ : ByteArray)⟩ : S43)] : List (S43))) := ⟨_, rfl⟩
 replace H : ((relabel_Apply.f k y190 (⟨#[97, 123, 104, 111, 115, 116, 61, 34, 104, 58, 56, 48, 34, 125]⟩ : ByteArray)).bind fun bt193 => (if bt193.2.2 = 0 then (if bt193.2.1 = true then (some (bt193.1.toList == ([97, 123, 104, 111, 115, 116, 61, 34, 104, 34, 125] : List UInt8))) else (some false)) else (some false))) = some r := by (rw [hy190]; with_reducible exact H)
 have Ny190 := A_ hy190
 clear hy190
 replace H := Option.bind_eq_some_iff.mp H
 obtain ⟨⟨t193, t194, t195⟩, A10, H⟩ := H
 replace H : (if t195 = 0 then (if t194 = true then (some (t193.toList == ([97, 123, 104, 111, 115, 116, 61, 34, 104, 34, 125] : List UInt8))) else (some false)) else (some false)) = some r := H
 have A1 := A_ A10
 clear A10
 by_cases c2 : t195 = 0
 rotate_left
 ·rw [if_neg c2] at H
  have c2b0 : (t195 == 0) = false := beq_eq_false_iff_ne.mpr c2
  have c2b1 : (t195 != 0) = true := bne_iff_ne.mpr c2
  obtain rfl := Option.some.inj H
  go_enter Tryz.func10, Tryz.ntmps10
  go_wp2_with (first | ((with_reducible refine gate_dst (N := 6) rfl ?_); refine Kd.R_lit k43 _ 43 ?hg (N := 6) ?hd (xs := ([(⟨3, (⟨#[104, 111, 115, 116]⟩ : ByteArray), (⟨#[42, 58, 42]⟩ : ByteArray), (⟨#[36, 49]⟩ : ByteArray), (⟨#[104, 111, 115, 116]⟩ : ByteArray)⟩ : S43)] : List (S43))) (inner := [.int .i64 3, .string (⟨#[104, 111, 115, 116]⟩ : ByteArray), .string (⟨#[42, 58, 42]⟩ : ByteArray), .string (⟨#[36, 49]⟩ : ByteArray), .string (⟨#[104, 111, 115, 116]⟩ : ByteArray)]) (ok := fun _ => True) (okp := fun _ => True) ?hr ?hp (fun _ hk => hk) trivial (Below.refl _ _) (Nat.le_refl _) (by simp) ?_; (case hd => rfl); (case hg => rfl); (case hr => (go_simp; done)); (case hp => exact (Reps.c5 (show Kd.M k43 _ _ _ (⟨3, (⟨#[104, 111, 115, 116]⟩ : ByteArray), (⟨#[42, 58, 42]⟩ : ByteArray), (⟨#[36, 49]⟩ : ByteArray), (⟨#[104, 111, 115, 116]⟩ : ByteArray)⟩ : S43) [.int .i64 3, .string (⟨#[104, 111, 115, 116]⟩ : ByteArray), .string (⟨#[42, 58, 42]⟩ : ByteArray), .string (⟨#[36, 49]⟩ : ByteArray), .string (⟨#[104, 111, 115, 116]⟩ : ByteArray)] from (k43_mkM _ _ _ (⟨3, (⟨#[104, 111, 115, 116]⟩ : ByteArray), (⟨#[42, 58, 42]⟩ : ByteArray), (⟨#[36, 49]⟩ : ByteArray), (⟨#[104, 111, 115, 116]⟩ : ByteArray)⟩ : S43) )) (Reps.none _ _))); intro v191 w12 ho13 hb hg_ hnew_; clear hg_ hnew_; (rw [← Ny190.out] at ho13); have n0_ := A_ (Kd.R_lower ho13 (below_size HB.out)); have n1_ := A_ (below_step HB.out hb); clear HB; have HO192 := n0_; have HB := n1_; clear n0_ n1_; clear hb ho13; obtain ⟨Ao14, co14, eo14⟩ := Kd.R_slice HO192.out; subst eo14) | ((with_reducible refine gate_callee (f := 19) rfl ?_); refine goesL_ (some 7) rfl rfl Tryz.func19 (by kernel_rfl) rfl #[.slice Ao14 y190.length co14, .string (⟨#[97, 123, 104, 111, 115, 116, 61, 34, 104, 58, 56, 48, 34, 125]⟩ : ByteArray)] rfl mp_ ?_; (with_reducible refine (relabel_Apply.calls k _ _ y190 (⟨#[97, 123, 104, 111, 115, 116, 61, 34, 104, 58, 56, 48, 34, 125]⟩ : ByteArray) t193 t194 t195 _ ?side3 ?side1 ?side2 A1.out).mono ?_); (case side1 => repeat (exact (Kd.R_reads' HO192.out).2.2)); (case side2 => exact (Kd.R_reads' HO192.out).2.1); (case side3 => exact SH.below hSH HB.out); rintro e w15 ⟨rfl, hb⟩; refine ⟨_, rfl, ?_⟩; have n0_ := A_ (Kd.R_below (rr_ HO192.out) hb); have n1_ := A_ (below_step HB.out hb); clear HO192; clear HB; have HO192 := n0_; have HB := n1_; clear n0_ n1_; (try clear hb); (try clear hb2); (try clear hk); (try clear hi)))
  go_ret
  exact ⟨by rfl, HB.out⟩
 rw [if_pos c2] at H
 have c2b0 : (t195 == 0) = true := beq_iff_eq.mpr c2
 have c2b1 : (t195 != 0) = false := bne_eq_false_iff_eq.mpr c2
 clear c2
 by_cases c3 : t194 = true
 ·subst c3
  have H1 : (some (t193.toList == ([97, 123, 104, 111, 115, 116, 61, 34, 104, 34, 125] : List UInt8))) = some r := by rw [if_pos rfl] at H; exact H
  clear H
  have H := H1
  clear H1
  obtain rfl := Option.some.inj H
  go_enter Tryz.func10, Tryz.ntmps10
  go_wp2_with (first | ((with_reducible refine gate_dst (N := 6) rfl ?_); refine Kd.R_lit k43 _ 43 ?hg (N := 6) ?hd (xs := ([(⟨3, (⟨#[104, 111, 115, 116]⟩ : ByteArray), (⟨#[42, 58, 42]⟩ : ByteArray), (⟨#[36, 49]⟩ : ByteArray), (⟨#[104, 111, 115, 116]⟩ : ByteArray)⟩ : S43)] : List (S43))) (inner := [.int .i64 3, .string (⟨#[104, 111, 115, 116]⟩ : ByteArray), .string (⟨#[42, 58, 42]⟩ : ByteArray), .string (⟨#[36, 49]⟩ : ByteArray), .string (⟨#[104, 111, 115, 116]⟩ : ByteArray)]) (ok := fun _ => True) (okp := fun _ => True) ?hr ?hp (fun _ hk => hk) trivial (Below.refl _ _) (Nat.le_refl _) (by simp) ?_; (case hd => rfl); (case hg => rfl); (case hr => (go_simp; done)); (case hp => exact (Reps.c5 (show Kd.M k43 _ _ _ (⟨3, (⟨#[104, 111, 115, 116]⟩ : ByteArray), (⟨#[42, 58, 42]⟩ : ByteArray), (⟨#[36, 49]⟩ : ByteArray), (⟨#[104, 111, 115, 116]⟩ : ByteArray)⟩ : S43) [.int .i64 3, .string (⟨#[104, 111, 115, 116]⟩ : ByteArray), .string (⟨#[42, 58, 42]⟩ : ByteArray), .string (⟨#[36, 49]⟩ : ByteArray), .string (⟨#[104, 111, 115, 116]⟩ : ByteArray)] from (k43_mkM _ _ _ (⟨3, (⟨#[104, 111, 115, 116]⟩ : ByteArray), (⟨#[42, 58, 42]⟩ : ByteArray), (⟨#[36, 49]⟩ : ByteArray), (⟨#[104, 111, 115, 116]⟩ : ByteArray)⟩ : S43) )) (Reps.none _ _))); intro v191 w4 ho5 hb hg_ hnew_; clear hg_ hnew_; (rw [← Ny190.out] at ho5); have n0_ := A_ (Kd.R_lower ho5 (below_size HB.out)); have n1_ := A_ (below_step HB.out hb); clear HB; have HO192 := n0_; have HB := n1_; clear n0_ n1_; clear hb ho5; obtain ⟨Ao6, co6, eo6⟩ := Kd.R_slice HO192.out; subst eo6) | ((with_reducible refine gate_callee (f := 19) rfl ?_); refine goesL_ (some 7) rfl rfl Tryz.func19 (by kernel_rfl) rfl #[.slice Ao6 y190.length co6, .string (⟨#[97, 123, 104, 111, 115, 116, 61, 34, 104, 58, 56, 48, 34, 125]⟩ : ByteArray)] rfl mp_ ?_; (with_reducible refine (relabel_Apply.calls k _ _ y190 (⟨#[97, 123, 104, 111, 115, 116, 61, 34, 104, 58, 56, 48, 34, 125]⟩ : ByteArray) t193 true t195 _ ?side3 ?side1 ?side2 A1.out).mono ?_); (case side1 => repeat (exact (Kd.R_reads' HO192.out).2.2)); (case side2 => exact (Kd.R_reads' HO192.out).2.1); (case side3 => exact SH.below hSH HB.out); rintro e w7 ⟨rfl, hb⟩; refine ⟨_, rfl, ?_⟩; have n0_ := A_ (Kd.R_below (rr_ HO192.out) hb); have n1_ := A_ (below_step HB.out hb); clear HO192; clear HB; have HO192 := n0_; have HB := n1_; clear n0_ n1_; (try clear hb); (try clear hb2); (try clear hk); (try clear hi)))
  go_ret
  exact ⟨by rfl, HB.out⟩
 replace c3 := Bool.eq_false_iff.mpr c3
 subst c3
 have H1 : (some false) = some r := by rw [if_neg (show ¬ (false = true) by decide)] at H; exact H
 clear H
 have H := H1
 clear H1
 obtain rfl := Option.some.inj H
 go_enter Tryz.func10, Tryz.ntmps10
 go_wp2_with (first | ((with_reducible refine gate_dst (N := 6) rfl ?_); refine Kd.R_lit k43 _ 43 ?hg (N := 6) ?hd (xs := ([(⟨3, (⟨#[104, 111, 115, 116]⟩ : ByteArray), (⟨#[42, 58, 42]⟩ : ByteArray), (⟨#[36, 49]⟩ : ByteArray), (⟨#[104, 111, 115, 116]⟩ : ByteArray)⟩ : S43)] : List (S43))) (inner := [.int .i64 3, .string (⟨#[104, 111, 115, 116]⟩ : ByteArray), .string (⟨#[42, 58, 42]⟩ : ByteArray), .string (⟨#[36, 49]⟩ : ByteArray), .string (⟨#[104, 111, 115, 116]⟩ : ByteArray)]) (ok := fun _ => True) (okp := fun _ => True) ?hr ?hp (fun _ hk => hk) trivial (Below.refl _ _) (Nat.le_refl _) (by simp) ?_; (case hd => rfl); (case hg => rfl); (case hr => (go_simp; done)); (case hp => exact (Reps.c5 (show Kd.M k43 _ _ _ (⟨3, (⟨#[104, 111, 115, 116]⟩ : ByteArray), (⟨#[42, 58, 42]⟩ : ByteArray), (⟨#[36, 49]⟩ : ByteArray), (⟨#[104, 111, 115, 116]⟩ : ByteArray)⟩ : S43) [.int .i64 3, .string (⟨#[104, 111, 115, 116]⟩ : ByteArray), .string (⟨#[42, 58, 42]⟩ : ByteArray), .string (⟨#[36, 49]⟩ : ByteArray), .string (⟨#[104, 111, 115, 116]⟩ : ByteArray)] from (k43_mkM _ _ _ (⟨3, (⟨#[104, 111, 115, 116]⟩ : ByteArray), (⟨#[42, 58, 42]⟩ : ByteArray), (⟨#[36, 49]⟩ : ByteArray), (⟨#[104, 111, 115, 116]⟩ : ByteArray)⟩ : S43) )) (Reps.none _ _))); intro v191 w8 ho9 hb hg_ hnew_; clear hg_ hnew_; (rw [← Ny190.out] at ho9); have n0_ := A_ (Kd.R_lower ho9 (below_size HB.out)); have n1_ := A_ (below_step HB.out hb); clear HB; have HO192 := n0_; have HB := n1_; clear n0_ n1_; clear hb ho9; obtain ⟨Ao10, co10, eo10⟩ := Kd.R_slice HO192.out; subst eo10) | ((with_reducible refine gate_callee (f := 19) rfl ?_); refine goesL_ (some 7) rfl rfl Tryz.func19 (by kernel_rfl) rfl #[.slice Ao10 y190.length co10, .string (⟨#[97, 123, 104, 111, 115, 116, 61, 34, 104, 58, 56, 48, 34, 125]⟩ : ByteArray)] rfl mp_ ?_; (with_reducible refine (relabel_Apply.calls k _ _ y190 (⟨#[97, 123, 104, 111, 115, 116, 61, 34, 104, 58, 56, 48, 34, 125]⟩ : ByteArray) t193 false t195 _ ?side3 ?side1 ?side2 A1.out).mono ?_); (case side1 => repeat (exact (Kd.R_reads' HO192.out).2.2)); (case side2 => exact (Kd.R_reads' HO192.out).2.1); (case side3 => exact SH.below hSH HB.out); rintro e w11 ⟨rfl, hb⟩; refine ⟨_, rfl, ?_⟩; have n0_ := A_ (Kd.R_below (rr_ HO192.out) hb); have n1_ := A_ (below_step HB.out hb); clear HO192; clear HB; have HO192 := n0_; have HB := n1_; clear n0_ n1_; (try clear hb); (try clear hb2); (try clear hk); (try clear hi)))
 go_ret
 exact ⟨by rfl, HB.out⟩
end Go.Proofs.YtcikjeiebpmmcaaGreat.PMch
