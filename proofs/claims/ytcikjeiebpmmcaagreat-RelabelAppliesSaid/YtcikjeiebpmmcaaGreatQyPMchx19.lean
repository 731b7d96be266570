/- Pruned. -/
import Derived.Test.YtcikjeiebpmmcaaGreatQyPMchx0
import Derived.Test.YtcikjeiebpmmcaaGreatQyPMchx17
import Derived.Test.YtcikjeiebpmmcaaGreatQyPMchx18
namespace Go.Proofs.YtcikjeiebpmmcaaGreat.PMch
open Go.RowKit Go.Proofs.YtcikjeiebpmmcaaGreatW.PrintWords Go.Proofs.YtcikjeiebpmmcaaGreatW.PrintLast Go.Proofs.YtcikjeiebpmmcaaGreatW.PrintMore
attribute [local go_sem] max2_int max_two
set_option linter.unusedVariables false
set_option linter.unusedSimpArgs false
def r03_Get.l0 : Nat → ByteArray → List (S96) → Int → Option (ByteArray × Bool)
 | 0, _, _, _ => none
 | k + 1, x1, x7, x9 => if x9 < (x7.length : Int) then (if 0 ≤ x9 then (if ((rd_T96 x7 x9).f0).toList = x1.toList then (some ((rd_T96 x7 x9).f1, true)) else (r03_Get.l0 k x1 x7 (wrap64 (x9 + 1)))) else (none)) else (some ((⟨#[]⟩ : ByteArray), false))
def r03_Get.f (k : Nat) (a0 : ByteArray) (a1 : ByteArray) : Option (ByteArray × Bool) := (r03_Parse.f k a0).bind fun bt356 => (r03_Get.l0 k a1 bt356.2.1 0)
set_option maxHeartbeats 8000000 in
set_option maxRecDepth 100000 in
theorem r03_Get.calls (k : Nat) (a0 : ByteArray) (a1 : ByteArray) (r1 : ByteArray) (r2 : Bool) (w : World) (h : r03_Get.f k a0 a1 = some (r1, r2)) :
 Calls Tryz.prog 42 #[.string a0, .string a1] w fun e w' => e = .returned (.tuple #[.string r1, .bool r2]) ∧ Below w.heap.size w w' := by
 have HB := A_ (Below.refl w.heap.size w)
 have H : ((r03_Parse.f k a0).bind fun bt356 => (r03_Get.l0 k a1 bt356.2.1 0)) = some (r1, r2) := h
 clear h
 replace H := Option.bind_eq_some_iff.mp H
 obtain ⟨⟨t356, t357, t358⟩, A30, H⟩ := H
 replace H : (r03_Get.l0 k a1 t357 0) = some (r1, r2) := H
 have A3 := A_ A30
 clear A30
 have H' := A_ H
 clear H
 go_enter Tryz.func42, Tryz.ntmps42
 go_wp2_with (first | ((with_reducible refine gate_callee (f := 23) rfl ?_); refine goesL_ (some 12) rfl rfl Tryz.func23 (by kernel_rfl) rfl #[.string a0] rfl mp_ ?_; (with_reducible refine (r03_Parse.calls k a0 t356 t357 t358 _ A3.out).mono ?_); rintro e w4 ⟨v359, rfl, ho0, hb⟩; refine ⟨_, rfl, ?_⟩; have n0_ := A_ (Kd.R_lower ho0 (below_size HB.out)); have n1_ := A_ (below_step HB.out hb); clear HB; have HO360 := n0_; have HB := n1_; clear n0_ n1_; (try clear hb); (try clear hb2); (try clear hk); (try clear hi); (try clear ho0)))
 go_loopg [9] k (fun kq v9 w' => ∃ (x9_1 : Int), v9 = .int .i64 x9_1 ∧ Aside0 (r03_Get.l0 kq a1 t357 x9_1 = some (r1, r2)) ∧ Aside0 (kq ≤ k) ∧ Aside0 (Kd.R k96 96 w' w.heap.size (fun _ => True) v359 t357) ∧ Aside0 (Below w.heap.size w w'))
 case atStart => exact ⟨(0), (by rfl), H', ⟨Nat.le_refl _⟩, ⟨rr_ HO360.out⟩, ⟨HB.out⟩⟩
 case round =>
  clear H'
  try clear c2
  try clear p2
  try clear c4
  obtain ⟨x9_1, rfl, HA, HK1, HO_7, HB⟩ := hrel
  cases gk with
  | zero => exact absurd HA.out (by simp [r03_Get.l0])
  | succ k1 =>
   have H := HA.out
   clear HA
   simp only [r03_Get.l0] at H
   by_cases c5 : x9_1 < (t357.length : Int)
   rotate_left
   ·rw [if_neg c5] at H
    have c5b0 := decide_eq_false c5
    clear c5
    simp only [Option.some.injEq, Prod.mk.injEq] at H
    obtain ⟨rfl, rfl⟩ := H
    obtain ⟨Ao10, co10, eo10⟩ := Kd.R_slice HO_7.out
    subst eo10
    go_wp2
    go_ret2
    exact ⟨by rfl, HB.out⟩
   rw [if_pos c5] at H
   have c5b0 := decide_eq_true c5
   clear c5
   by_cases c6 : 0 ≤ x9_1
   rotate_left
   ·rw [if_neg c6] at H
    exact absurd H (by simp)
   rw [if_pos c6] at H
   have c6b0 := decide_eq_true c6
   clear c6
   by_cases c7 : ((rd_T96 t357 x9_1).f0).toList = a1.toList
   rotate_left
   ·rw [if_neg c7] at H
    have c7b0 : (((rd_T96 t357 x9_1).f0).toList == a1.toList) = false := beq_eq_false_iff_ne.mpr c7
    have c7b1 : (((rd_T96 t357 x9_1).f0).toList != a1.toList) = true := bne_iff_ne.mpr c7
    have H' := A_ H
    clear H
    obtain ⟨Ao9, co9, eo9⟩ := Kd.R_slice HO_7.out
    subst eo9
    have p361 : 0 ≤ (x9_1 : Int) := od_
    have q361 : x9_1 < (t357.length : Int) := od_
    (try (obtain ⟨Ax361_, cx361_, ex361_⟩ := Kd.R_slice HO_7.out; subst ex361_))
    obtain ⟨ad361, e361, hx361_0, hx361_1⟩ := at_T96 (Kd.R_reads' HO_7.out).2.2 x9_1 p361 q361
    cases e361
    replace p361 := eq_true p361
    replace q361 := eq_true q361
    go_wp2
    go_roundg k1
    case measure => have := HK1.out; omega
    case rel => exact ⟨(wrap64 (x9_1 + 1)), (by rfl), H', ⟨by have := HK1.out; omega⟩, ⟨rr_ HO_7.out⟩, ⟨HB.out⟩⟩
   rw [if_pos c7] at H
   have c7b0 : (((rd_T96 t357 x9_1).f0).toList == a1.toList) = true := beq_iff_eq.mpr c7
   have c7b1 : (((rd_T96 t357 x9_1).f0).toList != a1.toList) = false := bne_eq_false_iff_eq.mpr c7
   clear c7
   simp only [Option.some.injEq, Prod.mk.injEq] at H
   obtain ⟨rfl, rfl⟩ := H
   obtain ⟨Ao8, co8, eo8⟩ := Kd.R_slice HO_7.out
   subst eo8
   have p361 : 0 ≤ (x9_1 : Int) := od_
   have q361 : x9_1 < (t357.length : Int) := od_
   (try (obtain ⟨Ax361_, cx361_, ex361_⟩ := Kd.R_slice HO_7.out; subst ex361_))
   obtain ⟨ad361, e361, hx361_0, hx361_1⟩ := at_T96 (Kd.R_reads' HO_7.out).2.2 x9_1 p361 q361
   cases e361
   replace p361 := eq_true p361
   replace q361 := eq_true q361
   have p362 : 0 ≤ (x9_1 : Int) := od_
   have q362 : x9_1 < (t357.length : Int) := od_
   (try (obtain ⟨Ax362_, cx362_, ex362_⟩ := Kd.R_slice HO_7.out; subst ex362_))
   obtain ⟨ad362, e362, hx362_0, hx362_1⟩ := at_T96 (Kd.R_reads' HO_7.out).2.2 x9_1 p362 q362
   obtain rfl : ad361 = ad362 := (by injection e362)
   replace p362 := eq_true p362
   replace q362 := eq_true q362
   go_wp2
   go_ret2
   exact ⟨by rfl, HB.out⟩
def r29_Value.f (k : Nat) (a0 : ByteArray) (a1 : ByteArray) : Option (ByteArray) := (r03_Parse.f k a0).bind fun bt363 => (if a1.toList = ([95, 95, 110, 97, 109, 101, 95, 95] : List UInt8) then (some bt363.1) else ((r03_Get.f k a0 a1).bind fun bt368 => (some bt368.1)))
set_option maxHeartbeats 8000000 in
set_option maxRecDepth 100000 in
theorem r29_Value.calls (k : Nat) (a0 : ByteArray) (a1 : ByteArray) (r : ByteArray) (w : World) (h : r29_Value.f k a0 a1 = some r) :
 Calls Tryz.prog 22 #[.string a0, .string a1] w fun e w' => e = .returned (.string r) ∧ Below w.heap.size w w' := by
 have HB := A_ (Below.refl w.heap.size w)
 have H : ((r03_Parse.f k a0).bind fun bt363 => (if a1.toList = ([95, 95, 110, 97, 109, 101, 95, 95] : List UInt8) then (some bt363.1) else ((r03_Get.f k a0 a1).bind fun bt368 => (some bt368.1)))) = some r := h
 clear h
 replace H := Option.bind_eq_some_iff.mp H
 obtain ⟨⟨t363, t364, t365⟩, A30, H⟩ := H
 replace H : (if a1.toList = ([95, 95, 110, 97, 109, 101, 95, 95] : List UInt8) then (some t363) else ((r03_Get.f k a0 a1).bind fun bt368 => (some bt368.1))) = some r := H
 have A3 := A_ A30
 clear A30
 by_cases c4 : a1.toList = ([95, 95, 110, 97, 109, 101, 95, 95] : List UInt8)
 ·rw [if_pos c4] at H
  have c4b0 : (a1.toList == ([95, 95, 110, 97, 109, 101, 95, 95] : List UInt8)) = true := beq_iff_eq.mpr c4
  have c4b1 : (a1.toList != ([95, 95, 110, 97, 109, 101, 95, 95] : List UInt8)) = false := bne_eq_false_iff_eq.mpr c4
  clear c4
  obtain rfl := Option.some.inj H
  go_enter Tryz.func22, Tryz.ntmps22
  go_wp2_with (first | ((with_reducible refine gate_callee (f := 23) rfl ?_); refine goesL_ (some 12) rfl rfl Tryz.func23 (by kernel_rfl) rfl #[.string a0] rfl mp_ ?_; (with_reducible refine (r03_Parse.calls k a0 t363 t364 t365 _ A3.out).mono ?_); rintro e w5 ⟨v366, rfl, ho0, hb⟩; refine ⟨_, rfl, ?_⟩; have n0_ := A_ (Kd.R_lower ho0 (below_size HB.out)); have n1_ := A_ (below_step HB.out hb); clear HB; have HO367 := n0_; have HB := n1_; clear n0_ n1_; (try clear hb); (try clear hb2); (try clear hk); (try clear hi); (try clear ho0)))
  go_ret
  exact ⟨by rfl, HB.out⟩
 rw [if_neg c4] at H
 have c4b0 : (a1.toList == ([95, 95, 110, 97, 109, 101, 95, 95] : List UInt8)) = false := beq_eq_false_iff_ne.mpr c4
 have c4b1 : (a1.toList != ([95, 95, 110, 97, 109, 101, 95, 95] : List UInt8)) = true := bne_iff_ne.mpr c4
 replace H := Option.bind_eq_some_iff.mp H
 obtain ⟨⟨t368, t369⟩, A60, H⟩ := H
 replace H : (some t368) = some r := H
 have A6 := A_ A60
 clear A60
 obtain rfl := Option.some.inj H
 go_enter Tryz.func22, Tryz.ntmps22
 go_wp2_with (first | ((with_reducible refine gate_callee (f := 23) rfl ?_); refine goesL_ (some 12) rfl rfl Tryz.func23 (by kernel_rfl) rfl #[.string a0] rfl mp_ ?_; (with_reducible refine (r03_Parse.calls k a0 t363 t364 t365 _ A3.out).mono ?_); rintro e w7 ⟨v366, rfl, ho0, hb⟩; refine ⟨_, rfl, ?_⟩; have n0_ := A_ (Kd.R_lower ho0 (below_size HB.out)); have n1_ := A_ (below_step HB.out hb); clear HB; have HO367 := n0_; have HB := n1_; clear n0_ n1_; (try clear hb); (try clear hb2); (try clear hk); (try clear hi); (try clear ho0)) | ((with_reducible refine gate_callee (f := 42) rfl ?_); refine goesL_ (some 22) rfl rfl Tryz.func42 (by kernel_rfl) rfl #[.string a0, .string a1] rfl mp_ ?_; (with_reducible refine (r03_Get.calls k a0 a1 t368 t369 _ A6.out).mono ?_); rintro e w8 ⟨rfl, hb⟩; refine ⟨_, rfl, ?_⟩; have n0_ := A_ (Kd.R_below (rr_ HO367.out) hb); have n1_ := A_ (below_step HB.out hb); clear HO367; clear HB; have HO367 := n0_; have HB := n1_; clear n0_ n1_; (try clear hb); (try clear hb2); (try clear hk); (try clear hi)))
 go_ret
 exact ⟨by rfl, HB.out⟩
def r29_set.l0 : Nat → ByteArray → ByteArray → ByteArray → List (S96) → List (S96) → Int → Option (ByteArray × Int)
 | 0, _, _, _, _, _, _ => none
 | k + 1, x1, x2, x8, x9, x11, x12 => if x12 < (x9.length : Int) then (if 0 ≤ x12 then (if ((rd_T96 x9 x12).f0).toList = x1.toList then (r29_set.l0 k x1 x2 x8 x9 x11 (wrap64 (x12 + 1))) else (if x11.length < 4398046511104 then (r29_set.l0 k x1 x2 x8 x9 (x11 ++ [(⟨(rd_T96 x9 x12).f0, (rd_T96 x9 x12).f1⟩ : S96)]) (wrap64 (x12 + 1))) else (none))) else (none)) else (if x2.toList = ([] : List UInt8) then ((r03_Name.f k x8 x11).bind fun bt382 => (some (bt382.1, bt382.2))) else (if x11.length < 4398046511104 then ((r03_Name.f k x8 (x11 ++ [(⟨x1, x2⟩ : S96)])).bind fun bt387 => (some (bt387.1, bt387.2))) else (none)))
def r29_set.f (k : Nat) (a0 : ByteArray) (a1 : ByteArray) (a2 : ByteArray) : Option (ByteArray × Int) := (r03_Parse.f k a0).bind fun bt370 => (if a1.toList = ([95, 95, 110, 97, 109, 101, 95, 95] : List UInt8) then ((r03_Name.f k a2 bt370.2.1).bind fun bt375 => (some (bt375.1, bt375.2))) else (r29_set.l0 k a1 a2 bt370.1 bt370.2.1 ([] : List (S96)) 0))
set_option maxHeartbeats 8000000 in
set_option maxRecDepth 100000 in
theorem r29_set.calls (k : Nat) (a0 : ByteArray) (a1 : ByteArray) (a2 : ByteArray) (r1 : ByteArray) (r2 : Int) (w : World) (h : r29_set.f k a0 a1 a2 = some (r1, r2)) :
 Calls Tryz.prog 68 #[.string a0, .string a1, .string a2] w fun e w' => e = .returned (.tuple #[.string r1, .int .i64 r2]) ∧ Below w.heap.size w w' := by
 have hu96 := Tryz.underlying96
 have HB := A_ (Below.refl w.heap.size w)
 have H : ((r03_Parse.f k a0).bind fun bt370 => (if a1.toList = ([95, 95, 110, 97, 109, 101, 95, 95] : List UInt8) then ((r03_Name.f k a2 bt370.2.1).bind fun bt375 => (some (bt375.1, bt375.2))) else (r29_set.l0 k a1 a2 bt370.1 bt370.2.1 ([] : List (S96)) 0))) = some (r1, r2) := h
 clear h
 replace H := Option.bind_eq_some_iff.mp H
 obtain ⟨⟨t370, t371, t372⟩, A40, H⟩ := H
 replace H : (if a1.toList = ([95, 95, 110, 97, 109, 101, 95, 95] : List UInt8) then ((r03_Name.f k a2 t371).bind fun bt375 => (some (bt375.1, bt375.2))) else (r29_set.l0 k a1 a2 t370 t371 ([] : List (S96)) 0)) = some (r1, r2) := H
 have A4 := A_ A40
 clear A40
 by_cases c5 : a1.toList = ([95, 95, 110, 97, 109, 101, 95, 95] : List UInt8)
 ·rw [if_pos c5] at H
  have c5b0 : (a1.toList == ([95, 95, 110, 97, 109, 101, 95, 95] : List UInt8)) = true := beq_iff_eq.mpr c5
  have c5b1 : (a1.toList != ([95, 95, 110, 97, 109, 101, 95, 95] : List UInt8)) = false := bne_eq_false_iff_eq.mpr c5
  clear c5
  replace H := Option.bind_eq_some_iff.mp H
  obtain ⟨⟨t375, t376⟩, A60, H⟩ := H
  replace H : (some (t375, t376)) = some (r1, r2) := H
  have A6 := A_ A60
  clear A60
  simp only [Option.some.injEq, Prod.mk.injEq] at H
  obtain ⟨rfl, rfl⟩ := H
  go_enter Tryz.func68, Tryz.ntmps68
  go_wp2_with (first | ((with_reducible refine gate_callee (f := 23) rfl ?_); refine goesL_ (some 15) rfl rfl Tryz.func23 (by kernel_rfl) rfl #[.string a0] rfl mp_ ?_; (with_reducible refine (r03_Parse.calls k a0 t370 t371 t372 _ A4.out).mono ?_); rintro e w7 ⟨v373, rfl, ho0, hb⟩; refine ⟨_, rfl, ?_⟩; have n0_ := A_ (Kd.R_lower ho0 (below_size HB.out)); have n1_ := A_ (below_step HB.out hb); clear HB; have HO374 := n0_; have HB := n1_; clear n0_ n1_; (try clear hb); (try clear hb2); (try clear hk); (try clear hi); (try clear ho0); obtain ⟨Ao8, co8, eo8⟩ := Kd.R_slice HO374.out; subst eo8) | ((with_reducible refine gate_callee (f := 45) rfl ?_); refine goesL_ (some 23) rfl rfl Tryz.func45 (by kernel_rfl) rfl #[.string a2, .slice Ao8 t371.length co8] rfl mp_ ?_; (with_reducible refine (r03_Name.calls k a2 _ _ t371 t375 t376 _ ?side1 ?side2 A6.out).mono ?_); (case side1 => repeat (exact (Kd.R_reads' HO374.out).2.2)); (case side2 => exact (Kd.R_reads' HO374.out).2.1); rintro e w9 ⟨rfl, hb⟩; refine ⟨_, rfl, ?_⟩; have n0_ := A_ (Kd.R_below (rr_ HO374.out) hb); have n1_ := A_ (below_step HB.out hb); clear HO374; clear HB; have HO374 := n0_; have HB := n1_; clear n0_ n1_; (try clear hb); (try clear hb2); (try clear hk); (try clear hi)))
  go_ret2
  exact ⟨by rfl, HB.out⟩
 rw [if_neg c5] at H
 have c5b0 : (a1.toList == ([95, 95, 110, 97, 109, 101, 95, 95] : List UInt8)) = false := beq_eq_false_iff_ne.mpr c5
 have c5b1 : (a1.toList != ([95, 95, 110, 97, 109, 101, 95, 95] : List UInt8)) = true := bne_iff_ne.mpr c5
 have H' := A_ H
 clear H
 go_enter Tryz.func68, Tryz.ntmps68
 go_wp2_with (first | ((with_reducible refine gate_callee (f := 23) rfl ?_); refine goesL_ (some 15) rfl rfl Tryz.func23 (by kernel_rfl) rfl #[.string a0] rfl mp_ ?_; (with_reducible refine (r03_Parse.calls k a0 t370 t371 t372 _ A4.out).mono ?_); rintro e w10 ⟨v373, rfl, ho0, hb⟩; refine ⟨_, rfl, ?_⟩; have n0_ := A_ (Kd.R_lower ho0 (below_size HB.out)); have n1_ := A_ (below_step HB.out hb); clear HB; have HO374 := n0_; have HB := n1_; clear n0_ n1_; (try clear hb); (try clear hb2); (try clear hk); (try clear hi); (try clear ho0)))
 go_loopg [11, 12] k (fun kq v11 v12 w' => ∃ (x11_1 : List (S96)) (x12_1 : Int), v12 = .int .i64 x12_1 ∧ Aside0 (r29_set.l0 kq a1 a2 t370 t371 x11_1 x12_1 = some (r1, r2)) ∧ Aside0 (kq ≤ k) ∧ Aside0 (Kd.R k96 96 w' w.heap.size (fun k_ => some k_ ≠ (v11 : Value).ownBlock) v373 t371) ∧ Aside0 (Kd.R k96 96 w' w.heap.size (fun k_ => some k_ ≠ (v373 : Value).ownBlock) v11 x11_1) ∧ Aside0 (Below w.heap.size w w'))
 case atStart => exact ⟨(([] : List (S96))), (0), (by rfl), H', ⟨Nat.le_refl _⟩, ⟨by (with_reducible repeat (first | apply Kd.R_alloc | apply Kd.R_drewN | apply Kd.R_drew)); exact Kd.R_mono HO374.out (fun _ hk => (by simp [Value.ownBlock]))⟩, ⟨by exact Kd.R_nil _ _ _ _ _⟩, ⟨HB.out⟩⟩
 case round =>
  clear H'
  try clear c2
  try clear p2
  try clear c4
  try clear c5
  try clear c5b0
  try clear c5b1
  try clear c6
  obtain ⟨x11_1, x12_1, rfl, HA, HK1, HO_9, HO_11, HB⟩ := hrel
  cases gk with
  | zero => exact absurd HA.out (by simp [r29_set.l0])
  | succ k1 =>
   have H := HA.out
   clear HA
   simp only [r29_set.l0] at H
   by_cases c11 : x12_1 < (t371.length : Int)
   rotate_left
   ·rw [if_neg c11] at H
    have c11b0 := decide_eq_false c11
    clear c11
    by_cases c18 : a2.toList = ([] : List UInt8)
    ·rw [if_pos c18] at H
     have c18b0 : (a2.toList == ([] : List UInt8)) = true := beq_iff_eq.mpr c18
     have c18b1 : (a2.toList != ([] : List UInt8)) = false := bne_eq_false_iff_eq.mpr c18
     clear c18
     replace H := Option.bind_eq_some_iff.mp H
     obtain ⟨⟨t382, t383⟩, A190, H⟩ := H
     replace H : (some (t382, t383)) = some (r1, r2) := H
     have A19 := A_ A190
     clear A190
     simp only [Option.some.injEq, Prod.mk.injEq] at H
     obtain ⟨rfl, rfl⟩ := H
     obtain ⟨Ao20, co20, eo20⟩ := Kd.R_slice HO_9.out
     subst eo20
     obtain ⟨Ao21, co21, eo21⟩ := Kd.R_slice HO_11.out
     subst eo21
     go_wp2_with (first | ((with_reducible refine gate_callee (f := 45) rfl ?_); refine goesL_ (some 56) rfl rfl Tryz.func45 (by kernel_rfl) rfl #[.string t370, .slice Ao21 x11_1.length co21] rfl mp_ ?_; (with_reducible refine (r03_Name.calls k1 t370 _ _ x11_1 t382 t383 _ ?side1 ?side2 A19.out).mono ?_); (case side1 => repeat (exact (Kd.R_reads' HO_11.out).2.2)); (case side2 => exact (Kd.R_reads' HO_11.out).2.1); rintro e w22 ⟨rfl, hb⟩; refine ⟨_, rfl, ?_⟩; have n0_ := A_ (Kd.R_below (rr_ HO_9.out) hb); have n1_ := A_ (Kd.R_below (rr_ HO_11.out) hb); have n2_ := A_ (below_step HB.out hb); clear HO_9; clear HO_11; clear HB; have HO_9 := n0_; have HO_11 := n1_; have HB := n2_; clear n0_ n1_ n2_; (try clear hb); (try clear hb2); (try clear hk); (try clear hi)))
     go_ret2
     exact ⟨by rfl, HB.out⟩
    rw [if_neg c18] at H
    have c18b0 : (a2.toList == ([] : List UInt8)) = false := beq_eq_false_iff_ne.mpr c18
    have c18b1 : (a2.toList != ([] : List UInt8)) = true := bne_iff_ne.mpr c18
    by_cases c23 : x11_1.length < 4398046511104
    rotate_left
    ·rw [if_neg c23] at H
     exact absurd H (by simp)
    rw [if_pos c23] at H
    have LMc23 := A_ c23
    clear c23
    obtain ⟨y384, hy384⟩ : ∃ y_ : List (S96), y_ = (x11_1 ++ [(⟨a1, a2⟩ : S96)]) := ⟨_, rfl⟩
    replace H : ((r03_Name.f k1 t370 y384).bind fun bt387 => (some (bt387.1, bt387.2))) = some (r1, r2) := by (rw [hy384]; with_reducible exact H)
    have Ny384 := A_ hy384
    clear hy384
    replace H := Option.bind_eq_some_iff.mp H
    obtain ⟨⟨t387, t388⟩, A240, H⟩ := H
    replace H : (some (t387, t388)) = some (r1, r2) := H
    have A24 := A_ A240
    clear A240
    simp only [Option.some.injEq, Prod.mk.injEq] at H
    obtain ⟨rfl, rfl⟩ := H
    obtain ⟨Ao25, co25, eo25⟩ := Kd.R_slice HO_9.out
    subst eo25
    go_wp2_with (first | ((with_reducible refine gate_builtin (b := .append) (xs := #[.tmp 48, .tmp 52]) rfl ?_); at_builtin; refine Kd.R_append k96 (w0 := w) w.heap.size rfl (.tmp 48) (.tmp 52) 44 96 (.agg #[(.string ⟨#[]⟩), (.string ⟨#[]⟩)]) 32 rfl Tryz.underlying44 info96 rfl (by decide) (by omega) u11 x11_1 (⟨a1, a2⟩ : S96) [.string a1, .string a2] (fun k_ => some k_ ≠ (.slice Ao25 t371.length co25 : Value).ownBlock) (fun _ => False) rfl rfl ?aP (fun _ hk => hk.elim) ?aF ?aO ?aB ?aS ?aL ?_; (case aP => exact k96_mkM _ _ _ (⟨a1, a2⟩ : S96)); (case aB => exact HB.out); (case aF => exact (fun k_ hk => Kd.fresh' (Kd.R_lt (rr_ HO_9.out)) k_ hk)); (case aO => exact (rr_ HO_11.out)); (case aS => exact (below_size HB.out)); (case aL => have := LMc23.out; omega); intro v385 w26 ho hb hg hat; rw [← Ny384.out] at ho; have n0_ := A_ (Kd.R_after (ok := (fun _ => True)) (by (with_reducible repeat (first | apply Kd.R_alloc | apply Kd.R_drewN | apply Kd.R_drew)); exact Kd.R_mono HO_9.out (fun _ hk => ⟨trivial, hk⟩)) hg hat); have n1_ := A_ (hb); have n2_ := A_ (ho); clear HO_9; clear HB; clear HO_11; have HO_9 := n0_; have HB := n1_; have HO386 := n2_; clear n0_ n1_ n2_; clear ho hb hg hat; obtain ⟨Ao27, co27, eo27⟩ := Kd.R_slice HO386.out; subst eo27) | ((with_reducible refine gate_callee (f := 45) rfl ?_); refine goesL_ (some 56) rfl rfl Tryz.func45 (by kernel_rfl) rfl #[.string t370, .slice Ao27 y384.length co27] rfl mp_ ?_; (with_reducible refine (r03_Name.calls k1 t370 _ _ y384 t387 t388 _ ?side1 ?side2 A24.out).mono ?_); (case side1 => repeat (exact (Kd.R_reads' HO386.out).2.2)); (case side2 => exact (Kd.R_reads' HO386.out).2.1); rintro e w28 ⟨rfl, hb⟩; refine ⟨_, rfl, ?_⟩; have n0_ := A_ (Kd.R_below (rr_ HO_9.out) hb); have n1_ := A_ (Kd.R_below (rr_ HO386.out) hb); have n2_ := A_ (below_step HB.out hb); clear HO_9; clear HO386; clear HB; have HO_9 := n0_; have HO386 := n1_; have HB := n2_; clear n0_ n1_ n2_; (try clear hb); (try clear hb2); (try clear hk); (try clear hi)))
    go_ret2
    exact ⟨by rfl, HB.out⟩
   rw [if_pos c11] at H
   have c11b0 := decide_eq_true c11
   clear c11
   by_cases c12 : 0 ≤ x12_1
   rotate_left
   ·rw [if_neg c12] at H
    exact absurd H (by simp)
   rw [if_pos c12] at H
   have c12b0 := decide_eq_true c12
   clear c12
   by_cases c13 : ((rd_T96 t371 x12_1).f0).toList = a1.toList
   ·rw [if_pos c13] at H
    have c13b0 : (((rd_T96 t371 x12_1).f0).toList == a1.toList) = true := beq_iff_eq.mpr c13
    have c13b1 : (((rd_T96 t371 x12_1).f0).toList != a1.toList) = false := bne_eq_false_iff_eq.mpr c13
    clear c13
    have H' := A_ H
    clear H
    obtain ⟨Ao14, co14, eo14⟩ := Kd.R_slice HO_9.out
    subst eo14
    have p377 : 0 ≤ (x12_1 : Int) := od_
    have q377 : x12_1 < (t371.length : Int) := od_
    (try (obtain ⟨Ax377_, cx377_, ex377_⟩ := Kd.R_slice HO_9.out; subst ex377_))
    obtain ⟨ad377, e377, hx377_0, hx377_1⟩ := at_T96 (Kd.R_reads' HO_9.out).2.2 x12_1 p377 q377
    cases e377
    replace p377 := eq_true p377
    replace q377 := eq_true q377
    go_wp2
    go_roundg k1
    case measure => have := HK1.out; omega
    case rel => exact ⟨(x11_1), (wrap64 (x12_1 + 1)), (by rfl), H', ⟨by have := HK1.out; omega⟩, ⟨rr_ HO_9.out⟩, ⟨rr_ HO_11.out⟩, ⟨HB.out⟩⟩
   rw [if_neg c13] at H
   have c13b0 : (((rd_T96 t371 x12_1).f0).toList == a1.toList) = false := beq_eq_false_iff_ne.mpr c13
   have c13b1 : (((rd_T96 t371 x12_1).f0).toList != a1.toList) = true := bne_iff_ne.mpr c13
   by_cases c15 : x11_1.length < 4398046511104
   rotate_left
   ·rw [if_neg c15] at H
    exact absurd H (by simp)
   rw [if_pos c15] at H
   have LMc15 := A_ c15
   clear c15
   obtain ⟨y379, hy379⟩ : ∃ y_ : List (S96), y_ = (x11_1 ++ [(⟨(rd_T96 t371 x12_1).f0, (rd_T96 t371 x12_1).f1⟩ : S96)]) := ⟨_, rfl⟩
   replace H : (r29_set.l0 k1 a1 a2 t370 t371 y379 (wrap64 (x12_1 + 1))) = some (r1, r2) := by (rw [hy379]; with_reducible exact H)
   have Ny379 := A_ hy379
   clear hy379
   have H' := A_ H
   clear H
   obtain ⟨Ao16, co16, eo16⟩ := Kd.R_slice HO_9.out
   subst eo16
   have p377 : 0 ≤ (x12_1 : Int) := od_
   have q377 : x12_1 < (t371.length : Int) := od_
   (try (obtain ⟨Ax377_, cx377_, ex377_⟩ := Kd.R_slice HO_9.out; subst ex377_))
   obtain ⟨ad377, e377, hx377_0, hx377_1⟩ := at_T96 (Kd.R_reads' HO_9.out).2.2 x12_1 p377 q377
   cases e377
   replace p377 := eq_true p377
   replace q377 := eq_true q377
   have p378 : 0 ≤ (x12_1 : Int) := od_
   have q378 : x12_1 < (t371.length : Int) := od_
   (try (obtain ⟨Ax378_, cx378_, ex378_⟩ := Kd.R_slice HO_9.out; subst ex378_))
   obtain ⟨ad378, e378, hx378_0, hx378_1⟩ := at_T96 (Kd.R_reads' HO_9.out).2.2 x12_1 p378 q378
   obtain rfl : ad377 = ad378 := (by injection e378)
   replace p378 := eq_true p378
   replace q378 := eq_true q378
   go_wp2_with (first | ((with_reducible refine gate_builtin (b := .append) (xs := #[.tmp 39, .tmp 44]) rfl ?_); at_builtin; refine Kd.R_append k96 (w0 := w) w.heap.size rfl (.tmp 39) (.tmp 44) 44 96 (.agg #[(.string ⟨#[]⟩), (.string ⟨#[]⟩)]) 32 rfl Tryz.underlying44 info96 rfl (by decide) (by omega) u11 x11_1 (⟨(rd_T96 t371 x12_1).f0, (rd_T96 t371 x12_1).f1⟩ : S96) [.string ((rd_T96 t371 x12_1).f0), .string ((rd_T96 t371 x12_1).f1)] (fun k_ => some k_ ≠ (.slice (some ad377) t371.length co16 : Value).ownBlock) (fun _ => False) rfl rfl ?aP (fun _ hk => hk.elim) ?aF ?aO ?aB ?aS ?aL ?_; (case aP => exact k96_mkM _ _ _ (⟨(rd_T96 t371 x12_1).f0, (rd_T96 t371 x12_1).f1⟩ : S96)); (case aB => exact HB.out); (case aF => exact (fun k_ hk => Kd.fresh' (Kd.R_lt (rr_ HO_9.out)) k_ hk)); (case aO => exact (rr_ HO_11.out)); (case aS => exact (below_size HB.out)); (case aL => have := LMc15.out; omega); intro v380 w17 ho hb hg hat; rw [← Ny379.out] at ho; have n0_ := A_ (Kd.R_after (ok := (fun _ => True)) (by (with_reducible repeat (first | apply Kd.R_alloc | apply Kd.R_drewN | apply Kd.R_drew)); exact Kd.R_mono HO_9.out (fun _ hk => ⟨trivial, hk⟩)) hg hat); have n1_ := A_ (hb); have n2_ := A_ (ho); clear HO_9; clear HB; clear HO_11; have HO_9 := n0_; have HB := n1_; have HO381 := n2_; clear n0_ n1_ n2_; clear ho hb hg hat))
   go_roundg k1
   case measure => have := HK1.out; omega
   case rel => exact ⟨(y379), (wrap64 (x12_1 + 1)), (by rfl), H', ⟨by have := HK1.out; omega⟩, ⟨by (with_reducible repeat (first | apply Kd.R_alloc | apply Kd.R_drewN | apply Kd.R_drew)); exact Kd.R_mono HO_9.out (fun _ hk => hk.2)⟩, ⟨rr_ HO381.out⟩, ⟨HB.out⟩⟩
end Go.Proofs.YtcikjeiebpmmcaaGreat.PMch
