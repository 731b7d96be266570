/- Pruned. -/
import Derived.Test.YtcikjeiebpmmcaaGreatQyPMchx0
import Derived.Test.YtcikjeiebpmmcaaGreatQyPMchx11
import Derived.Test.YtcikjeiebpmmcaaGreatQyPMchx14
import Derived.Test.YtcikjeiebpmmcaaGreatQyPMchx15
import Derived.Test.YtcikjeiebpmmcaaGreatQyPMchx16
namespace Go.Proofs.YtcikjeiebpmmcaaGreat.PMch
open Go.RowKit Go.Proofs.YtcikjeiebpmmcaaGreatW.PrintWords Go.Proofs.YtcikjeiebpmmcaaGreatW.PrintLast Go.Proofs.YtcikjeiebpmmcaaGreatW.PrintMore
attribute [local go_sem] max2_int max_two
set_option linter.unusedVariables false
set_option linter.unusedSimpArgs false
mutual
def r03_Name.j0 : Nat → ByteArray → List (S96) → Bool → Option (ByteArray × Int)
 | 0, _, _, _ => none
 | k + 1, x0, x1, x16 => if x16 = true then (some ((⟨#[]⟩ : ByteArray), 5)) else ((r03_Sorted.f k x1).bind fun t337 => (r03_Name.l0 k t337 x0 0))
def r03_Name.l0 : Nat → List (S96) → ByteArray → Int → Option (ByteArray × Int)
 | 0, _, _, _ => none
 | k + 1, x1, x6, x7 => if x7 < (x1.length : Int) then (if x7 = 0 then (if x6.size + 1 ≤ 9223372036854775807 then (if 0 ≤ x7 then (if (x6 ++ (⟨#[123]⟩ : ByteArray)).size + ((rd_T96 x1 x7).f0).size ≤ 9223372036854775807 then (if ((x6 ++ (⟨#[123]⟩ : ByteArray)) ++ ((rd_T96 x1 x7).f0)).size + 2 ≤ 9223372036854775807 then ((r03_Escape.f k ((rd_T96 x1 x7).f1)).bind fun t342 => (if (((x6 ++ (⟨#[123]⟩ : ByteArray)) ++ ((rd_T96 x1 x7).f0)) ++ (⟨#[61, 34]⟩ : ByteArray)).size + t342.size ≤ 9223372036854775807 then (if ((((x6 ++ (⟨#[123]⟩ : ByteArray)) ++ ((rd_T96 x1 x7).f0)) ++ (⟨#[61, 34]⟩ : ByteArray)) ++ t342).size + 1 ≤ 9223372036854775807 then (r03_Name.l0 k x1 (((((x6 ++ (⟨#[123]⟩ : ByteArray)) ++ ((rd_T96 x1 x7).f0)) ++ (⟨#[61, 34]⟩ : ByteArray)) ++ t342) ++ (⟨#[34]⟩ : ByteArray)) (wrap64 (x7 + 1))) else (none)) else (none))) else (none)) else (none)) else (none)) else (none)) else (if x6.size + 1 ≤ 9223372036854775807 then (if 0 ≤ x7 then (if (x6 ++ (⟨#[44]⟩ : ByteArray)).size + ((rd_T96 x1 x7).f0).size ≤ 9223372036854775807 then (if ((x6 ++ (⟨#[44]⟩ : ByteArray)) ++ ((rd_T96 x1 x7).f0)).size + 2 ≤ 9223372036854775807 then ((r03_Escape.f k ((rd_T96 x1 x7).f1)).bind fun t345 => (if (((x6 ++ (⟨#[44]⟩ : ByteArray)) ++ ((rd_T96 x1 x7).f0)) ++ (⟨#[61, 34]⟩ : ByteArray)).size + t345.size ≤ 9223372036854775807 then (if ((((x6 ++ (⟨#[44]⟩ : ByteArray)) ++ ((rd_T96 x1 x7).f0)) ++ (⟨#[61, 34]⟩ : ByteArray)) ++ t345).size + 1 ≤ 9223372036854775807 then (r03_Name.l0 k x1 (((((x6 ++ (⟨#[44]⟩ : ByteArray)) ++ ((rd_T96 x1 x7).f0)) ++ (⟨#[61, 34]⟩ : ByteArray)) ++ t345) ++ (⟨#[34]⟩ : ByteArray)) (wrap64 (x7 + 1))) else (none)) else (none))) else (none)) else (none)) else (none)) else (none))) else (if (x1.length : Int) > 0 then (if x6.size + 1 ≤ 9223372036854775807 then (some (x6 ++ (⟨#[125]⟩ : ByteArray), 0)) else (none)) else (some (x6, 0)))
end
def r03_Name.f (k : Nat) (a0 : ByteArray) (l1 : List (S96)) : Option (ByteArray × Int) := (r03_IsMetric.f k a0).bind fun t335 => (if t335 = true then ((r03_may.f k l1).bind fun t336 => (r03_Name.j0 k a0 l1 (!t336))) else (r03_Name.j0 k a0 l1 true))
theorem r03_Name.mono_l : ∀ k, (∀ y0 y1 y2, LeO (r03_Name.j0 k y0 y1 y2) (r03_Name.j0 (k + 1) y0 y1 y2)) ∧ (∀ y0 y1 y2, LeO (r03_Name.l0 k y0 y1 y2) (r03_Name.l0 (k + 1) y0 y1 y2))
 | 0 => ⟨fun _ _ _ r h => by simp [r03_Name.j0] at h, fun _ _ _ r h => by simp [r03_Name.l0] at h⟩
 | k + 1 => by
  obtain ⟨ih0, ih1⟩ := r03_Name.mono_l k
  refine ⟨?_, ?_⟩
  rotate_left
  ·intro y0 y1 y2
   unfold r03_Name.l0
   repeat' first
   | (with_reducible first | exact ih0 _ _ _ | exact ih1 _ _ _ | exact r03_Escape.mono _ _ | exact r03_IsMetric.mono _ _ | exact r03_Sorted.mono _ _ | exact r03_may.mono _ _ | exact LeO.refl _ | exact LeO.none _ | refine LeO.ite ?_ ?_ | refine LeO.bind ?_ (fun _ => ?_))
  intro y0 y1 y2
  unfold r03_Name.j0
  repeat' first
  | (with_reducible first | exact ih0 _ _ _ | exact ih1 _ _ _ | exact r03_Escape.mono _ _ | exact r03_IsMetric.mono _ _ | exact r03_Sorted.mono _ _ | exact r03_may.mono _ _ | exact LeO.refl _ | exact LeO.none _ | refine LeO.ite ?_ ?_ | refine LeO.bind ?_ (fun _ => ?_))
theorem r03_Name.mono : ∀ a0 a1 k, LeO (r03_Name.f k a0 a1) (r03_Name.f (k + 1) a0 a1) := by
 intro a0 a1 k
 obtain ⟨ih0, ih1⟩ := r03_Name.mono_l k
 unfold r03_Name.f
 repeat' first
  | (with_reducible first | exact ih0 _ _ _ | exact ih1 _ _ _ | exact r03_Escape.mono _ _ | exact r03_IsMetric.mono _ _ | exact r03_Sorted.mono _ _ | exact r03_may.mono _ _ | exact LeO.refl _ | exact LeO.none _ | refine LeO.ite ?_ ?_ | refine LeO.bind ?_ (fun _ => ?_))
def r03_Name.T11 : Bool × List (List Nat × List Nat) := (true, [([], []), ([], []), ([0, 1], [0, 1]), ([], []), ([], []), ([3, 4], [3, 4]), ([5], [5]), ([6], [6]), ([2, 7], [2, 7]), ([8], [8]), ([], []), ([], []), ([10, 11], [10, 11]), ([12], [12]), ([13], [13]), ([14], [14]), ([9, 15], [9, 15]), ([16], [16]), ([17, 15, 0, 1, 2, 3, 4, 5, 6, 7, 8, 9, 10, 11, 12, 13, 14, 15, 16, 17], [0, 17])])
def r03_Name.B11 : List Nat := [0, 0, 3, 0, 0, 24, 56, 120, 255, 511, 0, 0, 3072, 7168, 15360, 31744, 65535, 131071, 262143]
theorem r03_Name.tab11 : rtab .any (opsOf Tryz.f45 11) = r03_Name.T11 := by kernel_rfl
theorem r03_Name.bits11 : waitsOk r03_Name.T11.2 r03_Name.B11 = true := by kernel_rfl
set_option maxHeartbeats 8000000 in
set_option maxRecDepth 100000 in
theorem r03_Name.calls (k : Nat) (a0 : ByteArray) (A1 : Option Addr) (c1 : Nat) (l1 : List (S96)) (r1 : ByteArray) (r2 : Int) (w : World) (hr1 : Kd.C k96 w A1 l1.length l1) (hc1 : l1.length ≤ c1) (h : r03_Name.f k a0 l1 = some (r1, r2)) :
 Calls Tryz.prog 45 #[.string a0, .slice A1 l1.length c1] w fun e w' => e = .returned (.tuple #[.string r1, .int .i64 r2]) ∧ Below w.heap.size w w' := by
 have HR1 := A_ hr1
 have HC1 := A_ hc1
 clear hr1 hc1
 have HB := A_ (Below.refl w.heap.size w)
 have H : ((r03_IsMetric.f k a0).bind fun t335 => (if t335 = true then ((r03_may.f k l1).bind fun t336 => (r03_Name.j0 k a0 l1 (!t336))) else (r03_Name.j0 k a0 l1 true))) = some (r1, r2) := h
 clear h
 have HC3 := A_ H
 clear H
 go_enter Tryz.func45, Tryz.ntmps45
 go_upto_region 1 with (fail)
 go_cut [16] (fun v16 wc => ∃ (kq : Nat) (x16_2 : Bool), v16 = .bool x16_2 ∧ Aside0 (r03_Name.j0 kq a0 l1 x16_2 = some (r1, r2)) ∧ Aside0 (kq ≤ k) ∧ Aside0 (Below w.heap.size w wc))
 case first =>
  have H := HC3.out
  clear HC3
  replace H := Option.bind_eq_some_iff.mp H
  obtain ⟨t335, A40, H⟩ := H
  replace H : (if t335 = true then ((r03_may.f k l1).bind fun t336 => (r03_Name.j0 k a0 l1 (!t336))) else (r03_Name.j0 k a0 l1 true)) = some (r1, r2) := H
  have A4 := A_ A40
  clear A40
  by_cases c5 : t335 = true
  rotate_left
  ·replace c5 := Bool.eq_false_iff.mpr c5
   subst c5
   have H1 : (r03_Name.j0 k a0 l1 true) = some (r1, r2) := by rw [if_neg (show ¬ (false = true) by decide)] at H; exact H
   clear H
   have H := H1
   clear H1
   have H' := A_ H
   clear H
   go_wp2_with (first | ((with_reducible refine gate_callee (f := 69) rfl ?_); refine goesL_ (some 10) rfl rfl Tryz.func69 (by kernel_rfl) rfl #[.string a0] rfl mp_ ?_; (with_reducible refine (r03_IsMetric.calls k a0 false _ A4.out).mono ?_); rintro e w' ⟨rfl, ⟨nd, rfl⟩⟩; refine ⟨_, rfl, ?_⟩))
   go_meet
   case rel => exact ⟨_, (true), (by rfl), H', ⟨by omega⟩, ⟨by repeat ((with_reducible first | exact HB.out | apply pw_below_drewN))⟩⟩
  subst c5
  have H1 : ((r03_may.f k l1).bind fun t336 => (r03_Name.j0 k a0 l1 (!t336))) = some (r1, r2) := by rw [if_pos rfl] at H; exact H
  clear H
  have H := H1
  clear H1
  replace H := Option.bind_eq_some_iff.mp H
  obtain ⟨t336, A60, H⟩ := H
  replace H : (r03_Name.j0 k a0 l1 (!t336)) = some (r1, r2) := H
  have A6 := A_ A60
  clear A60
  have H' := A_ H
  clear H
  go_wp2_with (first | ((with_reducible refine gate_callee (f := 69) rfl ?_); refine goesL_ (some 10) rfl rfl Tryz.func69 (by kernel_rfl) rfl #[.string a0] rfl mp_ ?_; (with_reducible refine (r03_IsMetric.calls k a0 true _ A4.out).mono ?_); rintro e w' ⟨rfl, ⟨nd, rfl⟩⟩; refine ⟨_, rfl, ?_⟩) | (go_at_call 70; (with_reducible refine (r03_may.calls k _ _ l1 t336 _ ?side1 ?side2 A6.out).mono ?_); (case side1 => repeat (exact (Kd.C_below HR1.out (by repeat ((with_reducible first | exact HB.out | apply pw_below_drewN)))))); (case side2 => exact HC1.out); rintro e w' ⟨rfl, ⟨nd, rfl⟩⟩))
  go_meet
  case rel => exact ⟨_, (!t336), (by rfl), H', ⟨by omega⟩, ⟨by repeat ((with_reducible first | exact HB.out | apply pw_below_drewN))⟩⟩
 case rest =>
  clear HC3
  try clear c1
  try clear p2
  try clear c4
  try clear c5
  try clear c6
  obtain ⟨kq, x16_2, rfl, HA, HJ2, HB⟩ := hcut
  cases kq with
  | zero => exact absurd HA.out (by simp [r03_Name.j0])
  | succ kj2 =>
   have H := HA.out
   clear HA
   simp only [r03_Name.j0] at H
   by_cases c7 : x16_2 = true
   ·subst c7
    have H1 : (some ((⟨#[]⟩ : ByteArray), 5)) = some (r1, r2) := by rw [if_pos rfl] at H; exact H
    clear H
    have H := H1
    clear H1
    simp only [Option.some.injEq, Prod.mk.injEq] at H
    obtain ⟨rfl, rfl⟩ := H
    go_wp2
    go_ret2
    exact ⟨by rfl, HB.out⟩
   replace c7 := Bool.eq_false_iff.mpr c7
   subst c7
   have H1 : ((r03_Sorted.f kj2 l1).bind fun t337 => (r03_Name.l0 kj2 t337 a0 0)) = some (r1, r2) := by rw [if_neg (show ¬ (false = true) by decide)] at H; exact H
   clear H
   have H := H1
   clear H1
   replace H := Option.bind_eq_some_iff.mp H
   obtain ⟨t337, A80, H⟩ := H
   replace H : (r03_Name.l0 kj2 t337 a0 0) = some (r1, r2) := H
   have A8 := A_ A80
   clear A80
   have H' := A_ H
   clear H
   go_wp2_with (first | ((with_reducible refine gate_callee (f := 71) rfl ?_); refine goesL_ (some 19) rfl rfl Tryz.func71 (by kernel_rfl) rfl #[.slice A1 l1.length c1] rfl mp_ ?_; (with_reducible refine (r03_Sorted.calls kj2 _ _ l1 t337 _ ?side1 ?side2 A8.out).mono ?_); (case side1 => repeat (exact (Kd.C_below HR1.out HB.out))); (case side2 => exact HC1.out); rintro e w9 ⟨v338, rfl, ho0, hb⟩; refine ⟨_, rfl, ?_⟩; have n0_ := A_ (Kd.R_lower ho0 (below_size HB.out)); have n1_ := A_ (below_step HB.out hb); clear HB; have HO339 := n0_; have HB := n1_; clear n0_ n1_; (try clear hb); (try clear hb2); (try clear hk); (try clear hi); (try clear ho0)))
   go_loopg [6, 7] kj2 (fun kq v6 v7 w' => ∃ (x6_2 : ByteArray) (x7_2 : Int), v6 = .string x6_2 ∧ v7 = .int .i64 x7_2 ∧ Aside0 (r03_Name.l0 kq t337 x6_2 x7_2 = some (r1, r2)) ∧ Aside0 (kq ≤ kj2) ∧ Aside0 (Kd.R k96 96 w' w.heap.size (fun _ => True) v338 t337) ∧ Aside0 (Below w.heap.size w w'))
   case atStart => exact ⟨(a0), (0), (by rfl), (by rfl), H', ⟨Nat.le_refl _⟩, ⟨rr_ HO339.out⟩, ⟨HB.out⟩⟩
   case round =>
    clear H'
    try clear c1
    try clear p2
    try clear c4
    try clear c5
    try clear c6
    try clear c7
    try clear p2
    obtain ⟨x6_2, x7_2, rfl, rfl, HA, HK2, HO_1, HB⟩ := hrel
    cases gk with
    | zero => exact absurd HA.out (by simp [r03_Name.l0])
    | succ k2 =>
     have H := HA.out
     clear HA
     simp only [r03_Name.l0] at H
     by_cases c10 : x7_2 < (t337.length : Int)
     rotate_left
     ·rw [if_neg c10] at H
      have c10b0 := decide_eq_false c10
      clear c10
      by_cases c32 : (t337.length : Int) > 0
      rotate_left
      ·rw [if_neg c32] at H
       have c32b0 := decide_eq_false c32
       have c32b1 : decide (0 < t337.length) = false := decide_eq_false (by omega)
       clear c32
       simp only [Option.some.injEq, Prod.mk.injEq] at H
       obtain ⟨rfl, rfl⟩ := H
       obtain ⟨Ao35, co35, eo35⟩ := Kd.R_slice HO_1.out
       subst eo35
       go_wp2
       go_ret2
       exact ⟨by rfl, HB.out⟩
      rw [if_pos c32] at H
      have c32b0 := decide_eq_true c32
      have c32b1 : decide (0 < t337.length) = true := decide_eq_true (by omega)
      clear c32
      by_cases c33 : x6_2.size + 1 ≤ 9223372036854775807
      rotate_left
      ·rw [if_neg c33] at H
       exact absurd H (by simp)
      rw [if_pos c33] at H
      have c33b0 := eq_true c33
      have c33b1 := decide_eq_true c33
      try have c33b2 : (9223372036854775807 < x6_2.size + 1) = False := eq_false (Nat.not_lt.2 c33)
      simp only [Option.some.injEq, Prod.mk.injEq] at H
      obtain ⟨rfl, rfl⟩ := H
      obtain ⟨Ao34, co34, eo34⟩ := Kd.R_slice HO_1.out
      subst eo34
      go_wp2
      go_ret2
      exact ⟨by rfl, HB.out⟩
     rw [if_pos c10] at H
     have c10b0 := decide_eq_true c10
     clear c10
     by_cases c11 : x7_2 = 0
     rotate_left
     ·rw [if_neg c11] at H
      have c11b0 : (x7_2 == 0) = false := beq_eq_false_iff_ne.mpr c11
      have c11b1 : (x7_2 != 0) = true := bne_iff_ne.mpr c11
      by_cases c22 : x6_2.size + 1 ≤ 9223372036854775807
      rotate_left
      ·rw [if_neg c22] at H
       exact absurd H (by simp)
      rw [if_pos c22] at H
      have c22b0 := eq_true c22
      have c22b1 := decide_eq_true c22
      try have c22b2 : (9223372036854775807 < x6_2.size + 1) = False := eq_false (Nat.not_lt.2 c22)
      by_cases c23 : 0 ≤ x7_2
      rotate_left
      ·rw [if_neg c23] at H
       exact absurd H (by simp)
      rw [if_pos c23] at H
      have c23b0 := decide_eq_true c23
      clear c23
      by_cases c24 : (x6_2 ++ (⟨#[44]⟩ : ByteArray)).size + ((rd_T96 t337 x7_2).f0).size ≤ 9223372036854775807
      rotate_left
      ·rw [if_neg c24] at H
       exact absurd H (by simp)
      rw [if_pos c24] at H
      have c24b0 := eq_true c24
      have c24b1 := decide_eq_true c24
      try have c24b2 : (9223372036854775807 < (x6_2 ++ (⟨#[44]⟩ : ByteArray)).size + ((rd_T96 t337 x7_2).f0).size) = False := eq_false (Nat.not_lt.2 c24)
      try have c24b3 : (9223372036854775807 < x6_2.size + 1 + ((rd_T96 t337 x7_2).f0).size) = False := eq_false (by have h_ := c24; simp only [ByteArray.size_append] at h_; have z0_ : (⟨#[44]⟩ : ByteArray).size = 1 := rfl; omega)
      try have c24b4 : (9223372036854775807 < (x6_2.size + 1) + ((rd_T96 t337 x7_2).f0).size) = False := eq_false (by have h_ := c24; simp only [ByteArray.size_append] at h_; have z0_ : (⟨#[44]⟩ : ByteArray).size = 1 := rfl; omega)
      by_cases c25 : ((x6_2 ++ (⟨#[44]⟩ : ByteArray)) ++ ((rd_T96 t337 x7_2).f0)).size + 2 ≤ 9223372036854775807
      rotate_left
      ·rw [if_neg c25] at H
       exact absurd H (by simp)
      rw [if_pos c25] at H
      have c25b0 := eq_true c25
      have c25b1 := decide_eq_true c25
      try have c25b2 : (9223372036854775807 < ((x6_2 ++ (⟨#[44]⟩ : ByteArray)) ++ ((rd_T96 t337 x7_2).f0)).size + 2) = False := eq_false (Nat.not_lt.2 c25)
      try have c25b3 : (9223372036854775807 < x6_2.size + 1 + ((rd_T96 t337 x7_2).f0).size + 2) = False := eq_false (by have h_ := c25; simp only [ByteArray.size_append] at h_; have z0_ : (⟨#[44]⟩ : ByteArray).size = 1 := rfl; omega)
      try have c25b4 : (9223372036854775807 < ((x6_2.size + 1) + ((rd_T96 t337 x7_2).f0).size) + 2) = False := eq_false (by have h_ := c25; simp only [ByteArray.size_append] at h_; have z0_ : (⟨#[44]⟩ : ByteArray).size = 1 := rfl; omega)
      replace H := Option.bind_eq_some_iff.mp H
      obtain ⟨t345, A260, H⟩ := H
      replace H : (if (((x6_2 ++ (⟨#[44]⟩ : ByteArray)) ++ ((rd_T96 t337 x7_2).f0)) ++ (⟨#[61, 34]⟩ : ByteArray)).size + t345.size ≤ 9223372036854775807 then (if ((((x6_2 ++ (⟨#[44]⟩ : ByteArray)) ++ ((rd_T96 t337 x7_2).f0)) ++ (⟨#[61, 34]⟩ : ByteArray)) ++ t345).size + 1 ≤ 9223372036854775807 then (r03_Name.l0 k2 t337 (((((x6_2 ++ (⟨#[44]⟩ : ByteArray)) ++ ((rd_T96 t337 x7_2).f0)) ++ (⟨#[61, 34]⟩ : ByteArray)) ++ t345) ++ (⟨#[34]⟩ : ByteArray)) (wrap64 (x7_2 + 1))) else (none)) else (none)) = some (r1, r2) := H
      have A26 := A_ A260
      clear A260
      by_cases c27 : (((x6_2 ++ (⟨#[44]⟩ : ByteArray)) ++ ((rd_T96 t337 x7_2).f0)) ++ (⟨#[61, 34]⟩ : ByteArray)).size + t345.size ≤ 9223372036854775807
      rotate_left
      ·rw [if_neg c27] at H
       exact absurd H (by simp)
      rw [if_pos c27] at H
      have c27b0 := eq_true c27
      have c27b1 := decide_eq_true c27
      try have c27b2 : (9223372036854775807 < (((x6_2 ++ (⟨#[44]⟩ : ByteArray)) ++ ((rd_T96 t337 x7_2).f0)) ++ (⟨#[61, 34]⟩ : ByteArray)).size + t345.size) = False := eq_false (Nat.not_lt.2 c27)
      try have c27b3 : (9223372036854775807 < x6_2.size + 1 + ((rd_T96 t337 x7_2).f0).size + 2 + t345.size) = False := eq_false (by have h_ := c27; simp only [ByteArray.size_append] at h_; have z0_ : (⟨#[44]⟩ : ByteArray).size = 1 := rfl; have z1_ : (⟨#[61, 34]⟩ : ByteArray).size = 2 := rfl; omega)
      try have c27b4 : (9223372036854775807 < (((x6_2.size + 1) + ((rd_T96 t337 x7_2).f0).size) + 2) + t345.size) = False := eq_false (by have h_ := c27; simp only [ByteArray.size_append] at h_; have z0_ : (⟨#[44]⟩ : ByteArray).size = 1 := rfl; have z1_ : (⟨#[61, 34]⟩ : ByteArray).size = 2 := rfl; omega)
      by_cases c28 : ((((x6_2 ++ (⟨#[44]⟩ : ByteArray)) ++ ((rd_T96 t337 x7_2).f0)) ++ (⟨#[61, 34]⟩ : ByteArray)) ++ t345).size + 1 ≤ 9223372036854775807
      rotate_left
      ·rw [if_neg c28] at H
       exact absurd H (by simp)
      rw [if_pos c28] at H
      have c28b0 := eq_true c28
      have c28b1 := decide_eq_true c28
      try have c28b2 : (9223372036854775807 < ((((x6_2 ++ (⟨#[44]⟩ : ByteArray)) ++ ((rd_T96 t337 x7_2).f0)) ++ (⟨#[61, 34]⟩ : ByteArray)) ++ t345).size + 1) = False := eq_false (Nat.not_lt.2 c28)
      try have c28b3 : (9223372036854775807 < x6_2.size + 1 + ((rd_T96 t337 x7_2).f0).size + 2 + t345.size + 1) = False := eq_false (by have h_ := c28; simp only [ByteArray.size_append] at h_; have z0_ : (⟨#[44]⟩ : ByteArray).size = 1 := rfl; have z1_ : (⟨#[61, 34]⟩ : ByteArray).size = 2 := rfl; omega)
      try have c28b4 : (9223372036854775807 < ((((x6_2.size + 1) + ((rd_T96 t337 x7_2).f0).size) + 2) + t345.size) + 1) = False := eq_false (by have h_ := c28; simp only [ByteArray.size_append] at h_; have z0_ : (⟨#[44]⟩ : ByteArray).size = 1 := rfl; have z1_ : (⟨#[61, 34]⟩ : ByteArray).size = 2 := rfl; omega)
      have H' := A_ H
      clear H
      obtain ⟨Ao29, co29, eo29⟩ := Kd.R_slice HO_1.out
      subst eo29
      try go_wp2
      have n0_ := A_ (Kd.R_drew HO_1.out)
      have n1_ := A_ (below_drew1 HB.out)
      clear HO_1
      clear HB
      have HO_1 := n0_
      have HB := n1_
      clear n0_ n1_
      have p343 : 0 ≤ (x7_2 : Int) := od_
      have q343 : x7_2 < (t337.length : Int) := od_
      (try (obtain ⟨Ax343_, cx343_, ex343_⟩ := Kd.R_slice HO_1.out; subst ex343_))
      obtain ⟨ad343, e343, hx343_0, hx343_1⟩ := at_T96 (Kd.R_reads' HO_1.out).2.2 x7_2 p343 q343
      cases e343
      replace p343 := eq_true p343
      replace q343 := eq_true q343
      have p344 : 0 ≤ (x7_2 : Int) := od_
      have q344 : x7_2 < (t337.length : Int) := od_
      (try (obtain ⟨Ax344_, cx344_, ex344_⟩ := Kd.R_slice HO_1.out; subst ex344_))
      obtain ⟨ad344, e344, hx344_0, hx344_1⟩ := at_T96 (Kd.R_reads' HO_1.out).2.2 x7_2 p344 q344
      obtain rfl : ad343 = ad344 := (by injection e344)
      replace p344 := eq_true p344
      replace q344 := eq_true q344
      refine start_ (n := 19) (S := fun w' => w'.cell? (ad343.add ((x7_2).toNat * 2)) = some (.string ((rd_T96 t337 x7_2).f0)) ∧ w'.cell? ⟨(ad343.add ((x7_2).toNat * 2)).block, (ad343.add ((x7_2).toNat * 2)).off + 1, none⟩ = some (.string ((rd_T96 t337 x7_2).f1)) ∧ w'.cell? (ad343.add ((x7_2).toNat * 2)) = some (.string ((rd_T96 t337 x7_2).f0)) ∧ w'.cell? ⟨(ad343.add ((x7_2).toNat * 2)).block, (ad343.add ((x7_2).toNat * 2)).off + 1, none⟩ = some (.string ((rd_T96 t337 x7_2).f1))) (ds := []) #[F_,F_,F_,F_,F_,F_,F_,F_,F_,F_,F_,F_,F_,F_,F_,F_,F_,F_,F_] (by kernel_rfl) rfl rfl ⟨hx343_0, hx343_1, hx344_0, hx344_1⟩ (fun hHeld => ?_); refine with_tabW r03_Name.tab11 r03_Name.bits11 (fun HT_ HW_ => ?_)
      generalize wr.drew = w30 at HO_1 HB hx343_0 hx343_1 hx344_0 hx344_1 hHeld ⊢
      refine pu_ 0 (some 28) #[T_,F_,F_,F_,F_,F_,F_,F_,F_,F_,F_,F_,F_,F_,F_,F_,F_,F_,F_] HT_.out rfl rfl ?_
      refine pu_ 1 (some 29) #[T_,T_,F_,F_,F_,F_,F_,F_,F_,F_,F_,F_,F_,F_,F_,F_,F_,F_,F_] HT_.out rfl rfl ?_
      refine pu_ 2 (some 30) #[T_,T_,T_,F_,F_,F_,F_,F_,F_,F_,F_,F_,F_,F_,F_,F_,F_,F_,F_] HT_.out rfl rfl ?_
      refine pu_ 3 (some 31) #[T_,T_,T_,T_,F_,F_,F_,F_,F_,F_,F_,F_,F_,F_,F_,F_,F_,F_,F_] HT_.out rfl rfl ?_
      refine pu_ 4 (some 32) #[T_,T_,T_,T_,T_,F_,F_,F_,F_,F_,F_,F_,F_,F_,F_,F_,F_,F_,F_] HT_.out rfl rfl ?_
      refine pu_ 5 (some 33) #[T_,T_,T_,T_,T_,T_,F_,F_,F_,F_,F_,F_,F_,F_,F_,F_,F_,F_,F_] HT_.out rfl rfl ?_
      refine pu_ 6 (some 34) #[T_,T_,T_,T_,T_,T_,T_,F_,F_,F_,F_,F_,F_,F_,F_,F_,F_,F_,F_] HT_.out rfl rfl ?_
      refine pu_ 10 (some 38) #[T_,T_,T_,T_,T_,T_,T_,F_,F_,F_,T_,F_,F_,F_,F_,F_,F_,F_,F_] HT_.out rfl rfl ?_
      refine pu_ 11 (some 39) #[T_,T_,T_,T_,T_,T_,T_,F_,F_,F_,T_,T_,F_,F_,F_,F_,F_,F_,F_] HT_.out rfl rfl ?_
      refine pu_ 12 (some 40) #[T_,T_,T_,T_,T_,T_,T_,F_,F_,F_,T_,T_,T_,F_,F_,F_,F_,F_,F_] HT_.out rfl rfl ?_
      refine pu_ 13 (some 41) #[T_,T_,T_,T_,T_,T_,T_,F_,F_,F_,T_,T_,T_,T_,F_,F_,F_,F_,F_] HT_.out rfl rfl ?_
      refine take_ (i := 7) (N := some 35) (v := ?_) (a' := ?_) #[T_,T_,T_,T_,T_,T_,T_,T_,F_,F_,T_,T_,T_,T_,F_,F_,F_,F_,F_] rfl rfl (take_ofW HT_.out HW_.out (by kernel_rfl)) (fun _ _ _ h => h) (Or.inl ⟨by rfl, ?_⟩) hHeld ?_ ?_
      rotate_left
      ·rintro w' ⟨s0, s1, s2, s3⟩
       go_simp
       with_reducible rfl
      rotate_left
      ·simp only [Act.put,s1_,s2_,s3_, i64_w, i32_w]
       rfl
      refine pu_ 8 (some 36) #[T_,T_,T_,T_,T_,T_,T_,T_,T_,F_,T_,T_,T_,T_,F_,F_,F_,F_,F_] HT_.out rfl rfl ?_
      refine pu_ 9 (some 37) #[T_,T_,T_,T_,T_,T_,T_,T_,T_,T_,T_,T_,T_,T_,F_,F_,F_,F_,F_] HT_.out rfl rfl ?_
      refine take_ (i := 14) (N := some 42) (v := ?_) (a' := ?_) #[T_,T_,T_,T_,T_,T_,T_,T_,T_,T_,T_,T_,T_,T_,T_,F_,F_,F_,F_] rfl rfl (take_ofW HT_.out HW_.out (by kernel_rfl)) (fun _ _ _ h => h) (Or.inl ⟨by rfl, ?_⟩) hHeld ?_ ?_
      rotate_left
      ·rintro w' ⟨s0, s1, s2, s3⟩
       go_simp
       with_reducible rfl
      rotate_left
      ·simp only [Act.put,s1_,s2_,s3_, i64_w, i32_w]
       rfl
      refine one_ (i := 15) (N := some 43) #[T_,T_,T_,T_,T_,T_,T_,T_,T_,T_,T_,T_,T_,T_,T_,T_,F_,F_,F_] rfl rfl (one_of HT_.out (by kernel_rfl)) (by decide) (fun K hK => ?_)
      refine goes_ Tryz.func72 (by kernel_rfl) rfl #[.string ((rd_T96 t337 x7_2).f1)] (by rfl) rfl rfl mp_ ?_
      with_reducible refine (r03_Escape.calls k2 ((rd_T96 t337 x7_2).f1) t345 _ A26.out).mono ?_
      rintro e w31 ⟨rfl, hb⟩
      have HS0_ := (hb.cell (World.block_lt_of_cell? _ _ (hHeld.1))).trans (hHeld.1)
      have HS1_ := (hb.cell (World.block_lt_of_cell? _ _ (hHeld.2.1))).trans (hHeld.2.1)
      have HS2_ := (hb.cell (World.block_lt_of_cell? _ _ (hHeld.2.2.1))).trans (hHeld.2.2.1)
      have HS3_ := (hb.cell (World.block_lt_of_cell? _ _ (hHeld.2.2.2))).trans (hHeld.2.2.2)
      refine ⟨_, rfl, ?_⟩
      have n0_ := A_ (Kd.R_below (rr_ HO_1.out) hb)
      have n1_ := A_ (below_step HB.out hb)
      clear HO_1
      clear HB
      have HO_1 := n0_
      have HB := n1_
      clear n0_ n1_
      (try clear hb)
      (try clear hb2)
      (try clear hk)
      (try clear hi)
      refine hK.out _ _ ⟨HS0_, HS1_, HS2_, HS3_⟩ (fun hHeld => ?_)
      clear hK K
      refine norm_ (a' := ?_) ?_ ?_
      rotate_left
      ·show Act.put _ (some 43) _ = _
       simp only [Act.put,s1_,s2_,s3_, i64_w, i32_w]
       rfl
      refine pu_ 16 (some 44) #[T_,T_,T_,T_,T_,T_,T_,T_,T_,T_,T_,T_,T_,T_,T_,T_,T_,F_,F_] HT_.out rfl rfl ?_
      refine pu_ 17 (some 45) #[T_,T_,T_,T_,T_,T_,T_,T_,T_,T_,T_,T_,T_,T_,T_,T_,T_,T_,F_] HT_.out rfl rfl ?_
      refine pu_ 18 (some 6) #[T_,T_,T_,T_,T_,T_,T_,T_,T_,T_,T_,T_,T_,T_,T_,T_,T_,T_,T_] HT_.out rfl rfl ?_
      refine done_ (done_of HT_.out (by kernel_rfl)) ?_
      try go_wp2
      go_roundg k2
      case measure => have := HJ2.out; have := HK2.out; omega
      case rel => exact ⟨(((((x6_2 ++ (⟨#[44]⟩ : ByteArray)) ++ ((rd_T96 t337 x7_2).f0)) ++ (⟨#[61, 34]⟩ : ByteArray)) ++ t345) ++ (⟨#[34]⟩ : ByteArray)), (wrap64 (x7_2 + 1)), (by rfl), (by rfl), H', ⟨by have := HJ2.out; have := HK2.out; omega⟩, ⟨rr_ HO_1.out⟩, ⟨HB.out⟩⟩
     rw [if_pos c11] at H
     have c11b0 : (x7_2 == 0) = true := beq_iff_eq.mpr c11
     have c11b1 : (x7_2 != 0) = false := bne_eq_false_iff_eq.mpr c11
     clear c11
     by_cases c12 : x6_2.size + 1 ≤ 9223372036854775807
     rotate_left
     ·rw [if_neg c12] at H
      exact absurd H (by simp)
     rw [if_pos c12] at H
     have c12b0 := eq_true c12
     have c12b1 := decide_eq_true c12
     try have c12b2 : (9223372036854775807 < x6_2.size + 1) = False := eq_false (Nat.not_lt.2 c12)
     by_cases c13 : 0 ≤ x7_2
     rotate_left
     ·rw [if_neg c13] at H
      exact absurd H (by simp)
     rw [if_pos c13] at H
     have c13b0 := decide_eq_true c13
     clear c13
     by_cases c14 : (x6_2 ++ (⟨#[123]⟩ : ByteArray)).size + ((rd_T96 t337 x7_2).f0).size ≤ 9223372036854775807
     rotate_left
     ·rw [if_neg c14] at H
      exact absurd H (by simp)
     rw [if_pos c14] at H
     have c14b0 := eq_true c14
     have c14b1 := decide_eq_true c14
     try have c14b2 : (9223372036854775807 < (x6_2 ++ (⟨#[123]⟩ : ByteArray)).size + ((rd_T96 t337 x7_2).f0).size) = False := eq_false (Nat.not_lt.2 c14)
     try have c14b3 : (9223372036854775807 < x6_2.size + 1 + ((rd_T96 t337 x7_2).f0).size) = False := eq_false (by have h_ := c14; simp only [ByteArray.size_append] at h_; have z0_ : (⟨#[123]⟩ : ByteArray).size = 1 := rfl; omega)
     try have c14b4 : (9223372036854775807 < (x6_2.size + 1) + ((rd_T96 t337 x7_2).f0).size) = False := eq_false (by have h_ := c14; simp only [ByteArray.size_append] at h_; have z0_ : (⟨#[123]⟩ : ByteArray).size = 1 := rfl; omega)
     by_cases c15 : ((x6_2 ++ (⟨#[123]⟩ : ByteArray)) ++ ((rd_T96 t337 x7_2).f0)).size + 2 ≤ 9223372036854775807
     rotate_left
     ·rw [if_neg c15] at H
      exact absurd H (by simp)
     rw [if_pos c15] at H
     have c15b0 := eq_true c15
     have c15b1 := decide_eq_true c15
     try have c15b2 : (9223372036854775807 < ((x6_2 ++ (⟨#[123]⟩ : ByteArray)) ++ ((rd_T96 t337 x7_2).f0)).size + 2) = False := eq_false (Nat.not_lt.2 c15)
     try have c15b3 : (9223372036854775807 < x6_2.size + 1 + ((rd_T96 t337 x7_2).f0).size + 2) = False := eq_false (by have h_ := c15; simp only [ByteArray.size_append] at h_; have z0_ : (⟨#[123]⟩ : ByteArray).size = 1 := rfl; omega)
     try have c15b4 : (9223372036854775807 < ((x6_2.size + 1) + ((rd_T96 t337 x7_2).f0).size) + 2) = False := eq_false (by have h_ := c15; simp only [ByteArray.size_append] at h_; have z0_ : (⟨#[123]⟩ : ByteArray).size = 1 := rfl; omega)
     replace H := Option.bind_eq_some_iff.mp H
     obtain ⟨t342, A160, H⟩ := H
     replace H : (if (((x6_2 ++ (⟨#[123]⟩ : ByteArray)) ++ ((rd_T96 t337 x7_2).f0)) ++ (⟨#[61, 34]⟩ : ByteArray)).size + t342.size ≤ 9223372036854775807 then (if ((((x6_2 ++ (⟨#[123]⟩ : ByteArray)) ++ ((rd_T96 t337 x7_2).f0)) ++ (⟨#[61, 34]⟩ : ByteArray)) ++ t342).size + 1 ≤ 9223372036854775807 then (r03_Name.l0 k2 t337 (((((x6_2 ++ (⟨#[123]⟩ : ByteArray)) ++ ((rd_T96 t337 x7_2).f0)) ++ (⟨#[61, 34]⟩ : ByteArray)) ++ t342) ++ (⟨#[34]⟩ : ByteArray)) (wrap64 (x7_2 + 1))) else (none)) else (none)) = some (r1, r2) := H
     have A16 := A_ A160
     clear A160
     by_cases c17 : (((x6_2 ++ (⟨#[123]⟩ : ByteArray)) ++ ((rd_T96 t337 x7_2).f0)) ++ (⟨#[61, 34]⟩ : ByteArray)).size + t342.size ≤ 9223372036854775807
     rotate_left
     ·rw [if_neg c17] at H
      exact absurd H (by simp)
     rw [if_pos c17] at H
     have c17b0 := eq_true c17
     have c17b1 := decide_eq_true c17
     try have c17b2 : (9223372036854775807 < (((x6_2 ++ (⟨#[123]⟩ : ByteArray)) ++ ((rd_T96 t337 x7_2).f0)) ++ (⟨#[61, 34]⟩ : ByteArray)).size + t342.size) = False := eq_false (Nat.not_lt.2 c17)
     try have c17b3 : (9223372036854775807 < x6_2.size + 1 + ((rd_T96 t337 x7_2).f0).size + 2 + t342.size) = False := eq_false (by have h_ := c17; simp only [ByteArray.size_append] at h_; have z0_ : (⟨#[123]⟩ : ByteArray).size = 1 := rfl; have z1_ : (⟨#[61, 34]⟩ : ByteArray).size = 2 := rfl; omega)
     try have c17b4 : (9223372036854775807 < (((x6_2.size + 1) + ((rd_T96 t337 x7_2).f0).size) + 2) + t342.size) = False := eq_false (by have h_ := c17; simp only [ByteArray.size_append] at h_; have z0_ : (⟨#[123]⟩ : ByteArray).size = 1 := rfl; have z1_ : (⟨#[61, 34]⟩ : ByteArray).size = 2 := rfl; omega)
     by_cases c18 : ((((x6_2 ++ (⟨#[123]⟩ : ByteArray)) ++ ((rd_T96 t337 x7_2).f0)) ++ (⟨#[61, 34]⟩ : ByteArray)) ++ t342).size + 1 ≤ 9223372036854775807
     rotate_left
     ·rw [if_neg c18] at H
      exact absurd H (by simp)
     rw [if_pos c18] at H
     have c18b0 := eq_true c18
     have c18b1 := decide_eq_true c18
     try have c18b2 : (9223372036854775807 < ((((x6_2 ++ (⟨#[123]⟩ : ByteArray)) ++ ((rd_T96 t337 x7_2).f0)) ++ (⟨#[61, 34]⟩ : ByteArray)) ++ t342).size + 1) = False := eq_false (Nat.not_lt.2 c18)
     try have c18b3 : (9223372036854775807 < x6_2.size + 1 + ((rd_T96 t337 x7_2).f0).size + 2 + t342.size + 1) = False := eq_false (by have h_ := c18; simp only [ByteArray.size_append] at h_; have z0_ : (⟨#[123]⟩ : ByteArray).size = 1 := rfl; have z1_ : (⟨#[61, 34]⟩ : ByteArray).size = 2 := rfl; omega)
     try have c18b4 : (9223372036854775807 < ((((x6_2.size + 1) + ((rd_T96 t337 x7_2).f0).size) + 2) + t342.size) + 1) = False := eq_false (by have h_ := c18; simp only [ByteArray.size_append] at h_; have z0_ : (⟨#[123]⟩ : ByteArray).size = 1 := rfl; have z1_ : (⟨#[61, 34]⟩ : ByteArray).size = 2 := rfl; omega)
     have H' := A_ H
     clear H
     obtain ⟨Ao19, co19, eo19⟩ := Kd.R_slice HO_1.out
     subst eo19
     try go_wp2
     have n0_ := A_ (Kd.R_drew HO_1.out)
     have n1_ := A_ (below_drew1 HB.out)
     clear HO_1
     clear HB
     have HO_1 := n0_
     have HB := n1_
     clear n0_ n1_
     have p340 : 0 ≤ (x7_2 : Int) := od_
     have q340 : x7_2 < (t337.length : Int) := od_
     (try (obtain ⟨Ax340_, cx340_, ex340_⟩ := Kd.R_slice HO_1.out; subst ex340_))
     obtain ⟨ad340, e340, hx340_0, hx340_1⟩ := at_T96 (Kd.R_reads' HO_1.out).2.2 x7_2 p340 q340
     cases e340
     replace p340 := eq_true p340
     replace q340 := eq_true q340
     have p341 : 0 ≤ (x7_2 : Int) := od_
     have q341 : x7_2 < (t337.length : Int) := od_
     (try (obtain ⟨Ax341_, cx341_, ex341_⟩ := Kd.R_slice HO_1.out; subst ex341_))
     obtain ⟨ad341, e341, hx341_0, hx341_1⟩ := at_T96 (Kd.R_reads' HO_1.out).2.2 x7_2 p341 q341
     obtain rfl : ad340 = ad341 := (by injection e341)
     replace p341 := eq_true p341
     replace q341 := eq_true q341
     refine start_ (n := 19) (S := fun w' => w'.cell? (ad340.add ((x7_2).toNat * 2)) = some (.string ((rd_T96 t337 x7_2).f0)) ∧ w'.cell? ⟨(ad340.add ((x7_2).toNat * 2)).block, (ad340.add ((x7_2).toNat * 2)).off + 1, none⟩ = some (.string ((rd_T96 t337 x7_2).f1)) ∧ w'.cell? (ad340.add ((x7_2).toNat * 2)) = some (.string ((rd_T96 t337 x7_2).f0)) ∧ w'.cell? ⟨(ad340.add ((x7_2).toNat * 2)).block, (ad340.add ((x7_2).toNat * 2)).off + 1, none⟩ = some (.string ((rd_T96 t337 x7_2).f1))) (ds := []) #[F_,F_,F_,F_,F_,F_,F_,F_,F_,F_,F_,F_,F_,F_,F_,F_,F_,F_,F_] (by kernel_rfl) rfl rfl ⟨hx340_0, hx340_1, hx341_0, hx341_1⟩ (fun hHeld => ?_); refine with_tabW r03_Name.tab11 r03_Name.bits11 (fun HT_ HW_ => ?_)
     generalize wr.drew = w20 at HO_1 HB hx340_0 hx340_1 hx341_0 hx341_1 hHeld ⊢
     refine pu_ 0 (some 28) #[T_,F_,F_,F_,F_,F_,F_,F_,F_,F_,F_,F_,F_,F_,F_,F_,F_,F_,F_] HT_.out rfl rfl ?_
     refine pu_ 1 (some 29) #[T_,T_,F_,F_,F_,F_,F_,F_,F_,F_,F_,F_,F_,F_,F_,F_,F_,F_,F_] HT_.out rfl rfl ?_
     refine pu_ 2 (some 30) #[T_,T_,T_,F_,F_,F_,F_,F_,F_,F_,F_,F_,F_,F_,F_,F_,F_,F_,F_] HT_.out rfl rfl ?_
     refine pu_ 3 (some 31) #[T_,T_,T_,T_,F_,F_,F_,F_,F_,F_,F_,F_,F_,F_,F_,F_,F_,F_,F_] HT_.out rfl rfl ?_
     refine pu_ 4 (some 32) #[T_,T_,T_,T_,T_,F_,F_,F_,F_,F_,F_,F_,F_,F_,F_,F_,F_,F_,F_] HT_.out rfl rfl ?_
     refine pu_ 5 (some 33) #[T_,T_,T_,T_,T_,T_,F_,F_,F_,F_,F_,F_,F_,F_,F_,F_,F_,F_,F_] HT_.out rfl rfl ?_
     refine pu_ 6 (some 34) #[T_,T_,T_,T_,T_,T_,T_,F_,F_,F_,F_,F_,F_,F_,F_,F_,F_,F_,F_] HT_.out rfl rfl ?_
     refine pu_ 10 (some 38) #[T_,T_,T_,T_,T_,T_,T_,F_,F_,F_,T_,F_,F_,F_,F_,F_,F_,F_,F_] HT_.out rfl rfl ?_
     refine pu_ 11 (some 39) #[T_,T_,T_,T_,T_,T_,T_,F_,F_,F_,T_,T_,F_,F_,F_,F_,F_,F_,F_] HT_.out rfl rfl ?_
     refine pu_ 12 (some 40) #[T_,T_,T_,T_,T_,T_,T_,F_,F_,F_,T_,T_,T_,F_,F_,F_,F_,F_,F_] HT_.out rfl rfl ?_
     refine pu_ 13 (some 41) #[T_,T_,T_,T_,T_,T_,T_,F_,F_,F_,T_,T_,T_,T_,F_,F_,F_,F_,F_] HT_.out rfl rfl ?_
     refine take_ (i := 7) (N := some 35) (v := ?_) (a' := ?_) #[T_,T_,T_,T_,T_,T_,T_,T_,F_,F_,T_,T_,T_,T_,F_,F_,F_,F_,F_] rfl rfl (take_ofW HT_.out HW_.out (by kernel_rfl)) (fun _ _ _ h => h) (Or.inl ⟨by rfl, ?_⟩) hHeld ?_ ?_
     rotate_left
     ·rintro w' ⟨s0, s1, s2, s3⟩
      go_simp
      with_reducible rfl
     rotate_left
     ·simp only [Act.put,s1_,s2_,s3_, i64_w, i32_w]
      rfl
     refine pu_ 8 (some 36) #[T_,T_,T_,T_,T_,T_,T_,T_,T_,F_,T_,T_,T_,T_,F_,F_,F_,F_,F_] HT_.out rfl rfl ?_
     refine pu_ 9 (some 37) #[T_,T_,T_,T_,T_,T_,T_,T_,T_,T_,T_,T_,T_,T_,F_,F_,F_,F_,F_] HT_.out rfl rfl ?_
     refine take_ (i := 14) (N := some 42) (v := ?_) (a' := ?_) #[T_,T_,T_,T_,T_,T_,T_,T_,T_,T_,T_,T_,T_,T_,T_,F_,F_,F_,F_] rfl rfl (take_ofW HT_.out HW_.out (by kernel_rfl)) (fun _ _ _ h => h) (Or.inl ⟨by rfl, ?_⟩) hHeld ?_ ?_
     rotate_left
     ·rintro w' ⟨s0, s1, s2, s3⟩
      go_simp
      with_reducible rfl
     rotate_left
     ·simp only [Act.put,s1_,s2_,s3_, i64_w, i32_w]
      rfl
     refine one_ (i := 15) (N := some 43) #[T_,T_,T_,T_,T_,T_,T_,T_,T_,T_,T_,T_,T_,T_,T_,T_,F_,F_,F_] rfl rfl (one_of HT_.out (by kernel_rfl)) (by decide) (fun K hK => ?_)
     refine goes_ Tryz.func72 (by kernel_rfl) rfl #[.string ((rd_T96 t337 x7_2).f1)] (by rfl) rfl rfl mp_ ?_
     with_reducible refine (r03_Escape.calls k2 ((rd_T96 t337 x7_2).f1) t342 _ A16.out).mono ?_
     rintro e w21 ⟨rfl, hb⟩
     have HS0_ := (hb.cell (World.block_lt_of_cell? _ _ (hHeld.1))).trans (hHeld.1)
     have HS1_ := (hb.cell (World.block_lt_of_cell? _ _ (hHeld.2.1))).trans (hHeld.2.1)
     have HS2_ := (hb.cell (World.block_lt_of_cell? _ _ (hHeld.2.2.1))).trans (hHeld.2.2.1)
     have HS3_ := (hb.cell (World.block_lt_of_cell? _ _ (hHeld.2.2.2))).trans (hHeld.2.2.2)
     refine ⟨_, rfl, ?_⟩
     have n0_ := A_ (Kd.R_below (rr_ HO_1.out) hb)
     have n1_ := A_ (below_step HB.out hb)
     clear HO_1
     clear HB
     have HO_1 := n0_
     have HB := n1_
     clear n0_ n1_
     (try clear hb)
     (try clear hb2)
     (try clear hk)
     (try clear hi)
     refine hK.out _ _ ⟨HS0_, HS1_, HS2_, HS3_⟩ (fun hHeld => ?_)
     clear hK K
     refine norm_ (a' := ?_) ?_ ?_
     rotate_left
     ·show Act.put _ (some 43) _ = _
      simp only [Act.put,s1_,s2_,s3_, i64_w, i32_w]
      rfl
     refine pu_ 16 (some 44) #[T_,T_,T_,T_,T_,T_,T_,T_,T_,T_,T_,T_,T_,T_,T_,T_,T_,F_,F_] HT_.out rfl rfl ?_
     refine pu_ 17 (some 45) #[T_,T_,T_,T_,T_,T_,T_,T_,T_,T_,T_,T_,T_,T_,T_,T_,T_,T_,F_] HT_.out rfl rfl ?_
     refine pu_ 18 (some 6) #[T_,T_,T_,T_,T_,T_,T_,T_,T_,T_,T_,T_,T_,T_,T_,T_,T_,T_,T_] HT_.out rfl rfl ?_
     refine done_ (done_of HT_.out (by kernel_rfl)) ?_
     try go_wp2
     go_roundg k2
     case measure => have := HJ2.out; have := HK2.out; omega
     case rel => exact ⟨(((((x6_2 ++ (⟨#[123]⟩ : ByteArray)) ++ ((rd_T96 t337 x7_2).f0)) ++ (⟨#[61, 34]⟩ : ByteArray)) ++ t342) ++ (⟨#[34]⟩ : ByteArray)), (wrap64 (x7_2 + 1)), (by rfl), (by rfl), H', ⟨by have := HJ2.out; have := HK2.out; omega⟩, ⟨rr_ HO_1.out⟩, ⟨HB.out⟩⟩
end Go.Proofs.YtcikjeiebpmmcaaGreat.PMch
