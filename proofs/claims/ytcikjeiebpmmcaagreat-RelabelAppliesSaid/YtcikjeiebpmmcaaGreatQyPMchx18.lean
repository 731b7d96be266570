/- Pruned. -/
import Derived.Test.YtcikjeiebpmmcaaGreatQyPMchx0
import Derived.Test.YtcikjeiebpmmcaaGreatQyPMchx13
import Derived.Test.YtcikjeiebpmmcaaGreatQyPMchx17
namespace Go.Proofs.YtcikjeiebpmmcaaGreat.PMch
open Go.RowKit Go.Proofs.YtcikjeiebpmmcaaGreatW.PrintWords Go.Proofs.YtcikjeiebpmmcaaGreatW.PrintLast Go.Proofs.YtcikjeiebpmmcaaGreatW.PrintMore
attribute [local go_sem] max2_int max_two
set_option linter.unusedVariables false
set_option linter.unusedSimpArgs false
mutual
def r03_Parse.j1 : Nat → ByteArray → Int → Option (ByteArray × (List (S96)) × Int)
 | 0, _, _ => none
 | k + 1, x0, x5 => if 0 ≤ x5 then (if x5 ≤ (x0.size : Int) then (r03_Parse.l1 k x0 x5 (x0.extract 0 (x5 : Int).toNat) ([] : List (S96))) else (none)) else (none)
def r03_Parse.l1 : Nat → ByteArray → Int → ByteArray → List (S96) → Option (ByteArray × (List (S96)) × Int)
 | 0, _, _, _, _ => none
 | k + 1, x0, x5, x6, x7 => if x5 < (x0.size : Int) then (r03_Parse.l2 k x0 (wrap64 (x5 + 1)) x6 x7 (wrap64 (x5 + 1))) else ((r03_Name.f k x6 x7).bind fun bt346 => (if bt346.2 = 0 then (if bt346.1.toList = x0.toList then (some (x6, x7, 0)) else (some ((⟨#[]⟩ : ByteArray), ([] : List (S96)), 5))) else (some ((⟨#[]⟩ : ByteArray), ([] : List (S96)), 5))))
def r03_Parse.j4 : Nat → ByteArray → Int → ByteArray → List (S96) → Int → Option (ByteArray × (List (S96)) × Int)
 | 0, _, _, _, _, _ => none
 | k + 1, x0, x5, x6, x7, x8 => if (wrap64 (x5 + 1)) ≥ (x0.size : Int) then (r03_Parse.j5 k x0 x5 x6 x7 x8 true) else (if 0 ≤ (wrap64 (x5 + 1)) then (if (wrap64 (x5 + 1)) < (x0.size : Int) then (if (bt x0 (wrap64 (x5 + 1))) = 34 then (r03_Parse.j5 k x0 x5 x6 x7 x8 (decide ((x7.length : Int) > 16))) else (r03_Parse.j5 k x0 x5 x6 x7 x8 true)) else (none)) else (none))
def r03_Parse.j5 : Nat → ByteArray → Int → ByteArray → List (S96) → Int → Bool → Option (ByteArray × (List (S96)) × Int)
 | 0, _, _, _, _, _, _ => none
 | k + 1, x0, x5, x6, x7, x8, x64 => if x64 = true then (some ((⟨#[]⟩ : ByteArray), ([] : List (S96)), 5)) else (if 0 ≤ (wrap64 (x5 + 1)) then (if (wrap64 (x5 + 1)) ≤ (x0.size : Int) then ((r03_quoted.f k (x0.extract ((wrap64 (x5 + 1)) : Int).toNat x0.size)).bind fun t348 => (if t348 < 0 then (some ((⟨#[]⟩ : ByteArray), ([] : List (S96)), 5)) else (if 0 ≤ (wrap64 (x5 + 2)) then (if (wrap64 (x5 + 2)) ≤ (wrap64 ((wrap64 (x5 + 1)) + t348)) then (if (wrap64 ((wrap64 (x5 + 1)) + t348)) ≤ (x0.size : Int) then ((r03_Unescape.f k (x0.extract ((wrap64 (x5 + 2)) : Int).toNat ((wrap64 ((wrap64 (x5 + 1)) + t348)) : Int).toNat)).bind fun bt349 => (if bt349.2 = true then (if 0 ≤ x8 then (if x8 ≤ x5 then (if x5 ≤ (x0.size : Int) then (if x7.length < 4398046511104 then ((some (x7 ++ [(⟨x0.extract (x8 : Int).toNat (x5 : Int).toNat, bt349.1⟩ : S96)] : List (S96))).bind fun y351 => (if (wrap64 ((wrap64 ((wrap64 (x5 + 1)) + t348)) + 1)) = (wrap64 ((x0.size : Int) - 1)) then (if 0 ≤ (wrap64 ((wrap64 ((wrap64 (x5 + 1)) + t348)) + 1)) then (if (wrap64 ((wrap64 ((wrap64 (x5 + 1)) + t348)) + 1)) < (x0.size : Int) then (r03_Parse.j6 k x0 (wrap64 ((wrap64 ((wrap64 (x5 + 1)) + t348)) + 1)) x6 y351 ((bt x0 (wrap64 ((wrap64 ((wrap64 (x5 + 1)) + t348)) + 1))) == 125)) else (none)) else (none)) else (r03_Parse.j6 k x0 (wrap64 ((wrap64 ((wrap64 (x5 + 1)) + t348)) + 1)) x6 y351 false))) else (none)) else (none)) else (none)) else (none)) else (some ((⟨#[]⟩ : ByteArray), ([] : List (S96)), 5)))) else (none)) else (none)) else (none)))) else (none)) else (none))
def r03_Parse.j6 : Nat → ByteArray → Int → ByteArray → List (S96) → Bool → Option (ByteArray × (List (S96)) × Int)
 | 0, _, _, _, _, _ => none
 | k + 1, x0, x5, x6, x7, x110 => if x110 = true then ((r03_Name.f k x6 x7).bind fun bt354 => (if bt354.2 = 0 then (if bt354.1.toList = x0.toList then (some (x6, x7, 0)) else (some ((⟨#[]⟩ : ByteArray), ([] : List (S96)), 5))) else (some ((⟨#[]⟩ : ByteArray), ([] : List (S96)), 5)))) else (if x5 ≥ (x0.size : Int) then (some ((⟨#[]⟩ : ByteArray), ([] : List (S96)), 5)) else (if 0 ≤ x5 then (if x5 < (x0.size : Int) then (if (bt x0 x5) = 44 then (r03_Parse.l1 k x0 x5 x6 x7) else (some ((⟨#[]⟩ : ByteArray), ([] : List (S96)), 5))) else (none)) else (none)))
def r03_Parse.l2 : Nat → ByteArray → Int → ByteArray → List (S96) → Int → Option (ByteArray × (List (S96)) × Int)
 | 0, _, _, _, _, _ => none
 | k + 1, x0, x5, x6, x7, x8 => if x5 < (x0.size : Int) then (if 0 ≤ x5 then (if (bt x0 x5) = 61 then (r03_Parse.j4 k x0 x5 x6 x7 x8) else (r03_Parse.l2 k x0 (wrap64 (x5 + 1)) x6 x7 x8)) else (none)) else (r03_Parse.j4 k x0 x5 x6 x7 x8)
def r03_Parse.l0 : Nat → ByteArray → Int → Option (ByteArray × (List (S96)) × Int)
 | 0, _, _ => none
 | k + 1, x0, x5 => if x5 < (x0.size : Int) then (if 0 ≤ x5 then (if (bt x0 x5) = 123 then (r03_Parse.j1 k x0 x5) else (r03_Parse.l0 k x0 (wrap64 (x5 + 1)))) else (none)) else (r03_Parse.j1 k x0 x5)
end
def r03_Parse.f (k : Nat) (a0 : ByteArray) : Option (ByteArray × (List (S96)) × Int) := r03_Parse.l0 k a0 0
theorem r03_Parse.mono_l : ∀ k, (∀ y0 y1, LeO (r03_Parse.j1 k y0 y1) (r03_Parse.j1 (k + 1) y0 y1)) ∧ (∀ y0 y1 y2 y3, LeO (r03_Parse.l1 k y0 y1 y2 y3) (r03_Parse.l1 (k + 1) y0 y1 y2 y3)) ∧ (∀ y0 y1 y2 y3 y4, LeO (r03_Parse.j4 k y0 y1 y2 y3 y4) (r03_Parse.j4 (k + 1) y0 y1 y2 y3 y4)) ∧ (∀ y0 y1 y2 y3 y4 y5, LeO (r03_Parse.j5 k y0 y1 y2 y3 y4 y5) (r03_Parse.j5 (k + 1) y0 y1 y2 y3 y4 y5)) ∧ (∀ y0 y1 y2 y3 y4, LeO (r03_Parse.j6 k y0 y1 y2 y3 y4) (r03_Parse.j6 (k + 1) y0 y1 y2 y3 y4)) ∧ (∀ y0 y1 y2 y3 y4, LeO (r03_Parse.l2 k y0 y1 y2 y3 y4) (r03_Parse.l2 (k + 1) y0 y1 y2 y3 y4)) ∧ (∀ y0 y1, LeO (r03_Parse.l0 k y0 y1) (r03_Parse.l0 (k + 1) y0 y1))
 | 0 => ⟨fun _ _ r h => by simp [r03_Parse.j1] at h, fun _ _ _ _ r h => by simp [r03_Parse.l1] at h, fun _ _ _ _ _ r h => by simp [r03_Parse.j4] at h, fun _ _ _ _ _ _ r h => by simp [r03_Parse.j5] at h, fun _ _ _ _ _ r h => by simp [r03_Parse.j6] at h, fun _ _ _ _ _ r h => by simp [r03_Parse.l2] at h, fun _ _ r h => by simp [r03_Parse.l0] at h⟩
 | k + 1 => by
  obtain ⟨ih0, ih1, ih2, ih3, ih4, ih5, ih6⟩ := r03_Parse.mono_l k
  refine ⟨?_, ?_, ?_, ?_, ?_, ?_, ?_⟩
  rotate_left
  ·intro y0 y1 y2 y3
   unfold r03_Parse.l1
   repeat' first
   | (with_reducible first | exact ih0 _ _ | exact ih1 _ _ _ _ | exact ih2 _ _ _ _ _ | exact ih3 _ _ _ _ _ _ | exact ih4 _ _ _ _ _ | exact ih5 _ _ _ _ _ | exact ih6 _ _ | exact r03_Name.mono _ _ _ | exact r03_Unescape.mono _ _ | exact r03_quoted.mono _ _ | exact LeO.refl _ | exact LeO.none _ | refine LeO.ite ?_ ?_ | refine LeO.bind ?_ (fun _ => ?_))
  ·intro y0 y1 y2 y3 y4
   unfold r03_Parse.j4
   repeat' first
   | (with_reducible first | exact ih0 _ _ | exact ih1 _ _ _ _ | exact ih2 _ _ _ _ _ | exact ih3 _ _ _ _ _ _ | exact ih4 _ _ _ _ _ | exact ih5 _ _ _ _ _ | exact ih6 _ _ | exact r03_Name.mono _ _ _ | exact r03_Unescape.mono _ _ | exact r03_quoted.mono _ _ | exact LeO.refl _ | exact LeO.none _ | refine LeO.ite ?_ ?_ | refine LeO.bind ?_ (fun _ => ?_))
  ·intro y0 y1 y2 y3 y4 y5
   unfold r03_Parse.j5
   repeat' first
   | (with_reducible first | exact ih0 _ _ | exact ih1 _ _ _ _ | exact ih2 _ _ _ _ _ | exact ih3 _ _ _ _ _ _ | exact ih4 _ _ _ _ _ | exact ih5 _ _ _ _ _ | exact ih6 _ _ | exact r03_Name.mono _ _ _ | exact r03_Unescape.mono _ _ | exact r03_quoted.mono _ _ | exact LeO.refl _ | exact LeO.none _ | refine LeO.ite ?_ ?_ | refine LeO.bind ?_ (fun _ => ?_))
  ·intro y0 y1 y2 y3 y4
   unfold r03_Parse.j6
   repeat' first
   | (with_reducible first | exact ih0 _ _ | exact ih1 _ _ _ _ | exact ih2 _ _ _ _ _ | exact ih3 _ _ _ _ _ _ | exact ih4 _ _ _ _ _ | exact ih5 _ _ _ _ _ | exact ih6 _ _ | exact r03_Name.mono _ _ _ | exact r03_Unescape.mono _ _ | exact r03_quoted.mono _ _ | exact LeO.refl _ | exact LeO.none _ | refine LeO.ite ?_ ?_ | refine LeO.bind ?_ (fun _ => ?_))
  ·intro y0 y1 y2 y3 y4
   unfold r03_Parse.l2
   repeat' first
   | (with_reducible first | exact ih0 _ _ | exact ih1 _ _ _ _ | exact ih2 _ _ _ _ _ | exact ih3 _ _ _ _ _ _ | exact ih4 _ _ _ _ _ | exact ih5 _ _ _ _ _ | exact ih6 _ _ | exact r03_Name.mono _ _ _ | exact r03_Unescape.mono _ _ | exact r03_quoted.mono _ _ | exact LeO.refl _ | exact LeO.none _ | refine LeO.ite ?_ ?_ | refine LeO.bind ?_ (fun _ => ?_))
  ·intro y0 y1
   unfold r03_Parse.l0
   repeat' first
   | (with_reducible first | exact ih0 _ _ | exact ih1 _ _ _ _ | exact ih2 _ _ _ _ _ | exact ih3 _ _ _ _ _ _ | exact ih4 _ _ _ _ _ | exact ih5 _ _ _ _ _ | exact ih6 _ _ | exact r03_Name.mono _ _ _ | exact r03_Unescape.mono _ _ | exact r03_quoted.mono _ _ | exact LeO.refl _ | exact LeO.none _ | refine LeO.ite ?_ ?_ | refine LeO.bind ?_ (fun _ => ?_))
  intro y0 y1
  unfold r03_Parse.j1
  repeat' first
  | (with_reducible first | exact ih0 _ _ | exact ih1 _ _ _ _ | exact ih2 _ _ _ _ _ | exact ih3 _ _ _ _ _ _ | exact ih4 _ _ _ _ _ | exact ih5 _ _ _ _ _ | exact ih6 _ _ | exact r03_Name.mono _ _ _ | exact r03_Unescape.mono _ _ | exact r03_quoted.mono _ _ | exact LeO.refl _ | exact LeO.none _ | refine LeO.ite ?_ ?_ | refine LeO.bind ?_ (fun _ => ?_))
theorem r03_Parse.mono : ∀ a0 k, LeO (r03_Parse.f k a0) (r03_Parse.f (k + 1) a0) := by
 intro a0 k
 obtain ⟨ih0, ih1, ih2, ih3, ih4, ih5, ih6⟩ := r03_Parse.mono_l k
 unfold r03_Parse.f
 repeat' first
  | (with_reducible first | exact ih0 _ _ | exact ih1 _ _ _ _ | exact ih2 _ _ _ _ _ | exact ih3 _ _ _ _ _ _ | exact ih4 _ _ _ _ _ | exact ih5 _ _ _ _ _ | exact ih6 _ _ | exact r03_Name.mono _ _ _ | exact r03_Unescape.mono _ _ | exact r03_quoted.mono _ _ | exact LeO.refl _ | exact LeO.none _ | refine LeO.ite ?_ ?_ | refine LeO.bind ?_ (fun _ => ?_))
set_option maxHeartbeats 8000000 in
set_option maxRecDepth 100000 in
theorem r03_Parse.calls (k : Nat) (a0 : ByteArray) (r1 : ByteArray) (r2 : List (S96)) (r3 : Int) (w : World) (h : r03_Parse.f k a0 = some (r1, r2, r3)) :
 Calls Tryz.prog 23 #[.string a0] w fun e w' => ∃ v1_ : Value, e = .returned (.tuple #[.string r1, v1_, .int .i64 r3]) ∧ Kd.R k96 96 w' w.heap.size (fun _ => True) v1_ r2 ∧ Below w.heap.size w w' := by
 have hu96 := Tryz.underlying96
 have HB := A_ (Below.refl w.heap.size w)
 have H : (r03_Parse.l0 k a0 0) = some (r1, r2, r3) := h
 clear h
 have HC2 := A_ H
 clear H
 go_enter Tryz.func23, Tryz.ntmps23
 go_upto_block 0 with (fail)
 go_cut [5] (fun v5 wc => ∃ (kq : Nat) (x5_1 : Int), v5 = .int .i64 x5_1 ∧ Aside0 (r03_Parse.j1 kq a0 x5_1 = some (r1, r2, r3)) ∧ Aside0 (kq ≤ k) ∧ Aside0 (Below w.heap.size w wc))
 case first =>
  have H := HC2.out
  clear HC2
  have H' := A_ H
  clear H
  go_wp2
  go_loopg [5] k (fun kq v5 w' => ∃ (x5_1 : Int), v5 = .int .i64 x5_1 ∧ Aside0 (r03_Parse.l0 kq a0 x5_1 = some (r1, r2, r3)) ∧ Aside0 (kq ≤ k) ∧ Aside0 (Below w.heap.size w w'))
  case atStart => exact ⟨(0), (by rfl), H', ⟨Nat.le_refl _⟩, ⟨HB.out⟩⟩
  case round =>
   clear H'
   try clear c2
   try clear p2
   obtain ⟨x5_1, rfl, HA, HK1, HB⟩ := hrel
   cases gk with
   | zero => exact absurd HA.out (by simp [r03_Parse.l0])
   | succ k1 =>
    have H := HA.out
    clear HA
    simp only [r03_Parse.l0] at H
    by_cases c3 : x5_1 < (a0.size : Int)
    rotate_left
    ·rw [if_neg c3] at H
     have c3b0 := decide_eq_false c3
     clear c3
     (skip)
     have H' := A_ H
     clear H
     go_wp2
     go_meet
     case rel => exact ⟨_, (x5_1), (by rfl), H', ⟨by have := HK1.out; omega⟩, ⟨HB.out⟩⟩
    rw [if_pos c3] at H
    have c3b0 := decide_eq_true c3
    clear c3
    (skip)
    by_cases c4 : 0 ≤ x5_1
    rotate_left
    ·rw [if_neg c4] at H
     exact absurd H (by simp)
    rw [if_pos c4] at H
    have c4b0 := decide_eq_true c4
    clear c4
    by_cases c6 : (bt a0 x5_1) = 123
    rotate_left
    ·rw [if_neg c6] at H
     have c6b0 : ((bt a0 x5_1) == 123) = false := beq_eq_false_iff_ne.mpr c6
     have c6b1 : ((bt a0 x5_1) != 123) = true := bne_iff_ne.mpr c6
     have H' := A_ H
     clear H
     have p5 : 0 ≤ (x5_1 : Int) := od_
     have q5 : x5_1 < (a0.size : Int) := od_
     have hx5 := bt_at a0 x5_1
     replace p5 := eq_true p5
     replace q5 := eq_true q5
     go_wp2
     go_roundg k1
     case measure => have := HK1.out; omega
     case rel => exact ⟨(wrap64 (x5_1 + 1)), (by rfl), H', ⟨by have := HK1.out; omega⟩, ⟨HB.out⟩⟩
    rw [if_pos c6] at H
    have c6b0 : ((bt a0 x5_1) == 123) = true := beq_iff_eq.mpr c6
    have c6b1 : ((bt a0 x5_1) != 123) = false := bne_eq_false_iff_eq.mpr c6
    clear c6
    have H' := A_ H
    clear H
    have p5 : 0 ≤ (x5_1 : Int) := od_
    have q5 : x5_1 < (a0.size : Int) := od_
    have hx5 := bt_at a0 x5_1
    replace p5 := eq_true p5
    replace q5 := eq_true q5
    go_wp2
    go_meet
    case rel => exact ⟨_, (x5_1), (by rfl), H', ⟨by have := HK1.out; omega⟩, ⟨HB.out⟩⟩
 case rest =>
  clear HC2
  try clear c2
  try clear p2
  try clear c3
  try clear c3b0
  try clear c4
  try clear c4b0
  try clear p5
  try clear q5
  try clear hx5
  try clear c6
  try clear c6b0
  try clear c6b1
  try clear p6
  try clear p2
  try clear p5
  try clear q5
  obtain ⟨kq, x5_1, rfl, HA, HJ1, HB⟩ := hcut
  cases kq with
  | zero => exact absurd HA.out (by simp [r03_Parse.j1])
  | succ kj1 =>
   have H := HA.out
   clear HA
   simp only [r03_Parse.j1] at H
   by_cases c7 : 0 ≤ x5_1
   rotate_left
   ·rw [if_neg c7] at H
    exact absurd H (by simp)
   rw [if_pos c7] at H
   have c7b0 := eq_true c7
   have c7b1 := decide_eq_true c7
   clear c7
   by_cases c8 : x5_1 ≤ (a0.size : Int)
   rotate_left
   ·rw [if_neg c8] at H
    exact absurd H (by simp)
   rw [if_pos c8] at H
   have c8b0 := eq_true c8
   have c8b1 := decide_eq_true c8
   clear c8
   have H' := A_ H
   clear H
   go_wp2
   go_loopg [5, 7] kj1 (fun kq v5 v7 w' => ∃ (x5_2 : Int) (x7_2 : List (S96)), v5 = .int .i64 x5_2 ∧ Aside0 (r03_Parse.l1 kq a0 x5_2 (a0.extract 0 (x5_1 : Int).toNat) x7_2 = some (r1, r2, r3)) ∧ Aside0 (kq ≤ kj1) ∧ Aside0 (Kd.R k96 96 w' w.heap.size (fun _ => True) v7 x7_2) ∧ Aside0 (Below w.heap.size w w'))
   case atStart => exact ⟨(x5_1), (([] : List (S96))), (by rfl), H', ⟨Nat.le_refl _⟩, ⟨by exact Kd.R_nil _ _ _ _ _⟩, ⟨HB.out⟩⟩
   case round =>
    clear H'
    try clear c2
    try clear p2
    try clear c3
    try clear c3b0
    try clear c4
    try clear c4b0
    try clear p5
    try clear q5
    try clear hx5
    try clear c6
    try clear c6b0
    try clear c6b1
    try clear p6
    try clear c7
    try clear c7b0
    try clear c7b1
    try clear c8
    try clear c8b0
    try clear c8b1
    try clear p2
    try clear p5
    try clear p6
    try clear q5
    obtain ⟨x5_2, x7_2, rfl, HA, HK2, HO_7, HB⟩ := hrel
    cases gk with
    | zero => exact absurd HA.out (by simp [r03_Parse.l1])
    | succ k2 =>
     have H := HA.out
     clear HA
     simp only [r03_Parse.l1] at H
     by_cases c9 : x5_2 < (a0.size : Int)
     rotate_left
     ·rw [if_neg c9] at H
      have c9b0 := decide_eq_false c9
      clear c9
      replace H := Option.bind_eq_some_iff.mp H
      obtain ⟨⟨t346, t347⟩, A650, H⟩ := H
      replace H : (if t347 = 0 then (if t346.toList = a0.toList then (some ((a0.extract 0 (x5_1 : Int).toNat), x7_2, 0)) else (some ((⟨#[]⟩ : ByteArray), ([] : List (S96)), 5))) else (some ((⟨#[]⟩ : ByteArray), ([] : List (S96)), 5))) = some (r1, r2, r3) := H
      have A65 := A_ A650
      clear A650
      by_cases c66 : t347 = 0
      rotate_left
      ·rw [if_neg c66] at H
       have c66b0 : (t347 == 0) = false := beq_eq_false_iff_ne.mpr c66
       have c66b1 : (t347 != 0) = true := bne_iff_ne.mpr c66
       simp only [Option.some.injEq, Prod.mk.injEq] at H
       obtain ⟨rfl, rfl, rfl⟩ := H
       obtain ⟨Ao72, co72, eo72⟩ := Kd.R_slice HO_7.out
       subst eo72
       go_wp2_with (first | ((with_reducible refine gate_callee (f := 45) rfl ?_); refine goesL_ (some 124) rfl rfl Tryz.func45 (by kernel_rfl) rfl #[.string (a0.extract 0 (x5_1 : Int).toNat), .slice Ao72 x7_2.length co72] rfl mp_ ?_; (with_reducible refine (r03_Name.calls k2 (a0.extract 0 (x5_1 : Int).toNat) _ _ x7_2 t346 t347 _ ?side1 ?side2 A65.out).mono ?_); (case side1 => repeat (exact (Kd.R_reads' HO_7.out).2.2)); (case side2 => exact (Kd.R_reads' HO_7.out).2.1); rintro e w73 ⟨rfl, hb⟩; refine ⟨_, rfl, ?_⟩; have n0_ := A_ (Kd.R_below (rr_ HO_7.out) hb); have n1_ := A_ (below_step HB.out hb); clear HO_7; clear HB; have HO_7 := n0_; have HB := n1_; clear n0_ n1_; (try clear hb); (try clear hb2); (try clear hk); (try clear hi)))
       go_ret3
       exact ⟨_, by rfl, by exact Kd.R_nil _ _ _ _ _, HB.out⟩
      rw [if_pos c66] at H
      have c66b0 : (t347 == 0) = true := beq_iff_eq.mpr c66
      have c66b1 : (t347 != 0) = false := bne_eq_false_iff_eq.mpr c66
      clear c66
      by_cases c67 : t346.toList = a0.toList
      rotate_left
      ·rw [if_neg c67] at H
       have c67b0 : (t346.toList == a0.toList) = false := beq_eq_false_iff_ne.mpr c67
       have c67b1 : (t346.toList != a0.toList) = true := bne_iff_ne.mpr c67
       simp only [Option.some.injEq, Prod.mk.injEq] at H
       obtain ⟨rfl, rfl, rfl⟩ := H
       obtain ⟨Ao70, co70, eo70⟩ := Kd.R_slice HO_7.out
       subst eo70
       go_wp2_with (first | ((with_reducible refine gate_callee (f := 45) rfl ?_); refine goesL_ (some 124) rfl rfl Tryz.func45 (by kernel_rfl) rfl #[.string (a0.extract 0 (x5_1 : Int).toNat), .slice Ao70 x7_2.length co70] rfl mp_ ?_; (with_reducible refine (r03_Name.calls k2 (a0.extract 0 (x5_1 : Int).toNat) _ _ x7_2 t346 t347 _ ?side1 ?side2 A65.out).mono ?_); (case side1 => repeat (exact (Kd.R_reads' HO_7.out).2.2)); (case side2 => exact (Kd.R_reads' HO_7.out).2.1); rintro e w71 ⟨rfl, hb⟩; refine ⟨_, rfl, ?_⟩; have n0_ := A_ (Kd.R_below (rr_ HO_7.out) hb); have n1_ := A_ (below_step HB.out hb); clear HO_7; clear HB; have HO_7 := n0_; have HB := n1_; clear n0_ n1_; (try clear hb); (try clear hb2); (try clear hk); (try clear hi)))
       go_ret3
       exact ⟨_, by rfl, by exact Kd.R_nil _ _ _ _ _, HB.out⟩
      rw [if_pos c67] at H
      have c67b0 : (t346.toList == a0.toList) = true := beq_iff_eq.mpr c67
      have c67b1 : (t346.toList != a0.toList) = false := bne_eq_false_iff_eq.mpr c67
      clear c67
      simp only [Option.some.injEq, Prod.mk.injEq] at H
      obtain ⟨rfl, rfl, rfl⟩ := H
      obtain ⟨Ao68, co68, eo68⟩ := Kd.R_slice HO_7.out
      subst eo68
      go_wp2_with (first | ((with_reducible refine gate_callee (f := 45) rfl ?_); refine goesL_ (some 124) rfl rfl Tryz.func45 (by kernel_rfl) rfl #[.string (a0.extract 0 (x5_1 : Int).toNat), .slice Ao68 x7_2.length co68] rfl mp_ ?_; (with_reducible refine (r03_Name.calls k2 (a0.extract 0 (x5_1 : Int).toNat) _ _ x7_2 t346 t347 _ ?side1 ?side2 A65.out).mono ?_); (case side1 => repeat (exact (Kd.R_reads' HO_7.out).2.2)); (case side2 => exact (Kd.R_reads' HO_7.out).2.1); rintro e w69 ⟨rfl, hb⟩; refine ⟨_, rfl, ?_⟩; have n0_ := A_ (Kd.R_below (rr_ HO_7.out) hb); have n1_ := A_ (below_step HB.out hb); clear HO_7; clear HB; have HO_7 := n0_; have HB := n1_; clear n0_ n1_; (try clear hb); (try clear hb2); (try clear hk); (try clear hi)))
      go_ret3
      exact ⟨_, by rfl, rr_ HO_7.out, HB.out⟩
     rw [if_pos c9] at H
     have c9b0 := decide_eq_true c9
     clear c9
     have HC10 := A_ H
     clear H
     go_upto_block 4 with (fail)
     go_cut [5] (fun v5 wc => ∃ (kq : Nat) (x5_9 : Int), v5 = .int .i64 x5_9 ∧ Aside0 (r03_Parse.j4 kq a0 x5_9 (a0.extract 0 (x5_1 : Int).toNat) x7_2 (wrap64 (x5_2 + 1)) = some (r1, r2, r3)) ∧ Aside0 (kq ≤ k2) ∧ Aside0 (Kd.R k96 96 wc w.heap.size (fun _ => True) u7 x7_2) ∧ Aside0 (Below w.heap.size w wc))
     case first =>
      have H := HC10.out
      clear HC10
      have H' := A_ H
      clear H
      go_wp2
      go_loopg [5] k2 (fun kq v5 w' => ∃ (x5_3 : Int), v5 = .int .i64 x5_3 ∧ Aside0 (r03_Parse.l2 kq a0 x5_3 (a0.extract 0 (x5_1 : Int).toNat) x7_2 (wrap64 (x5_2 + 1)) = some (r1, r2, r3)) ∧ Aside0 (kq ≤ k2) ∧ Aside0 (Kd.R k96 96 w' w.heap.size (fun _ => True) u7 x7_2) ∧ Aside0 (Below w.heap.size w w'))
      case atStart => exact ⟨(wrap64 (x5_2 + 1)), (by rfl), H', ⟨Nat.le_refl _⟩, ⟨rr_ HO_7.out⟩, ⟨HB.out⟩⟩
      case round =>
       clear H'
       try clear c2
       try clear p2
       try clear c3
       try clear c3b0
       try clear c4
       try clear c4b0
       try clear p5
       try clear q5
       try clear hx5
       try clear c6
       try clear c6b0
       try clear c6b1
       try clear p6
       try clear c7
       try clear c7b0
       try clear c7b1
       try clear c8
       try clear c8b0
       try clear c8b1
       try clear c9
       try clear c9b0
       try clear p2
       try clear p5
       try clear p6
       try clear q5
       obtain ⟨x5_3, rfl, HA, HK3, HO_7, HB⟩ := hrel
       cases gk with
       | zero => exact absurd HA.out (by simp [r03_Parse.l2])
       | succ k3 =>
        have H := HA.out
        clear HA
        simp only [r03_Parse.l2] at H
        by_cases c11 : x5_3 < (a0.size : Int)
        rotate_left
        ·rw [if_neg c11] at H
         have c11b0 := decide_eq_false c11
         clear c11
         (skip)
         have H' := A_ H
         clear H
         go_wp2
         go_meet
         case rel => exact ⟨_, (x5_3), (by rfl), H', ⟨by have := HJ1.out; have := HK2.out; have := HK3.out; omega⟩, ⟨rr_ HO_7.out⟩, ⟨HB.out⟩⟩
        rw [if_pos c11] at H
        have c11b0 := decide_eq_true c11
        clear c11
        (skip)
        by_cases c12 : 0 ≤ x5_3
        rotate_left
        ·rw [if_neg c12] at H
         exact absurd H (by simp)
        rw [if_pos c12] at H
        have c12b0 := decide_eq_true c12
        clear c12
        by_cases c14 : (bt a0 x5_3) = 61
        rotate_left
        ·rw [if_neg c14] at H
         have c14b0 : ((bt a0 x5_3) == 61) = false := beq_eq_false_iff_ne.mpr c14
         have c14b1 : ((bt a0 x5_3) != 61) = true := bne_iff_ne.mpr c14
         have H' := A_ H
         clear H
         have p13 : 0 ≤ (x5_3 : Int) := od_
         have q13 : x5_3 < (a0.size : Int) := od_
         have hx13 := bt_at a0 x5_3
         replace p13 := eq_true p13
         replace q13 := eq_true q13
         go_wp2
         go_roundg k3
         case measure => have := HJ1.out; have := HK2.out; have := HK3.out; omega
         case rel => exact ⟨(wrap64 (x5_3 + 1)), (by rfl), H', ⟨by have := HJ1.out; have := HK2.out; have := HK3.out; omega⟩, ⟨rr_ HO_7.out⟩, ⟨HB.out⟩⟩
        rw [if_pos c14] at H
        have c14b0 : ((bt a0 x5_3) == 61) = true := beq_iff_eq.mpr c14
        have c14b1 : ((bt a0 x5_3) != 61) = false := bne_eq_false_iff_eq.mpr c14
        clear c14
        have H' := A_ H
        clear H
        have p13 : 0 ≤ (x5_3 : Int) := od_
        have q13 : x5_3 < (a0.size : Int) := od_
        have hx13 := bt_at a0 x5_3
        replace p13 := eq_true p13
        replace q13 := eq_true q13
        go_wp2
        go_meet
        case rel => exact ⟨_, (x5_3), (by rfl), H', ⟨by have := HJ1.out; have := HK2.out; have := HK3.out; omega⟩, ⟨rr_ HO_7.out⟩, ⟨HB.out⟩⟩
     case rest =>
      clear HC10
      try clear c1
      try clear p1
      try clear q1
      try clear hx1
      try clear c2
      try clear p2
      try clear c3
      try clear c3b0
      try clear c4
      try clear c4b0
      try clear p5
      try clear q5
      try clear hx5
      try clear c6
      try clear c6b0
      try clear c6b1
      try clear p6
      try clear c7
      try clear c7b0
      try clear c7b1
      try clear c8
      try clear c8b0
      try clear c8b1
      try clear c9
      try clear c9b0
      try clear c11
      try clear c11b0
      try clear c12
      try clear c12b0
      try clear p13
      try clear q13
      try clear hx13
      try clear c14
      try clear c14b0
      try clear c14b1
      try clear p13
      try clear p2
      try clear p5
      try clear p6
      try clear q13
      try clear q5
      obtain ⟨kq, x5_9, rfl, HA, HJ9, HO_7, HB⟩ := hcut
      cases kq with
      | zero => exact absurd HA.out (by simp [r03_Parse.j4])
      | succ kj9 =>
       have H := HA.out
       clear HA
       simp only [r03_Parse.j4] at H
       have HC15 := A_ H
       clear H
       go_upto_region 11 with (fail)
       go_cut [64] (fun v64 wc => ∃ (kq : Nat) (x64_14 : Bool), v64 = .bool x64_14 ∧ Aside0 (r03_Parse.j5 kq a0 x5_9 (a0.extract 0 (x5_1 : Int).toNat) x7_2 (wrap64 (x5_2 + 1)) x64_14 = some (r1, r2, r3)) ∧ Aside0 (kq ≤ kj9) ∧ Aside0 (Kd.R k96 96 wc w.heap.size (fun _ => True) u7 x7_2) ∧ Aside0 (Below w.heap.size w wc))
       case first =>
        have H := HC15.out
        clear HC15
        by_cases c16 : (wrap64 (x5_9 + 1)) ≥ (a0.size : Int)
        ·rw [if_pos c16] at H
         have c16b0 := decide_eq_true c16
         clear c16
         (skip)
         have H' := A_ H
         clear H
         go_wp2
         go_meet
         case rel => exact ⟨_, (true), (by rfl), H', ⟨by have := HJ1.out; have := HK2.out; have := HJ9.out; omega⟩, ⟨rr_ HO_7.out⟩, ⟨HB.out⟩⟩
        rw [if_neg c16] at H
        have c16b0 := decide_eq_false c16
        clear c16
        (skip)
        obtain ⟨ji17, hji17⟩ : ∃ j_ : Int, (wrap64 (x5_9 + 1)) = j_ := ⟨_, rfl⟩
        replace H : (if 0 ≤ (ji17) then (if (ji17) < (a0.size : Int) then (if (bt a0 (ji17)) = 34 then (r03_Parse.j5 kj9 a0 x5_9 (a0.extract 0 (x5_1 : Int).toNat) x7_2 (wrap64 (x5_2 + 1)) (decide ((x7_2.length : Int) > 16))) else (r03_Parse.j5 kj9 a0 x5_9 (a0.extract 0 (x5_1 : Int).toNat) x7_2 (wrap64 (x5_2 + 1)) true)) else (none)) else (none)) = some (r1, r2, r3) := by (rw [hji17] at H; exact H)
        (try rw [hji17] at c16b0)
        have hji17w : (IntKind.i64.wrap (x5_9 + 1)) = ji17 := (i64_w _).trans hji17
        by_cases c18 : 0 ≤ (ji17)
        rotate_left
        ·rw [if_neg c18] at H
         exact absurd H (by simp)
        rw [if_pos c18] at H
        have c18b0 := decide_eq_true c18
        clear c18
        by_cases c19 : (ji17) < (a0.size : Int)
        rotate_left
        ·rw [if_neg c19] at H
         exact absurd H (by simp)
        rw [if_pos c19] at H
        have c19b0 := decide_eq_true c19
        clear c19
        by_cases c21 : (bt a0 (ji17)) = 34
        rotate_left
        ·rw [if_neg c21] at H
         have c21b0 : ((bt a0 (ji17)) == 34) = false := beq_eq_false_iff_ne.mpr c21
         have c21b1 : ((bt a0 (ji17)) != 34) = true := bne_iff_ne.mpr c21
         have H' := A_ H
         clear H
         have p20 : 0 ≤ ((ji17) : Int) := od_
         have q20 : (ji17) < (a0.size : Int) := od_
         have hx20 := bt_at a0 (ji17)
         replace p20 := eq_true p20
         replace q20 := eq_true q20
         go_wp2
         go_meet
         case rel => exact ⟨_, (true), (by rfl), H', ⟨by have := HJ1.out; have := HK2.out; have := HJ9.out; omega⟩, ⟨rr_ HO_7.out⟩, ⟨HB.out⟩⟩
        rw [if_pos c21] at H
        have c21b0 : ((bt a0 (ji17)) == 34) = true := beq_iff_eq.mpr c21
        have c21b1 : ((bt a0 (ji17)) != 34) = false := bne_eq_false_iff_eq.mpr c21
        clear c21
        have H' := A_ H
        clear H
        have p20 : 0 ≤ ((ji17) : Int) := od_
        have q20 : (ji17) < (a0.size : Int) := od_
        have hx20 := bt_at a0 (ji17)
        replace p20 := eq_true p20
        replace q20 := eq_true q20
        obtain ⟨Ao22, co22, eo22⟩ := Kd.R_slice HO_7.out
        subst eo22
        go_wp2
        go_meet
        case rel => exact ⟨_, (decide ((x7_2.length : Int) > 16)), (by rfl), H', ⟨by have := HJ1.out; have := HK2.out; have := HJ9.out; omega⟩, ⟨rr_ HO_7.out⟩, ⟨HB.out⟩⟩
       case rest =>
        clear HC15
        try clear c1
        try clear p1
        try clear q1
        try clear hx1
        try clear c2
        try clear p2
        try clear q2
        try clear hx2
        try clear c3
        try clear c3b0
        try clear c4
        try clear c4b0
        try clear p5
        try clear q5
        try clear hx5
        try clear c6
        try clear c6b0
        try clear c6b1
        try clear p6
        try clear c7
        try clear c7b0
        try clear c7b1
        try clear c8
        try clear c8b0
        try clear c8b1
        try clear c9
        try clear c9b0
        try clear c11
        try clear c11b0
        try clear c12
        try clear c12b0
        try clear p13
        try clear q13
        try clear hx13
        try clear c14
        try clear c14b0
        try clear c14b1
        try clear c16
        try clear c16b0
        try clear c18
        try clear c18b0
        try clear c19
        try clear c19b0
        try clear p20
        try clear q20
        try clear hx20
        try clear c21
        try clear c21b0
        try clear c21b1
        try clear p1
        try clear p13
        try clear p2
        try clear p20
        try clear p5
        try clear p6
        try clear q1
        try clear q13
        try clear q20
        try clear q5
        obtain ⟨kq, x64_14, rfl, HA, HJ14, HO_7, HB⟩ := hcut
        cases kq with
        | zero => exact absurd HA.out (by simp [r03_Parse.j5])
        | succ kj14 =>
         have H := HA.out
         clear HA
         simp only [r03_Parse.j5] at H
         by_cases c23 : x64_14 = true
         ·subst c23
          have H1 : (some ((⟨#[]⟩ : ByteArray), ([] : List (S96)), 5)) = some (r1, r2, r3) := by rw [if_pos rfl] at H; exact H
          clear H
          have H := H1
          clear H1
          simp only [Option.some.injEq, Prod.mk.injEq] at H
          obtain ⟨rfl, rfl, rfl⟩ := H
          go_wp2
          go_ret3
          exact ⟨_, by rfl, by exact Kd.R_nil _ _ _ _ _, HB.out⟩
         replace c23 := Bool.eq_false_iff.mpr c23
         subst c23
         have H1 : (if 0 ≤ (wrap64 (x5_9 + 1)) then (if (wrap64 (x5_9 + 1)) ≤ (a0.size : Int) then ((r03_quoted.f kj14 (a0.extract ((wrap64 (x5_9 + 1)) : Int).toNat a0.size)).bind fun t348 => (if t348 < 0 then (some ((⟨#[]⟩ : ByteArray), ([] : List (S96)), 5)) else (if 0 ≤ (wrap64 (x5_9 + 2)) then (if (wrap64 (x5_9 + 2)) ≤ (wrap64 ((wrap64 (x5_9 + 1)) + t348)) then (if (wrap64 ((wrap64 (x5_9 + 1)) + t348)) ≤ (a0.size : Int) then ((r03_Unescape.f kj14 (a0.extract ((wrap64 (x5_9 + 2)) : Int).toNat ((wrap64 ((wrap64 (x5_9 + 1)) + t348)) : Int).toNat)).bind fun bt349 => (if bt349.2 = true then (if 0 ≤ (wrap64 (x5_2 + 1)) then (if (wrap64 (x5_2 + 1)) ≤ x5_9 then (if x5_9 ≤ (a0.size : Int) then (if x7_2.length < 4398046511104 then ((some (x7_2 ++ [(⟨a0.extract ((wrap64 (x5_2 + 1)) : Int).toNat (x5_9 : Int).toNat, bt349.1⟩ : S96)] : List (S96))).bind fun y351 => (if (wrap64 ((wrap64 ((wrap64 (x5_9 + 1)) + t348)) + 1)) = (wrap64 ((a0.size : Int) - 1)) then (if 0 ≤ (wrap64 ((wrap64 ((wrap64 (x5_9 + 1)) + t348)) + 1)) then (if (wrap64 ((wrap64 ((wrap64 (x5_9 + 1)) + t348)) + 1)) < (a0.size : Int) then (r03_Parse.j6 kj14 a0 (wrap64 ((wrap64 ((wrap64 (x5_9 + 1)) + t348)) + 1)) (a0.extract 0 (x5_1 : Int).toNat) y351 ((bt a0 (wrap64 ((wrap64 ((wrap64 (x5_9 + 1)) + t348)) + 1))) == 125)) else (none)) else (none)) else (r03_Parse.j6 kj14 a0 (wrap64 ((wrap64 ((wrap64 (x5_9 + 1)) + t348)) + 1)) (a0.extract 0 (x5_1 : Int).toNat) y351 false))) else (none)) else (none)) else (none)) else (none)) else (some ((⟨#[]⟩ : ByteArray), ([] : List (S96)), 5)))) else (none)) else (none)) else (none)))) else (none)) else (none)) = some (r1, r2, r3) := by rw [if_neg (show ¬ (false = true) by decide)] at H; exact H
         clear H
         have H := H1
         clear H1
         obtain ⟨ji24, hji24⟩ : ∃ j_ : Int, (wrap64 (x5_9 + 1)) = j_ := ⟨_, rfl⟩
         replace H : (if 0 ≤ (ji24) then (if (ji24) ≤ (a0.size : Int) then ((r03_quoted.f kj14 (a0.extract ((ji24) : Int).toNat a0.size)).bind fun t348 => (if t348 < 0 then (some ((⟨#[]⟩ : ByteArray), ([] : List (S96)), 5)) else (if 0 ≤ (wrap64 (x5_9 + 2)) then (if (wrap64 (x5_9 + 2)) ≤ (wrap64 ((ji24) + t348)) then (if (wrap64 ((ji24) + t348)) ≤ (a0.size : Int) then ((r03_Unescape.f kj14 (a0.extract ((wrap64 (x5_9 + 2)) : Int).toNat ((wrap64 ((ji24) + t348)) : Int).toNat)).bind fun bt349 => (if bt349.2 = true then (if 0 ≤ (wrap64 (x5_2 + 1)) then (if (wrap64 (x5_2 + 1)) ≤ x5_9 then (if x5_9 ≤ (a0.size : Int) then (if x7_2.length < 4398046511104 then ((some (x7_2 ++ [(⟨a0.extract ((wrap64 (x5_2 + 1)) : Int).toNat (x5_9 : Int).toNat, bt349.1⟩ : S96)] : List (S96))).bind fun y351 => (if (wrap64 ((wrap64 ((ji24) + t348)) + 1)) = (wrap64 ((a0.size : Int) - 1)) then (if 0 ≤ (wrap64 ((wrap64 ((ji24) + t348)) + 1)) then (if (wrap64 ((wrap64 ((ji24) + t348)) + 1)) < (a0.size : Int) then (r03_Parse.j6 kj14 a0 (wrap64 ((wrap64 ((ji24) + t348)) + 1)) (a0.extract 0 (x5_1 : Int).toNat) y351 ((bt a0 (wrap64 ((wrap64 ((ji24) + t348)) + 1))) == 125)) else (none)) else (none)) else (r03_Parse.j6 kj14 a0 (wrap64 ((wrap64 ((ji24) + t348)) + 1)) (a0.extract 0 (x5_1 : Int).toNat) y351 false))) else (none)) else (none)) else (none)) else (none)) else (some ((⟨#[]⟩ : ByteArray), ([] : List (S96)), 5)))) else (none)) else (none)) else (none)))) else (none)) else (none)) = some (r1, r2, r3) := by (rw [hji24] at H; exact H)
         have hji24w : (IntKind.i64.wrap (x5_9 + 1)) = ji24 := (i64_w _).trans hji24
         by_cases c25 : 0 ≤ (ji24)
         rotate_left
         ·rw [if_neg c25] at H
          exact absurd H (by simp)
         rw [if_pos c25] at H
         have c25b0 := eq_true c25
         have c25b1 := decide_eq_true c25
         clear c25
         by_cases c26 : (ji24) ≤ (a0.size : Int)
         rotate_left
         ·rw [if_neg c26] at H
          exact absurd H (by simp)
         rw [if_pos c26] at H
         have c26b0 := eq_true c26
         have c26b1 := decide_eq_true c26
         clear c26
         replace H := Option.bind_eq_some_iff.mp H
         obtain ⟨t348, A270, H⟩ := H
         replace H : (if t348 < 0 then (some ((⟨#[]⟩ : ByteArray), ([] : List (S96)), 5)) else (if 0 ≤ (wrap64 (x5_9 + 2)) then (if (wrap64 (x5_9 + 2)) ≤ (wrap64 ((ji24) + t348)) then (if (wrap64 ((ji24) + t348)) ≤ (a0.size : Int) then ((r03_Unescape.f kj14 (a0.extract ((wrap64 (x5_9 + 2)) : Int).toNat ((wrap64 ((ji24) + t348)) : Int).toNat)).bind fun bt349 => (if bt349.2 = true then (if 0 ≤ (wrap64 (x5_2 + 1)) then (if (wrap64 (x5_2 + 1)) ≤ x5_9 then (if x5_9 ≤ (a0.size : Int) then (if x7_2.length < 4398046511104 then ((some (x7_2 ++ [(⟨a0.extract ((wrap64 (x5_2 + 1)) : Int).toNat (x5_9 : Int).toNat, bt349.1⟩ : S96)] : List (S96))).bind fun y351 => (if (wrap64 ((wrap64 ((ji24) + t348)) + 1)) = (wrap64 ((a0.size : Int) - 1)) then (if 0 ≤ (wrap64 ((wrap64 ((ji24) + t348)) + 1)) then (if (wrap64 ((wrap64 ((ji24) + t348)) + 1)) < (a0.size : Int) then (r03_Parse.j6 kj14 a0 (wrap64 ((wrap64 ((ji24) + t348)) + 1)) (a0.extract 0 (x5_1 : Int).toNat) y351 ((bt a0 (wrap64 ((wrap64 ((ji24) + t348)) + 1))) == 125)) else (none)) else (none)) else (r03_Parse.j6 kj14 a0 (wrap64 ((wrap64 ((ji24) + t348)) + 1)) (a0.extract 0 (x5_1 : Int).toNat) y351 false))) else (none)) else (none)) else (none)) else (none)) else (some ((⟨#[]⟩ : ByteArray), ([] : List (S96)), 5)))) else (none)) else (none)) else (none))) = some (r1, r2, r3) := H
         have A27 := A_ A270
         clear A270
         by_cases c28 : t348 < 0
         ·rw [if_pos c28] at H
          have c28b0 := decide_eq_true c28
          clear c28
          simp only [Option.some.injEq, Prod.mk.injEq] at H
          obtain ⟨rfl, rfl, rfl⟩ := H
          go_wp2_with (first | ((with_reducible refine gate_callee (f := 43) rfl ?_); refine goesL_ (some 69) rfl rfl Tryz.func43 (by kernel_rfl) rfl #[.string (a0.extract ((ji24) : Int).toNat a0.size)] rfl mp_ ?_; (with_reducible refine (r03_quoted.calls kj14 (a0.extract ((ji24) : Int).toNat a0.size) t348 _ A27.out).mono ?_); rintro e w' ⟨rfl, ⟨nd, rfl⟩⟩; refine ⟨_, rfl, ?_⟩))
          go_ret3
          exact ⟨_, by rfl, by exact Kd.R_nil _ _ _ _ _, by repeat ((with_reducible first | exact HB.out | apply pw_below_drewN))⟩
         rw [if_neg c28] at H
         have c28b0 := decide_eq_false c28
         clear c28
         obtain ⟨ji29, hji29⟩ : ∃ j_ : Int, (wrap64 (x5_9 + 2)) = j_ := ⟨_, rfl⟩
         replace H : (if 0 ≤ (ji29) then (if (ji29) ≤ (wrap64 ((ji24) + t348)) then (if (wrap64 ((ji24) + t348)) ≤ (a0.size : Int) then ((r03_Unescape.f kj14 (a0.extract ((ji29) : Int).toNat ((wrap64 ((ji24) + t348)) : Int).toNat)).bind fun bt349 => (if bt349.2 = true then (if 0 ≤ (wrap64 (x5_2 + 1)) then (if (wrap64 (x5_2 + 1)) ≤ x5_9 then (if x5_9 ≤ (a0.size : Int) then (if x7_2.length < 4398046511104 then ((some (x7_2 ++ [(⟨a0.extract ((wrap64 (x5_2 + 1)) : Int).toNat (x5_9 : Int).toNat, bt349.1⟩ : S96)] : List (S96))).bind fun y351 => (if (wrap64 ((wrap64 ((ji24) + t348)) + 1)) = (wrap64 ((a0.size : Int) - 1)) then (if 0 ≤ (wrap64 ((wrap64 ((ji24) + t348)) + 1)) then (if (wrap64 ((wrap64 ((ji24) + t348)) + 1)) < (a0.size : Int) then (r03_Parse.j6 kj14 a0 (wrap64 ((wrap64 ((ji24) + t348)) + 1)) (a0.extract 0 (x5_1 : Int).toNat) y351 ((bt a0 (wrap64 ((wrap64 ((ji24) + t348)) + 1))) == 125)) else (none)) else (none)) else (r03_Parse.j6 kj14 a0 (wrap64 ((wrap64 ((ji24) + t348)) + 1)) (a0.extract 0 (x5_1 : Int).toNat) y351 false))) else (none)) else (none)) else (none)) else (none)) else (some ((⟨#[]⟩ : ByteArray), ([] : List (S96)), 5)))) else (none)) else (none)) else (none)) = some (r1, r2, r3) := by (rw [hji29] at H; exact H)
         (try rw [hji29] at A27)
         have hji29w : (IntKind.i64.wrap (x5_9 + 2)) = ji29 := (i64_w _).trans hji29
         by_cases c30 : 0 ≤ (ji29)
         rotate_left
         ·rw [if_neg c30] at H
          exact absurd H (by simp)
         rw [if_pos c30] at H
         have c30b0 := eq_true c30
         have c30b1 := decide_eq_true c30
         clear c30
         by_cases c31 : (ji29) ≤ (wrap64 ((ji24) + t348))
         rotate_left
         ·rw [if_neg c31] at H
          exact absurd H (by simp)
         rw [if_pos c31] at H
         have c31b0 := eq_true c31
         have c31b1 := decide_eq_true c31
         by_cases c32 : (wrap64 ((ji24) + t348)) ≤ (a0.size : Int)
         rotate_left
         ·rw [if_neg c32] at H
          exact absurd H (by simp)
         rw [if_pos c32] at H
         have c32b0 := eq_true c32
         have c32b1 := decide_eq_true c32
         replace H := Option.bind_eq_some_iff.mp H
         obtain ⟨⟨t349, t350⟩, A330, H⟩ := H
         replace H : (if t350 = true then (if 0 ≤ (wrap64 (x5_2 + 1)) then (if (wrap64 (x5_2 + 1)) ≤ x5_9 then (if x5_9 ≤ (a0.size : Int) then (if x7_2.length < 4398046511104 then ((some (x7_2 ++ [(⟨a0.extract ((wrap64 (x5_2 + 1)) : Int).toNat (x5_9 : Int).toNat, t349⟩ : S96)] : List (S96))).bind fun y351 => (if (wrap64 ((wrap64 ((ji24) + t348)) + 1)) = (wrap64 ((a0.size : Int) - 1)) then (if 0 ≤ (wrap64 ((wrap64 ((ji24) + t348)) + 1)) then (if (wrap64 ((wrap64 ((ji24) + t348)) + 1)) < (a0.size : Int) then (r03_Parse.j6 kj14 a0 (wrap64 ((wrap64 ((ji24) + t348)) + 1)) (a0.extract 0 (x5_1 : Int).toNat) y351 ((bt a0 (wrap64 ((wrap64 ((ji24) + t348)) + 1))) == 125)) else (none)) else (none)) else (r03_Parse.j6 kj14 a0 (wrap64 ((wrap64 ((ji24) + t348)) + 1)) (a0.extract 0 (x5_1 : Int).toNat) y351 false))) else (none)) else (none)) else (none)) else (none)) else (some ((⟨#[]⟩ : ByteArray), ([] : List (S96)), 5))) = some (r1, r2, r3) := H
         have A33 := A_ A330
         clear A330
         by_cases c34 : t350 = true
         rotate_left
         ·replace c34 := Bool.eq_false_iff.mpr c34
          subst c34
          have H1 : (some ((⟨#[]⟩ : ByteArray), ([] : List (S96)), 5)) = some (r1, r2, r3) := by rw [if_neg (show ¬ (false = true) by decide)] at H; exact H
          clear H
          have H := H1
          clear H1
          simp only [Option.some.injEq, Prod.mk.injEq] at H
          obtain ⟨rfl, rfl, rfl⟩ := H
          go_wp2_with (first | ((with_reducible refine gate_callee (f := 43) rfl ?_); refine goesL_ (some 69) rfl rfl Tryz.func43 (by kernel_rfl) rfl #[.string (a0.extract ((ji24) : Int).toNat a0.size)] rfl mp_ ?_; (with_reducible refine (r03_quoted.calls kj14 (a0.extract ((ji24) : Int).toNat a0.size) t348 _ A27.out).mono ?_); rintro e w' ⟨rfl, ⟨nd, rfl⟩⟩; refine ⟨_, rfl, ?_⟩) | ((with_reducible refine gate_callee (f := 44) rfl ?_); refine goesL_ (some 81) rfl rfl Tryz.func44 (by kernel_rfl) rfl #[.string (a0.extract ((ji29) : Int).toNat ((wrap64 ((ji24) + t348)) : Int).toNat)] rfl mp_ ?_; (with_reducible refine (r03_Unescape.calls kj14 (a0.extract ((ji29) : Int).toNat ((wrap64 ((ji24) + t348)) : Int).toNat) t349 false _ A33.out).mono ?_); rintro e w64 ⟨rfl, hb⟩; refine ⟨_, rfl, ?_⟩; have n0_ := A_ (Kd.R_below (by (with_reducible repeat (apply Kd.R_drewN)); exact HO_7.out) hb); have n1_ := A_ (below_step (by repeat ((with_reducible first | exact HB.out | apply pw_below_drewN))) hb); clear HO_7; clear HB; have HO_7 := n0_; have HB := n1_; clear n0_ n1_; (try clear hb); (try clear hb2); (try clear hk); (try clear hi)))
          go_ret3
          exact ⟨_, by rfl, by exact Kd.R_nil _ _ _ _ _, HB.out⟩
         subst c34
         have H1 : (if 0 ≤ (wrap64 (x5_2 + 1)) then (if (wrap64 (x5_2 + 1)) ≤ x5_9 then (if x5_9 ≤ (a0.size : Int) then (if x7_2.length < 4398046511104 then ((some (x7_2 ++ [(⟨a0.extract ((wrap64 (x5_2 + 1)) : Int).toNat (x5_9 : Int).toNat, t349⟩ : S96)] : List (S96))).bind fun y351 => (if (wrap64 ((wrap64 ((ji24) + t348)) + 1)) = (wrap64 ((a0.size : Int) - 1)) then (if 0 ≤ (wrap64 ((wrap64 ((ji24) + t348)) + 1)) then (if (wrap64 ((wrap64 ((ji24) + t348)) + 1)) < (a0.size : Int) then (r03_Parse.j6 kj14 a0 (wrap64 ((wrap64 ((ji24) + t348)) + 1)) (a0.extract 0 (x5_1 : Int).toNat) y351 ((bt a0 (wrap64 ((wrap64 ((ji24) + t348)) + 1))) == 125)) else (none)) else (none)) else (r03_Parse.j6 kj14 a0 (wrap64 ((wrap64 ((ji24) + t348)) + 1)) (a0.extract 0 (x5_1 : Int).toNat) y351 false))) else (none)) else (none)) else (none)) else (none)) = some (r1, r2, r3) := by rw [if_pos rfl] at H; exact H
         clear H
         have H := H1
         clear H1
         obtain ⟨ji35, hji35⟩ : ∃ j_ : Int, (wrap64 (x5_2 + 1)) = j_ := ⟨_, rfl⟩
         replace H : (if 0 ≤ (ji35) then (if (ji35) ≤ x5_9 then (if x5_9 ≤ (a0.size : Int) then (if x7_2.length < 4398046511104 then ((some (x7_2 ++ [(⟨a0.extract ((ji35) : Int).toNat (x5_9 : Int).toNat, t349⟩ : S96)] : List (S96))).bind fun y351 => (if (wrap64 ((wrap64 ((ji24) + t348)) + 1)) = (wrap64 ((a0.size : Int) - 1)) then (if 0 ≤ (wrap64 ((wrap64 ((ji24) + t348)) + 1)) then (if (wrap64 ((wrap64 ((ji24) + t348)) + 1)) < (a0.size : Int) then (r03_Parse.j6 kj14 a0 (wrap64 ((wrap64 ((ji24) + t348)) + 1)) (a0.extract 0 (x5_1 : Int).toNat) y351 ((bt a0 (wrap64 ((wrap64 ((ji24) + t348)) + 1))) == 125)) else (none)) else (none)) else (r03_Parse.j6 kj14 a0 (wrap64 ((wrap64 ((ji24) + t348)) + 1)) (a0.extract 0 (x5_1 : Int).toNat) y351 false))) else (none)) else (none)) else (none)) else (none)) = some (r1, r2, r3) := by (rw [hji35] at H; exact H)
         (try rw [hji35] at A27)
         (try rw [hji35] at A33)
         have hji35w : (IntKind.i64.wrap (x5_2 + 1)) = ji35 := (i64_w _).trans hji35
         by_cases c36 : 0 ≤ (ji35)
         rotate_left
         ·rw [if_neg c36] at H
          exact absurd H (by simp)
         rw [if_pos c36] at H
         have c36b0 := eq_true c36
         have c36b1 := decide_eq_true c36
         clear c36
         by_cases c37 : (ji35) ≤ x5_9
         rotate_left
         ·rw [if_neg c37] at H
          exact absurd H (by simp)
         rw [if_pos c37] at H
         have c37b0 := eq_true c37
         have c37b1 := decide_eq_true c37
         clear c37
         by_cases c38 : x5_9 ≤ (a0.size : Int)
         rotate_left
         ·rw [if_neg c38] at H
          exact absurd H (by simp)
         rw [if_pos c38] at H
         have c38b0 := eq_true c38
         have c38b1 := decide_eq_true c38
         clear c38
         by_cases c39 : x7_2.length < 4398046511104
         rotate_left
         ·rw [if_neg c39] at H
          exact absurd H (by simp)
         rw [if_pos c39] at H
         have LMc39 := A_ c39
         clear c39
         obtain ⟨y351, hy351⟩ : ∃ y_ : List (S96), y_ = (x7_2 ++ [(⟨a0.extract ((ji35) : Int).toNat (x5_9 : Int).toNat, t349⟩ : S96)]) := ⟨_, rfl⟩
         replace H : (if (wrap64 ((wrap64 ((ji24) + t348)) + 1)) = (wrap64 ((a0.size : Int) - 1)) then (if 0 ≤ (wrap64 ((wrap64 ((ji24) + t348)) + 1)) then (if (wrap64 ((wrap64 ((ji24) + t348)) + 1)) < (a0.size : Int) then (r03_Parse.j6 kj14 a0 (wrap64 ((wrap64 ((ji24) + t348)) + 1)) (a0.extract 0 (x5_1 : Int).toNat) y351 ((bt a0 (wrap64 ((wrap64 ((ji24) + t348)) + 1))) == 125)) else (none)) else (none)) else (r03_Parse.j6 kj14 a0 (wrap64 ((wrap64 ((ji24) + t348)) + 1)) (a0.extract 0 (x5_1 : Int).toNat) y351 false)) = some (r1, r2, r3) := by (have H2_ := (Option.bind_some _ _).symm.trans H; rw [hy351]; with_reducible exact H2_)
         have Ny351 := A_ hy351
         clear hy351
         have HC40 := A_ H
         clear H
         go_upto_region 21 with (first | ((with_reducible refine gate_callee (f := 43) rfl ?_); refine goesL_ (some 69) rfl rfl Tryz.func43 (by kernel_rfl) rfl #[.string (a0.extract ((ji24) : Int).toNat a0.size)] rfl mp_ ?_; (with_reducible refine (r03_quoted.calls kj14 (a0.extract ((ji24) : Int).toNat a0.size) t348 _ A27.out).mono ?_); rintro e w' ⟨rfl, ⟨nd, rfl⟩⟩; refine ⟨_, rfl, ?_⟩) | ((with_reducible refine gate_callee (f := 44) rfl ?_); refine goesL_ (some 81) rfl rfl Tryz.func44 (by kernel_rfl) rfl #[.string (a0.extract ((ji29) : Int).toNat ((wrap64 ((ji24) + t348)) : Int).toNat)] rfl mp_ ?_; (with_reducible refine (r03_Unescape.calls kj14 (a0.extract ((ji29) : Int).toNat ((wrap64 ((ji24) + t348)) : Int).toNat) t349 true _ A33.out).mono ?_); rintro e w41 ⟨rfl, hb⟩; refine ⟨_, rfl, ?_⟩; have n0_ := A_ (Kd.R_below (by (with_reducible repeat (apply Kd.R_drewN)); exact HO_7.out) hb); have n1_ := A_ (below_step (by repeat ((with_reducible first | exact HB.out | apply pw_below_drewN))) hb); clear HO_7; clear HB; have HO_7 := n0_; have HB := n1_; clear n0_ n1_; (try clear hb); (try clear hb2); (try clear hk); (try clear hi)) | ((with_reducible refine gate_builtin (b := .append) (xs := #[.tmp 86, .tmp 93]) rfl ?_); (try (refine gate_guard (by rfl) ?_; dsimp only)); at_builtin; refine Kd.R_append k96 (w0 := w) w.heap.size rfl (.tmp 86) (.tmp 93) 44 96 (.agg #[(.string ⟨#[]⟩), (.string ⟨#[]⟩)]) 32 rfl Tryz.underlying44 info96 rfl (by decide) (by omega) u7 x7_2 (⟨a0.extract ((ji35) : Int).toNat (x5_9 : Int).toNat, t349⟩ : S96) [.string (a0.extract ((ji35) : Int).toNat (x5_9 : Int).toNat), .string t349] (fun _ => True) (fun _ => False) rfl rfl ?aP (fun _ hk => hk.elim) ?aF ?aO ?aB ?aS ?aL ?_; (case aP => exact k96_mkM _ _ _ (⟨a0.extract ((ji35) : Int).toNat (x5_9 : Int).toNat, t349⟩ : S96)); (case aB => exact HB.out); (case aF => exact (fun _ _ => trivial)); (case aO => exact (rr_ HO_7.out)); (case aS => exact (below_size HB.out)); (case aL => have := LMc39.out; omega); intro v352 w42 ho hb hg hat; rw [← Ny351.out] at ho; have n0_ := A_ (hb); have n1_ := A_ (ho); clear HB; clear HO_7; have HB := n0_; have HO353 := n1_; clear n0_ n1_; clear ho hb hg hat))
         (try simp only [Act.put,s1_,s2_,s3_])
         go_cut [110] (fun v110 wc => ∃ (kq : Nat) (x110_39 : Bool), v110 = .bool x110_39 ∧ Aside0 (r03_Parse.j6 kq a0 (wrap64 ((wrap64 ((ji24) + t348)) + 1)) (a0.extract 0 (x5_1 : Int).toNat) y351 x110_39 = some (r1, r2, r3)) ∧ Aside0 (kq ≤ kj14) ∧ Aside0 (Kd.R k96 96 wc w.heap.size (fun _ => True) v352 y351) ∧ Aside0 (Below w.heap.size w wc))
         case first =>
          have H := HC40.out
          clear HC40
          by_cases c43 : (wrap64 ((wrap64 ((ji24) + t348)) + 1)) = (wrap64 ((a0.size : Int) - 1))
          rotate_left
          ·rw [if_neg c43] at H
           have c43b0 : ((wrap64 ((wrap64 ((ji24) + t348)) + 1)) == (wrap64 ((a0.size : Int) - 1))) = false := beq_eq_false_iff_ne.mpr c43
           have c43b1 : ((wrap64 ((wrap64 ((ji24) + t348)) + 1)) != (wrap64 ((a0.size : Int) - 1))) = true := bne_iff_ne.mpr c43
           (skip)
           have H' := A_ H
           clear H
           go_wp2
           go_meet
           case rel => exact ⟨_, (false), (by rfl), H', ⟨by have := HJ1.out; have := HK2.out; have := HJ9.out; have := HJ14.out; omega⟩, ⟨rr_ HO353.out⟩, ⟨HB.out⟩⟩
          rw [if_pos c43] at H
          have c43b0 : ((wrap64 ((wrap64 ((ji24) + t348)) + 1)) == (wrap64 ((a0.size : Int) - 1))) = true := beq_iff_eq.mpr c43
          have c43b1 : ((wrap64 ((wrap64 ((ji24) + t348)) + 1)) != (wrap64 ((a0.size : Int) - 1))) = false := bne_eq_false_iff_eq.mpr c43
          clear c43
          (skip)
          obtain ⟨ji44, hji44⟩ : ∃ j_ : Int, (wrap64 ((wrap64 ((ji24) + t348)) + 1)) = j_ := ⟨_, rfl⟩
          replace H : (if 0 ≤ (ji44) then (if (ji44) < (a0.size : Int) then (r03_Parse.j6 kj14 a0 ji44 (a0.extract 0 (x5_1 : Int).toNat) y351 ((bt a0 (ji44)) == 125)) else (none)) else (none)) = some (r1, r2, r3) := by (rw [hji44] at H; exact H)
          (try rw [hji44] at c43b0)
          (try rw [hji44] at c43b1)
          have hji44w : (IntKind.i64.wrap ((wrap64 ((ji24) + t348)) + 1)) = ji44 := (i64_w _).trans hji44
          by_cases c45 : 0 ≤ (ji44)
          rotate_left
          ·rw [if_neg c45] at H
           exact absurd H (by simp)
          rw [if_pos c45] at H
          have c45b0 := decide_eq_true c45
          clear c45
          by_cases c46 : (ji44) < (a0.size : Int)
          rotate_left
          ·rw [if_neg c46] at H
           exact absurd H (by simp)
          rw [if_pos c46] at H
          have c46b0 := decide_eq_true c46
          clear c46
          have H' := A_ H
          clear H
          have p47 : 0 ≤ ((ji44) : Int) := od_
          have q47 : (ji44) < (a0.size : Int) := od_
          have hx47 := bt_at a0 (ji44)
          replace p47 := eq_true p47
          replace q47 := eq_true q47
          go_wp2
          go_meet
          case rel => exact ⟨_, (((bt a0 (ji44)) == 125)), (by rfl), (by (rw [hji44]; exact H')), ⟨by have := HJ1.out; have := HK2.out; have := HJ9.out; have := HJ14.out; omega⟩, ⟨rr_ HO353.out⟩, ⟨HB.out⟩⟩
         case rest =>
          clear HC40
          try clear c1
          try clear p1
          try clear q1
          try clear hx1
          try clear c2
          try clear p2
          try clear q2
          try clear hx2
          try clear c3
          try clear c3b0
          try clear c4
          try clear c4b0
          try clear p4
          try clear q4
          try clear hx4
          try clear p5
          try clear q5
          try clear hx5
          try clear c6
          try clear c6b0
          try clear c6b1
          try clear p6
          try clear c7
          try clear c7b0
          try clear c7b1
          try clear c8
          try clear c8b0
          try clear c8b1
          try clear c9
          try clear c9b0
          try clear c11
          try clear c11b0
          try clear c12
          try clear c12b0
          try clear p13
          try clear q13
          try clear hx13
          try clear c14
          try clear c14b0
          try clear c14b1
          try clear c16
          try clear c16b0
          try clear c18
          try clear c18b0
          try clear c19
          try clear c19b0
          try clear p20
          try clear q20
          try clear hx20
          try clear c21
          try clear c21b0
          try clear c21b1
          try clear c23
          try clear c25
          try clear c25b0
          try clear c25b1
          try clear c26
          try clear c26b0
          try clear c26b1
          try clear c28
          try clear c28b0
          try clear c30
          try clear c30b0
          try clear c30b1
          try clear c31
          try clear c31b0
          try clear c31b1
          try clear c32
          try clear c32b0
          try clear c32b1
          try clear c34
          try clear c36
          try clear c36b0
          try clear c36b1
          try clear c37
          try clear c37b0
          try clear c37b1
          try clear c38
          try clear c38b0
          try clear c38b1
          try clear c39
          try clear c43
          try clear c43b0
          try clear c43b1
          try clear c44
          try clear c45
          try clear c45b0
          try clear c46
          try clear c46b0
          try clear p47
          try clear q47
          try clear hx47
          try clear p1
          try clear p13
          try clear p2
          try clear p20
          try clear p47
          try clear p5
          try clear p6
          try clear q1
          try clear q13
          try clear q2
          try clear q20
          try clear q47
          try clear q5
          obtain ⟨kq, x110_39, rfl, HA, HJ39, HO_7, HB⟩ := hcut
          cases kq with
          | zero => exact absurd HA.out (by simp [r03_Parse.j6])
          | succ kj39 =>
           have H := HA.out
           clear HA
           simp only [r03_Parse.j6] at H
           by_cases c48 : x110_39 = true
           ·subst c48
            have H1 : ((r03_Name.f kj39 (a0.extract 0 (x5_1 : Int).toNat) y351).bind fun bt354 => (if bt354.2 = 0 then (if bt354.1.toList = a0.toList then (some ((a0.extract 0 (x5_1 : Int).toNat), y351, 0)) else (some ((⟨#[]⟩ : ByteArray), ([] : List (S96)), 5))) else (some ((⟨#[]⟩ : ByteArray), ([] : List (S96)), 5)))) = some (r1, r2, r3) := by rw [if_pos rfl] at H; exact H
            clear H
            have H := H1
            clear H1
            replace H := Option.bind_eq_some_iff.mp H
            obtain ⟨⟨t354, t355⟩, A490, H⟩ := H
            replace H : (if t355 = 0 then (if t354.toList = a0.toList then (some ((a0.extract 0 (x5_1 : Int).toNat), y351, 0)) else (some ((⟨#[]⟩ : ByteArray), ([] : List (S96)), 5))) else (some ((⟨#[]⟩ : ByteArray), ([] : List (S96)), 5))) = some (r1, r2, r3) := H
            have A49 := A_ A490
            clear A490
            by_cases c50 : t355 = 0
            rotate_left
            ·rw [if_neg c50] at H
             have c50b0 : (t355 == 0) = false := beq_eq_false_iff_ne.mpr c50
             have c50b1 : (t355 != 0) = true := bne_iff_ne.mpr c50
             simp only [Option.some.injEq, Prod.mk.injEq] at H
             obtain ⟨rfl, rfl, rfl⟩ := H
             obtain ⟨Ao56, co56, eo56⟩ := Kd.R_slice HO_7.out
             subst eo56
             go_wp2_with (first | ((with_reducible refine gate_callee (f := 45) rfl ?_); refine goesL_ (some 124) rfl rfl Tryz.func45 (by kernel_rfl) rfl #[.string (a0.extract 0 (x5_1 : Int).toNat), .slice Ao56 y351.length co56] rfl mp_ ?_; (with_reducible refine (r03_Name.calls kj39 (a0.extract 0 (x5_1 : Int).toNat) _ _ y351 t354 t355 _ ?side1 ?side2 A49.out).mono ?_); (case side1 => repeat (exact (Kd.R_reads' HO_7.out).2.2)); (case side2 => exact (Kd.R_reads' HO_7.out).2.1); rintro e w57 ⟨rfl, hb⟩; refine ⟨_, rfl, ?_⟩; have n0_ := A_ (Kd.R_below (rr_ HO_7.out) hb); have n1_ := A_ (below_step HB.out hb); clear HO_7; clear HB; have HO_7 := n0_; have HB := n1_; clear n0_ n1_; (try clear hb); (try clear hb2); (try clear hk); (try clear hi)))
             go_ret3
             exact ⟨_, by rfl, by exact Kd.R_nil _ _ _ _ _, HB.out⟩
            rw [if_pos c50] at H
            have c50b0 : (t355 == 0) = true := beq_iff_eq.mpr c50
            have c50b1 : (t355 != 0) = false := bne_eq_false_iff_eq.mpr c50
            clear c50
            by_cases c51 : t354.toList = a0.toList
            rotate_left
            ·rw [if_neg c51] at H
             have c51b0 : (t354.toList == a0.toList) = false := beq_eq_false_iff_ne.mpr c51
             have c51b1 : (t354.toList != a0.toList) = true := bne_iff_ne.mpr c51
             simp only [Option.some.injEq, Prod.mk.injEq] at H
             obtain ⟨rfl, rfl, rfl⟩ := H
             obtain ⟨Ao54, co54, eo54⟩ := Kd.R_slice HO_7.out
             subst eo54
             go_wp2_with (first | ((with_reducible refine gate_callee (f := 45) rfl ?_); refine goesL_ (some 124) rfl rfl Tryz.func45 (by kernel_rfl) rfl #[.string (a0.extract 0 (x5_1 : Int).toNat), .slice Ao54 y351.length co54] rfl mp_ ?_; (with_reducible refine (r03_Name.calls kj39 (a0.extract 0 (x5_1 : Int).toNat) _ _ y351 t354 t355 _ ?side1 ?side2 A49.out).mono ?_); (case side1 => repeat (exact (Kd.R_reads' HO_7.out).2.2)); (case side2 => exact (Kd.R_reads' HO_7.out).2.1); rintro e w55 ⟨rfl, hb⟩; refine ⟨_, rfl, ?_⟩; have n0_ := A_ (Kd.R_below (rr_ HO_7.out) hb); have n1_ := A_ (below_step HB.out hb); clear HO_7; clear HB; have HO_7 := n0_; have HB := n1_; clear n0_ n1_; (try clear hb); (try clear hb2); (try clear hk); (try clear hi)))
             go_ret3
             exact ⟨_, by rfl, by exact Kd.R_nil _ _ _ _ _, HB.out⟩
            rw [if_pos c51] at H
            have c51b0 : (t354.toList == a0.toList) = true := beq_iff_eq.mpr c51
            have c51b1 : (t354.toList != a0.toList) = false := bne_eq_false_iff_eq.mpr c51
            clear c51
            simp only [Option.some.injEq, Prod.mk.injEq] at H
            obtain ⟨rfl, rfl, rfl⟩ := H
            obtain ⟨Ao52, co52, eo52⟩ := Kd.R_slice HO_7.out
            subst eo52
            go_wp2_with (first | ((with_reducible refine gate_callee (f := 45) rfl ?_); refine goesL_ (some 124) rfl rfl Tryz.func45 (by kernel_rfl) rfl #[.string (a0.extract 0 (x5_1 : Int).toNat), .slice Ao52 y351.length co52] rfl mp_ ?_; (with_reducible refine (r03_Name.calls kj39 (a0.extract 0 (x5_1 : Int).toNat) _ _ y351 t354 t355 _ ?side1 ?side2 A49.out).mono ?_); (case side1 => repeat (exact (Kd.R_reads' HO_7.out).2.2)); (case side2 => exact (Kd.R_reads' HO_7.out).2.1); rintro e w53 ⟨rfl, hb⟩; refine ⟨_, rfl, ?_⟩; have n0_ := A_ (Kd.R_below (rr_ HO_7.out) hb); have n1_ := A_ (below_step HB.out hb); clear HO_7; clear HB; have HO_7 := n0_; have HB := n1_; clear n0_ n1_; (try clear hb); (try clear hb2); (try clear hk); (try clear hi)))
            go_ret3
            exact ⟨_, by rfl, rr_ HO_7.out, HB.out⟩
           replace c48 := Bool.eq_false_iff.mpr c48
           subst c48
           have H1 : (if (wrap64 ((wrap64 ((ji24) + t348)) + 1)) ≥ (a0.size : Int) then (some ((⟨#[]⟩ : ByteArray), ([] : List (S96)), 5)) else (if 0 ≤ (wrap64 ((wrap64 ((ji24) + t348)) + 1)) then (if (wrap64 ((wrap64 ((ji24) + t348)) + 1)) < (a0.size : Int) then (if (bt a0 (wrap64 ((wrap64 ((ji24) + t348)) + 1))) = 44 then (r03_Parse.l1 kj39 a0 (wrap64 ((wrap64 ((ji24) + t348)) + 1)) (a0.extract 0 (x5_1 : Int).toNat) y351) else (some ((⟨#[]⟩ : ByteArray), ([] : List (S96)), 5))) else (none)) else (none))) = some (r1, r2, r3) := by rw [if_neg (show ¬ (false = true) by decide)] at H; exact H
           clear H
           have H := H1
           clear H1
           by_cases c58 : (wrap64 ((wrap64 ((ji24) + t348)) + 1)) ≥ (a0.size : Int)
           ·rw [if_pos c58] at H
            have c58b0 := decide_eq_true c58
            clear c58
            simp only [Option.some.injEq, Prod.mk.injEq] at H
            obtain ⟨rfl, rfl, rfl⟩ := H
            go_wp2
            go_ret3
            exact ⟨_, by rfl, by exact Kd.R_nil _ _ _ _ _, HB.out⟩
           rw [if_neg c58] at H
           have c58b0 := decide_eq_false c58
           clear c58
           obtain ⟨ji59, hji59⟩ : ∃ j_ : Int, (wrap64 ((wrap64 ((ji24) + t348)) + 1)) = j_ := ⟨_, rfl⟩
           replace H : (if 0 ≤ (ji59) then (if (ji59) < (a0.size : Int) then (if (bt a0 (ji59)) = 44 then (r03_Parse.l1 kj39 a0 (ji59) (a0.extract 0 (x5_1 : Int).toNat) y351) else (some ((⟨#[]⟩ : ByteArray), ([] : List (S96)), 5))) else (none)) else (none)) = some (r1, r2, r3) := by (rw [hji59] at H; exact H)
           (try rw [hji59] at c58b0)
           have hji59w : (IntKind.i64.wrap ((wrap64 ((ji24) + t348)) + 1)) = ji59 := (i64_w _).trans hji59
           by_cases c60 : 0 ≤ (ji59)
           rotate_left
           ·rw [if_neg c60] at H
            exact absurd H (by simp)
           rw [if_pos c60] at H
           have c60b0 := decide_eq_true c60
           clear c60
           by_cases c61 : (ji59) < (a0.size : Int)
           rotate_left
           ·rw [if_neg c61] at H
            exact absurd H (by simp)
           rw [if_pos c61] at H
           have c61b0 := decide_eq_true c61
           clear c61
           by_cases c63 : (bt a0 (ji59)) = 44
           rotate_left
           ·rw [if_neg c63] at H
            have c63b0 : ((bt a0 (ji59)) == 44) = false := beq_eq_false_iff_ne.mpr c63
            have c63b1 : ((bt a0 (ji59)) != 44) = true := bne_iff_ne.mpr c63
            simp only [Option.some.injEq, Prod.mk.injEq] at H
            obtain ⟨rfl, rfl, rfl⟩ := H
            have p62 : 0 ≤ ((ji59) : Int) := od_
            have q62 : (ji59) < (a0.size : Int) := od_
            have hx62 := bt_at a0 (ji59)
            replace p62 := eq_true p62
            replace q62 := eq_true q62
            go_wp2
            go_ret3
            exact ⟨_, by rfl, by exact Kd.R_nil _ _ _ _ _, HB.out⟩
           rw [if_pos c63] at H
           have c63b0 : ((bt a0 (ji59)) == 44) = true := beq_iff_eq.mpr c63
           have c63b1 : ((bt a0 (ji59)) != 44) = false := bne_eq_false_iff_eq.mpr c63
           clear c63
           have H' := A_ H
           clear H
           have p62 : 0 ≤ ((ji59) : Int) := od_
           have q62 : (ji59) < (a0.size : Int) := od_
           have hx62 := bt_at a0 (ji59)
           replace p62 := eq_true p62
           replace q62 := eq_true q62
           go_wp2
           go_roundg kj39
           case measure => have := HJ1.out; have := HK2.out; have := HJ9.out; have := HJ14.out; have := HJ39.out; omega
           case rel => exact ⟨((ji59)), (y351), (by (simp only [← hji59] <;> (first | rfl | simp))), (by exact H'), ⟨by have := HJ1.out; have := HK2.out; have := HJ9.out; have := HJ14.out; have := HJ39.out; omega⟩, ⟨rr_ HO_7.out⟩, ⟨HB.out⟩⟩
end Go.Proofs.YtcikjeiebpmmcaaGreat.PMch
