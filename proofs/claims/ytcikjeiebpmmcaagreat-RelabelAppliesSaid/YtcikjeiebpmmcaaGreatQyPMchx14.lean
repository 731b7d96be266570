/- Pruned. -/
import Derived.Test.YtcikjeiebpmmcaaGreatQyPMchx0
import Derived.Test.YtcikjeiebpmmcaaGreatQyPMchx11
namespace Go.Proofs.YtcikjeiebpmmcaaGreat.PMch
open Go.RowKit Go.Proofs.YtcikjeiebpmmcaaGreatW.PrintWords Go.Proofs.YtcikjeiebpmmcaaGreatW.PrintLast Go.Proofs.YtcikjeiebpmmcaaGreatW.PrintMore
attribute [local go_sem] max2_int max_two
set_option linter.unusedVariables false
set_option linter.unusedSimpArgs false
mutual
def r03_may.l0 : Nat → List (S96) → Int → Option (Bool)
 | 0, _, _ => none
 | k + 1, x0, x3 => if x3 < (x0.length : Int) then (if 0 ≤ x3 then ((r03_IsWord.f k ((rd_T96 x0 x3).f0)).bind fun t266 => (if t266 = true then (r03_may.j1 k x0 x3 (decide ((((rd_T96 x0 x3).f1).size : Int) > 1024))) else (r03_may.j1 k x0 x3 true))) else (none)) else (some true)
def r03_may.j1 : Nat → List (S96) → Int → Bool → Option (Bool)
 | 0, _, _, _ => none
 | k + 1, x0, x3, x29 => if x29 = true then (some false) else (r03_may.l1 k x0 x3 0)
def r03_may.l1 : Nat → List (S96) → Int → Int → Option (Bool)
 | 0, _, _, _ => none
 | k + 1, x0, x3, x4 => if x4 < x3 then (if 0 ≤ x4 then (if x4 < (x0.length : Int) then (if 0 ≤ x3 then (if x3 < (x0.length : Int) then (if ((rd_T96 x0 x4).f0).toList = ((rd_T96 x0 x3).f0).toList then (some false) else (r03_may.l1 k x0 x3 (wrap64 (x4 + 1)))) else (none)) else (none)) else (none)) else (none)) else (r03_may.l0 k x0 (wrap64 (x3 + 1)))
end
def r03_may.f (k : Nat) (l0 : List (S96)) : Option (Bool) := if (l0.length : Int) > 16 then (some false) else (r03_may.l0 k l0 0)
theorem r03_may.mono_l : ∀ k, (∀ y0 y1, LeO (r03_may.l0 k y0 y1) (r03_may.l0 (k + 1) y0 y1)) ∧ (∀ y0 y1 y2, LeO (r03_may.j1 k y0 y1 y2) (r03_may.j1 (k + 1) y0 y1 y2)) ∧ (∀ y0 y1 y2, LeO (r03_may.l1 k y0 y1 y2) (r03_may.l1 (k + 1) y0 y1 y2))
 | 0 => ⟨fun _ _ r h => by simp [r03_may.l0] at h, fun _ _ _ r h => by simp [r03_may.j1] at h, fun _ _ _ r h => by simp [r03_may.l1] at h⟩
 | k + 1 => by
  obtain ⟨ih0, ih1, ih2⟩ := r03_may.mono_l k
  refine ⟨?_, ?_, ?_⟩
  rotate_left
  ·intro y0 y1 y2
   unfold r03_may.j1
   repeat' first
   | (with_reducible first | exact ih0 _ _ | exact ih1 _ _ _ | exact ih2 _ _ _ | exact r03_IsWord.mono _ _ | exact LeO.refl _ | exact LeO.none _ | refine LeO.ite ?_ ?_ | refine LeO.bind ?_ (fun _ => ?_))
  ·intro y0 y1 y2
   unfold r03_may.l1
   repeat' first
   | (with_reducible first | exact ih0 _ _ | exact ih1 _ _ _ | exact ih2 _ _ _ | exact r03_IsWord.mono _ _ | exact LeO.refl _ | exact LeO.none _ | refine LeO.ite ?_ ?_ | refine LeO.bind ?_ (fun _ => ?_))
  intro y0 y1
  unfold r03_may.l0
  repeat' first
  | (with_reducible first | exact ih0 _ _ | exact ih1 _ _ _ | exact ih2 _ _ _ | exact r03_IsWord.mono _ _ | exact LeO.refl _ | exact LeO.none _ | refine LeO.ite ?_ ?_ | refine LeO.bind ?_ (fun _ => ?_))
theorem r03_may.mono : ∀ a0 k, LeO (r03_may.f k a0) (r03_may.f (k + 1) a0) := by
 intro a0 k
 obtain ⟨ih0, ih1, ih2⟩ := r03_may.mono_l k
 unfold r03_may.f
 repeat' first
  | (with_reducible first | exact ih0 _ _ | exact ih1 _ _ _ | exact ih2 _ _ _ | exact r03_IsWord.mono _ _ | exact LeO.refl _ | exact LeO.none _ | refine LeO.ite ?_ ?_ | refine LeO.bind ?_ (fun _ => ?_))
set_option maxHeartbeats 8000000 in
set_option maxRecDepth 100000 in
theorem r03_may.calls (k : Nat) (A0 : Option Addr) (c0 : Nat) (l0 : List (S96)) (r : Bool) (w : World) (hr0 : Kd.C k96 w A0 l0.length l0) (hc0 : l0.length ≤ c0) (h : r03_may.f k l0 = some r) :
 Calls Tryz.prog 70 #[.slice A0 l0.length c0] w fun e w' => e = .returned (.bool r) ∧ Drawn0 w w' := by
 have HR0 := A_ hr0
 have HC0 := A_ hc0
 clear hr0 hc0
 have H : (if (l0.length : Int) > 16 then (some false) else (r03_may.l0 k l0 0)) = some r := h
 clear h
 by_cases c2 : (l0.length : Int) > 16
 ·rw [if_pos c2] at H
  have c2b0 := decide_eq_true c2
  have c2b1 : decide (16 < l0.length) = true := decide_eq_true (by omega)
  clear c2
  obtain rfl := Option.some.inj H
  go_enter Tryz.func70, Tryz.ntmps70
  go_wp2
  repeat (go_quiet (fail); try go_wp2)
  go_ret
  exact ⟨by rfl, by repeat (exact Drawn0.refl _)⟩
 rw [if_neg c2] at H
 have c2b0 := decide_eq_false c2
 have c2b1 : decide (16 < l0.length) = false := decide_eq_false (by omega)
 clear c2
 have H' := A_ H
 clear H
 go_enter Tryz.func70, Tryz.ntmps70
 go_wp2
 repeat (go_quiet (fail); try go_wp2)
 go_loopg [3] k (fun kq v3 w' => ∃ (x3_1 : Int), v3 = .int .i64 x3_1 ∧ Aside0 (r03_may.l0 kq l0 x3_1 = some r) ∧ Aside0 (kq ≤ k) ∧ Drawn0 w w')
 case atStart => exact ⟨(0), (by rfl), H', ⟨Nat.le_refl _⟩, by repeat (exact Drawn0.refl _)⟩
 case round =>
  clear H'
  try clear c2
  try clear c2b0
  try clear c2b1
  try clear p2
  obtain ⟨x3_1, rfl, HA, HK1, ⟨m1, rfl⟩⟩ := hrel
  cases gk with
  | zero => exact absurd HA.out (by simp [r03_may.l0])
  | succ k1 =>
   have H := HA.out
   clear HA
   simp only [r03_may.l0] at H
   by_cases c3 : x3_1 < (l0.length : Int)
   rotate_left
   ·rw [if_neg c3] at H
    have c3b0 := decide_eq_false c3
    clear c3
    obtain rfl := Option.some.inj H
    go_wp2
    repeat (go_quiet (fail); try go_wp2)
    go_ret
    exact ⟨by rfl, by repeat (first | exact Drawn0.refl _ | apply Drawn0.step)⟩
   rw [if_pos c3] at H
   have c3b0 := decide_eq_true c3
   clear c3
   have HC4 := A_ H
   clear H
   go_upto_region 6 with (fail)
   repeat (go_quiet (fail); go_upto_region 6 with (fail))
   go_cut [29] (fun v29 wc => ∃ (kq : Nat) (x29_3 : Bool), v29 = .bool x29_3 ∧ Aside0 (r03_may.j1 kq l0 x3_1 x29_3 = some r) ∧ Aside0 (kq ≤ k1) ∧ Drawn0 w wc)
   case first =>
    have H := HC4.out
    clear HC4
    by_cases c5 : 0 ≤ x3_1
    rotate_left
    ·rw [if_neg c5] at H
     exact absurd H (by simp)
    rw [if_pos c5] at H
    have c5b0 := decide_eq_true c5
    clear c5
    (skip)
    replace H := Option.bind_eq_some_iff.mp H
    obtain ⟨t266, A60, H⟩ := H
    replace H : (if t266 = true then (r03_may.j1 k1 l0 x3_1 (decide ((((rd_T96 l0 x3_1).f1).size : Int) > 1024))) else (r03_may.j1 k1 l0 x3_1 true)) = some r := H
    have A6 := A_ A60
    clear A60
    by_cases c7 : t266 = true
    ·subst c7
     have H1 : (r03_may.j1 k1 l0 x3_1 (decide ((((rd_T96 l0 x3_1).f1).size : Int) > 1024))) = some r := by rw [if_pos rfl] at H; exact H
     clear H
     have H := H1
     clear H1
     have H' := A_ H
     clear H
     have p265 : 0 ≤ (x3_1 : Int) := od_
     have q265 : x3_1 < (l0.length : Int) := od_
     obtain ⟨ad265, e265, hx265_0, hx265_1⟩ := at_T96 HR0.out x3_1 p265 q265
     cases e265
     replace p265 := eq_true p265
     replace q265 := eq_true q265
     go_wp2_with (first | (go_at_call 78; (with_reducible refine (r03_IsWord.calls k1 ((rd_T96 l0 x3_1).f0) true _ A6.out).mono ?_); rintro e w' ⟨rfl, ⟨nd, rfl⟩⟩; (try first | exact ⟨rfl, _, World.drewN_drewN _ _ _⟩ | exact ⟨rfl, _, Eq.trans (World.drewN_drewN _ _ _) (congrArg (World.drewN _) (Nat.add_assoc _ _ _))⟩); have p267 : 0 ≤ (x3_1 : Int) := od_; have q267 : x3_1 < (l0.length : Int) := od_; obtain ⟨ad267, e267, hx267_0, hx267_1⟩ := at_T96 HR0.out x3_1 p267 q267; obtain rfl : ad265 = ad267 := (by injection e267); replace p267 := eq_true p267; replace q267 := eq_true q267))
     repeat (go_quiet (first | (go_at_call 78; (with_reducible refine (r03_IsWord.calls k1 ((rd_T96 l0 x3_1).f0) true _ A6.out).mono ?_); rintro e w' ⟨rfl, ⟨nd, rfl⟩⟩; (try first | exact ⟨rfl, _, World.drewN_drewN _ _ _⟩ | exact ⟨rfl, _, Eq.trans (World.drewN_drewN _ _ _) (congrArg (World.drewN _) (Nat.add_assoc _ _ _))⟩); have p267 : 0 ≤ (x3_1 : Int) := of_decide_eq_true (by first | (with_reducible assumption) | assumption); have q267 : x3_1 < (l0.length : Int) := of_decide_eq_true (by first | (with_reducible assumption) | assumption); obtain ⟨ad267, e267, hx267_0, hx267_1⟩ := at_T96 HR0.out x3_1 p267 q267; obtain rfl : ad265 = ad267 := (by injection e267); replace p267 := eq_true p267; replace q267 := eq_true q267)); try go_wp2_with (first | (go_at_call 78; (with_reducible refine (r03_IsWord.calls k1 ((rd_T96 l0 x3_1).f0) true _ A6.out).mono ?_); rintro e w' ⟨rfl, ⟨nd, rfl⟩⟩; (try first | exact ⟨rfl, _, World.drewN_drewN _ _ _⟩ | exact ⟨rfl, _, Eq.trans (World.drewN_drewN _ _ _) (congrArg (World.drewN _) (Nat.add_assoc _ _ _))⟩); have p267 : 0 ≤ (x3_1 : Int) := of_decide_eq_true (by first | (with_reducible assumption) | assumption); have q267 : x3_1 < (l0.length : Int) := of_decide_eq_true (by first | (with_reducible assumption) | assumption); obtain ⟨ad267, e267, hx267_0, hx267_1⟩ := at_T96 HR0.out x3_1 p267 q267; obtain rfl : ad265 = ad267 := (by injection e267); replace p267 := eq_true p267; replace q267 := eq_true q267)))
     go_meet
     case rel => exact ⟨_, (decide ((((rd_T96 l0 x3_1).f1).size : Int) > 1024)), (by rfl), H', ⟨by have := HK1.out; omega⟩, by repeat (first | exact Drawn0.refl _ | apply Drawn0.step)⟩
    replace c7 := Bool.eq_false_iff.mpr c7
    subst c7
    have H1 : (r03_may.j1 k1 l0 x3_1 true) = some r := by rw [if_neg (show ¬ (false = true) by decide)] at H; exact H
    clear H
    have H := H1
    clear H1
    have H' := A_ H
    clear H
    have p265 : 0 ≤ (x3_1 : Int) := od_
    have q265 : x3_1 < (l0.length : Int) := od_
    obtain ⟨ad265, e265, hx265_0, hx265_1⟩ := at_T96 HR0.out x3_1 p265 q265
    cases e265
    replace p265 := eq_true p265
    replace q265 := eq_true q265
    go_wp2_with (first | (go_at_call 78; (with_reducible refine (r03_IsWord.calls k1 ((rd_T96 l0 x3_1).f0) false _ A6.out).mono ?_); rintro e w' ⟨rfl, ⟨nd, rfl⟩⟩; (try first | exact ⟨rfl, _, World.drewN_drewN _ _ _⟩ | exact ⟨rfl, _, Eq.trans (World.drewN_drewN _ _ _) (congrArg (World.drewN _) (Nat.add_assoc _ _ _))⟩)))
    repeat (go_quiet (first | (go_at_call 78; (with_reducible refine (r03_IsWord.calls k1 ((rd_T96 l0 x3_1).f0) false _ A6.out).mono ?_); rintro e w' ⟨rfl, ⟨nd, rfl⟩⟩; (try first | exact ⟨rfl, _, World.drewN_drewN _ _ _⟩ | exact ⟨rfl, _, Eq.trans (World.drewN_drewN _ _ _) (congrArg (World.drewN _) (Nat.add_assoc _ _ _))⟩))); try go_wp2_with (first | (go_at_call 78; (with_reducible refine (r03_IsWord.calls k1 ((rd_T96 l0 x3_1).f0) false _ A6.out).mono ?_); rintro e w' ⟨rfl, ⟨nd, rfl⟩⟩; (try first | exact ⟨rfl, _, World.drewN_drewN _ _ _⟩ | exact ⟨rfl, _, Eq.trans (World.drewN_drewN _ _ _) (congrArg (World.drewN _) (Nat.add_assoc _ _ _))⟩))))
    go_meet
    case rel => exact ⟨_, (true), (by rfl), H', ⟨by have := HK1.out; omega⟩, by repeat (first | exact Drawn0.refl _ | apply Drawn0.step)⟩
   case rest =>
    clear HC4
    try clear c2
    try clear c2b0
    try clear c2b1
    try clear p2
    try clear q2
    try clear hx2
    try clear c3
    try clear c3b0
    try clear c5
    try clear c5b0
    try clear c7
    try clear hx265_0
    try clear hx265_1
    try clear hx267_0
    try clear hx267_1
    try clear p2
    try clear p265
    try clear p267
    try clear q265
    try clear q267
    obtain ⟨kq, x29_3, rfl, HA, HJ3, ⟨mc3, rfl⟩⟩ := hcut
    cases kq with
    | zero => exact absurd HA.out (by simp [r03_may.j1])
    | succ kj3 =>
     have H := HA.out
     clear HA
     simp only [r03_may.j1] at H
     by_cases c8 : x29_3 = true
     ·subst c8
      have H1 : (some false) = some r := by rw [if_pos rfl] at H; exact H
      clear H
      have H := H1
      clear H1
      obtain rfl := Option.some.inj H
      go_wp2
      repeat (go_quiet (fail); try go_wp2)
      go_ret
      exact ⟨by rfl, by repeat (first | exact Drawn0.refl _ | apply Drawn0.step)⟩
     replace c8 := Bool.eq_false_iff.mpr c8
     subst c8
     have H1 : (r03_may.l1 kj3 l0 x3_1 0) = some r := by rw [if_neg (show ¬ (false = true) by decide)] at H; exact H
     clear H
     have H := H1
     clear H1
     have H' := A_ H
     clear H
     go_wp2
     repeat (go_quiet (fail); try go_wp2)
     go_loopg [4] kj3 (fun kq v4 w' => ∃ (x4_3 : Int), v4 = .int .i64 x4_3 ∧ Aside0 (r03_may.l1 kq l0 x3_1 x4_3 = some r) ∧ Aside0 (kq ≤ kj3) ∧ Drawn0 w w')
     case atStart => exact ⟨(0), (by rfl), H', ⟨Nat.le_refl _⟩, by repeat (first | exact Drawn0.refl _ | apply Drawn0.step)⟩
     case round =>
      clear H'
      try clear c2
      try clear c2b0
      try clear c2b1
      try clear p2
      try clear q2
      try clear hx2
      try clear c3
      try clear c3b0
      try clear c5
      try clear c5b0
      try clear c7
      try clear c8
      try clear hx265_0
      try clear hx265_1
      try clear hx267_0
      try clear hx267_1
      try clear p2
      try clear p265
      try clear p267
      try clear q2
      try clear q265
      try clear q267
      obtain ⟨x4_3, rfl, HA, HK3, ⟨m3, rfl⟩⟩ := hrel
      cases gk with
      | zero => exact absurd HA.out (by simp [r03_may.l1])
      | succ k3 =>
       have H := HA.out
       clear HA
       simp only [r03_may.l1] at H
       by_cases c9 : x4_3 < x3_1
       rotate_left
       ·rw [if_neg c9] at H
        have c9b0 := decide_eq_false c9
        clear c9
        have H' := A_ H
        clear H
        go_wp2
        repeat (go_quiet (fail); try go_wp2)
        go_roundg k3
        case measure => have := HK1.out; have := HJ3.out; have := HK3.out; omega
        case rel => exact ⟨(wrap64 (x3_1 + 1)), (by rfl), H', ⟨by have := HK1.out; have := HJ3.out; have := HK3.out; omega⟩, by repeat (first | exact Drawn0.refl _ | apply Drawn0.step)⟩
       rw [if_pos c9] at H
       have c9b0 := decide_eq_true c9
       clear c9
       by_cases c10 : 0 ≤ x4_3
       rotate_left
       ·rw [if_neg c10] at H
        exact absurd H (by simp)
       rw [if_pos c10] at H
       have c10b0 := decide_eq_true c10
       clear c10
       by_cases c11 : x4_3 < (l0.length : Int)
       rotate_left
       ·rw [if_neg c11] at H
        exact absurd H (by simp)
       rw [if_pos c11] at H
       have c11b0 := decide_eq_true c11
       clear c11
       by_cases c12 : 0 ≤ x3_1
       rotate_left
       ·rw [if_neg c12] at H
        exact absurd H (by simp)
       rw [if_pos c12] at H
       have c12b0 := decide_eq_true c12
       clear c12
       by_cases c13 : x3_1 < (l0.length : Int)
       rotate_left
       ·rw [if_neg c13] at H
        exact absurd H (by simp)
       rw [if_pos c13] at H
       have c13b0 := decide_eq_true c13
       clear c13
       by_cases c14 : ((rd_T96 l0 x4_3).f0).toList = ((rd_T96 l0 x3_1).f0).toList
       ·rw [if_pos c14] at H
        have c14b0 : (((rd_T96 l0 x4_3).f0).toList == ((rd_T96 l0 x3_1).f0).toList) = true := beq_iff_eq.mpr c14
        have c14b1 : (((rd_T96 l0 x4_3).f0).toList != ((rd_T96 l0 x3_1).f0).toList) = false := bne_eq_false_iff_eq.mpr c14
        clear c14
        obtain rfl := Option.some.inj H
        have p268 : 0 ≤ (x4_3 : Int) := od_
        have q268 : x4_3 < (l0.length : Int) := od_
        obtain ⟨ad268, e268, hx268_0, hx268_1⟩ := at_T96 HR0.out x4_3 p268 q268
        cases e268
        replace p268 := eq_true p268
        replace q268 := eq_true q268
        have p269 : 0 ≤ (x3_1 : Int) := od_
        have q269 : x3_1 < (l0.length : Int) := od_
        obtain ⟨ad269, e269, hx269_0, hx269_1⟩ := at_T96 HR0.out x3_1 p269 q269
        obtain rfl : ad268 = ad269 := (by injection e269)
        replace p269 := eq_true p269
        replace q269 := eq_true q269
        go_wp2
        repeat (go_quiet (fail); try go_wp2)
        go_ret
        exact ⟨by rfl, by repeat (first | exact Drawn0.refl _ | apply Drawn0.step)⟩
       rw [if_neg c14] at H
       have c14b0 : (((rd_T96 l0 x4_3).f0).toList == ((rd_T96 l0 x3_1).f0).toList) = false := beq_eq_false_iff_ne.mpr c14
       have c14b1 : (((rd_T96 l0 x4_3).f0).toList != ((rd_T96 l0 x3_1).f0).toList) = true := bne_iff_ne.mpr c14
       have H' := A_ H
       clear H
       have p268 : 0 ≤ (x4_3 : Int) := od_
       have q268 : x4_3 < (l0.length : Int) := od_
       obtain ⟨ad268, e268, hx268_0, hx268_1⟩ := at_T96 HR0.out x4_3 p268 q268
       cases e268
       replace p268 := eq_true p268
       replace q268 := eq_true q268
       have p269 : 0 ≤ (x3_1 : Int) := od_
       have q269 : x3_1 < (l0.length : Int) := od_
       obtain ⟨ad269, e269, hx269_0, hx269_1⟩ := at_T96 HR0.out x3_1 p269 q269
       obtain rfl : ad268 = ad269 := (by injection e269)
       replace p269 := eq_true p269
       replace q269 := eq_true q269
       go_wp2
       repeat (go_quiet (fail); try go_wp2)
       go_roundg k3
       case measure => have := HK1.out; have := HJ3.out; have := HK3.out; omega
       case rel => exact ⟨(wrap64 (x4_3 + 1)), (by rfl), H', ⟨by have := HK1.out; have := HJ3.out; have := HK3.out; omega⟩, by repeat (first | exact Drawn0.refl _ | apply Drawn0.step)⟩
end Go.Proofs.YtcikjeiebpmmcaaGreat.PMch
