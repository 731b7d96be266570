/- Pruned. -/
import Derived.Test.YtcikjeiebpmmcaaGreatQyPMchx0
import Derived.Test.YtcikjeiebpmmcaaGreatQyPMchx12
namespace Go.Proofs.YtcikjeiebpmmcaaGreat.PMch
open Go.RowKit Go.Proofs.YtcikjeiebpmmcaaGreatW.PrintWords Go.Proofs.YtcikjeiebpmmcaaGreatW.PrintLast Go.Proofs.YtcikjeiebpmmcaaGreatW.PrintMore
attribute [local go_sem] max2_int max_two
set_option linter.unusedVariables false
set_option linter.unusedSimpArgs false
def r29_May.l0 : Nat → List (S43) → Int → Option (Bool)
 | 0, _, _ => none
 | k + 1, x0, x3 => if x3 < (x0.length : Int) then (if 0 ≤ x3 then ((r29_One.f k ((rd_T43 x0 x3).f0) ((rd_T43 x0 x3).f1) ((rd_T43 x0 x3).f2) ((rd_T43 x0 x3).f3) ((rd_T43 x0 x3).f4)).bind fun t252 => (if t252 = true then (r29_May.l0 k x0 (wrap64 (x3 + 1))) else (some false))) else (none)) else (some true)
def r29_May.f (k : Nat) (l0 : List (S43)) : Option (Bool) := r29_May.l0 k l0 0
theorem r29_May.mono_l : ∀ k, (∀ y0 y1, LeO (r29_May.l0 k y0 y1) (r29_May.l0 (k + 1) y0 y1))
 | 0 => fun _ _ r h => by simp [r29_May.l0] at h
 | k + 1 => by
  have ih0 := r29_May.mono_l k
  ·intro y0 y1
   unfold r29_May.l0
   repeat' first
   | (with_reducible first | exact ih0 _ _ | exact r29_One.mono _ _ _ _ _ _ | exact LeO.refl _ | exact LeO.none _ | refine LeO.ite ?_ ?_ | refine LeO.bind ?_ (fun _ => ?_))
set_option maxHeartbeats 8000000 in
set_option maxRecDepth 100000 in
theorem r29_May.calls (k : Nat) (A0 : Option Addr) (c0 : Nat) (l0 : List (S43)) (r : Bool) (w : World) (hr0 : Kd.C k43 w A0 l0.length l0) (hc0 : l0.length ≤ c0) (h : r29_May.f k l0 = some r) :
 Calls Tryz.prog 18 #[.slice A0 l0.length c0] w fun e w' => e = .returned (.bool r) ∧ Below w.heap.size w w' := by
 have hu43 := Tryz.underlying43
 have HR0 := A_ hr0
 have HC0 := A_ hc0
 clear hr0 hc0
 have HB := A_ (Below.refl w.heap.size w)
 have H : (r29_May.l0 k l0 0) = some r := h
 clear h
 have H' := A_ H
 clear H
 go_enter Tryz.func18, Tryz.ntmps18
 go_wp2
 go_loopg [3] k (fun kq v3 w' => ∃ (x3_1 : Int), v3 = .int .i64 x3_1 ∧ Aside0 (r29_May.l0 kq l0 x3_1 = some r) ∧ Aside0 (kq ≤ k) ∧ Aside0 (Below w.heap.size w w'))
 case atStart => exact ⟨(0), (by rfl), H', ⟨Nat.le_refl _⟩, ⟨HB.out⟩⟩
 case round =>
  clear H'
  try clear c1
  obtain ⟨x3_1, rfl, HA, HK1, HB⟩ := hrel
  cases gk with
  | zero => exact absurd HA.out (by simp [r29_May.l0])
  | succ k1 =>
   have H := HA.out
   clear HA
   simp only [r29_May.l0] at H
   by_cases c2 : x3_1 < (l0.length : Int)
   rotate_left
   ·rw [if_neg c2] at H
    have c2b0 := decide_eq_false c2
    clear c2
    obtain rfl := Option.some.inj H
    go_wp2
    go_ret
    exact ⟨by rfl, HB.out⟩
   rw [if_pos c2] at H
   have c2b0 := decide_eq_true c2
   clear c2
   by_cases c3 : 0 ≤ x3_1
   rotate_left
   ·rw [if_neg c3] at H
    exact absurd H (by simp)
   rw [if_pos c3] at H
   have c3b0 := decide_eq_true c3
   clear c3
   replace H := Option.bind_eq_some_iff.mp H
   obtain ⟨t252, A40, H⟩ := H
   replace H : (if t252 = true then (r29_May.l0 k1 l0 (wrap64 (x3_1 + 1))) else (some false)) = some r := H
   have A4 := A_ A40
   clear A40
   by_cases c5 : t252 = true
   rotate_left
   ·replace c5 := Bool.eq_false_iff.mpr c5
    subst c5
    have H1 : (some false) = some r := by rw [if_neg (show ¬ (false = true) by decide)] at H; exact H
    clear H
    have H := H1
    clear H1
    obtain rfl := Option.some.inj H
    have p251 : 0 ≤ (x3_1 : Int) := od_
    have q251 : x3_1 < (l0.length : Int) := od_
    obtain ⟨ad251, e251, hx251_0, hx251_1, hx251_2, hx251_3, hx251_4⟩ := at_T43 HR0.out x3_1 p251 q251
    cases e251
    replace hx251_0 := (HB.out.cell (World.block_lt_of_cell? w _ hx251_0)).trans hx251_0
    replace hx251_1 := (HB.out.cell (World.block_lt_of_cell? w _ hx251_1)).trans hx251_1
    replace hx251_2 := (HB.out.cell (World.block_lt_of_cell? w _ hx251_2)).trans hx251_2
    replace hx251_3 := (HB.out.cell (World.block_lt_of_cell? w _ hx251_3)).trans hx251_3
    replace hx251_4 := (HB.out.cell (World.block_lt_of_cell? w _ hx251_4)).trans hx251_4
    replace p251 := eq_true p251
    replace q251 := eq_true q251
    go_wp2_with (first | ((with_reducible refine gate_callee (f := 36) rfl ?_); refine goesL_ (some 14) rfl rfl Tryz.func36 (by kernel_rfl) rfl #[.agg #[.int .i64 ((rd_T43 l0 x3_1).f0), .string ((rd_T43 l0 x3_1).f1), .string ((rd_T43 l0 x3_1).f2), .string ((rd_T43 l0 x3_1).f3), .string ((rd_T43 l0 x3_1).f4)]] rfl mp_ ?_; (with_reducible refine (r29_One.calls k1 ((rd_T43 l0 x3_1).f0) ((rd_T43 l0 x3_1).f1) ((rd_T43 l0 x3_1).f2) ((rd_T43 l0 x3_1).f3) ((rd_T43 l0 x3_1).f4) false _ A4.out).mono ?_); rintro e w7 ⟨rfl, hb⟩; refine ⟨_, rfl, ?_⟩; have n0_ := A_ (below_step HB.out hb); clear HB; have HB := n0_; clear n0_; (try clear hb); (try clear hb2); (try clear hk); (try clear hi)))
    go_ret
    exact ⟨by rfl, HB.out⟩
   subst c5
   have H1 : (r29_May.l0 k1 l0 (wrap64 (x3_1 + 1))) = some r := by rw [if_pos rfl] at H; exact H
   clear H
   have H := H1
   clear H1
   have H' := A_ H
   clear H
   have p251 : 0 ≤ (x3_1 : Int) := od_
   have q251 : x3_1 < (l0.length : Int) := od_
   obtain ⟨ad251, e251, hx251_0, hx251_1, hx251_2, hx251_3, hx251_4⟩ := at_T43 HR0.out x3_1 p251 q251
   cases e251
   replace hx251_0 := (HB.out.cell (World.block_lt_of_cell? w _ hx251_0)).trans hx251_0
   replace hx251_1 := (HB.out.cell (World.block_lt_of_cell? w _ hx251_1)).trans hx251_1
   replace hx251_2 := (HB.out.cell (World.block_lt_of_cell? w _ hx251_2)).trans hx251_2
   replace hx251_3 := (HB.out.cell (World.block_lt_of_cell? w _ hx251_3)).trans hx251_3
   replace hx251_4 := (HB.out.cell (World.block_lt_of_cell? w _ hx251_4)).trans hx251_4
   replace p251 := eq_true p251
   replace q251 := eq_true q251
   go_wp2_with (first | ((with_reducible refine gate_callee (f := 36) rfl ?_); refine goesL_ (some 14) rfl rfl Tryz.func36 (by kernel_rfl) rfl #[.agg #[.int .i64 ((rd_T43 l0 x3_1).f0), .string ((rd_T43 l0 x3_1).f1), .string ((rd_T43 l0 x3_1).f2), .string ((rd_T43 l0 x3_1).f3), .string ((rd_T43 l0 x3_1).f4)]] rfl mp_ ?_; (with_reducible refine (r29_One.calls k1 ((rd_T43 l0 x3_1).f0) ((rd_T43 l0 x3_1).f1) ((rd_T43 l0 x3_1).f2) ((rd_T43 l0 x3_1).f3) ((rd_T43 l0 x3_1).f4) true _ A4.out).mono ?_); rintro e w6 ⟨rfl, hb⟩; refine ⟨_, rfl, ?_⟩; have n0_ := A_ (below_step HB.out hb); clear HB; have HB := n0_; clear n0_; (try clear hb); (try clear hb2); (try clear hk); (try clear hi)))
   go_roundg k1
   case measure => have := HK1.out; omega
   case rel => exact ⟨(wrap64 (x3_1 + 1)), (by rfl), H', ⟨by have := HK1.out; omega⟩, ⟨HB.out⟩⟩
def r03_quoted.l0 : Nat → ByteArray → Int → Option (Int)
 | 0, _, _ => none
 | k + 1, x0, x3 => if x3 < (x0.size : Int) then (if 0 ≤ x3 then (if (bt x0 x3) = 92 then (r03_quoted.l0 k x0 (wrap64 ((wrap64 (x3 + 1)) + 1))) else (if (bt x0 x3) = 34 then (some x3) else (r03_quoted.l0 k x0 (wrap64 (x3 + 1))))) else (none)) else (some (-1))
def r03_quoted.f (k : Nat) (a0 : ByteArray) : Option (Int) := r03_quoted.l0 k a0 1
theorem r03_quoted.mono_l : ∀ k, (∀ y0 y1, LeO (r03_quoted.l0 k y0 y1) (r03_quoted.l0 (k + 1) y0 y1))
 | 0 => fun _ _ r h => by simp [r03_quoted.l0] at h
 | k + 1 => by
  have ih0 := r03_quoted.mono_l k
  ·intro y0 y1
   unfold r03_quoted.l0
   repeat' first
   | (with_reducible first | exact ih0 _ _ | exact LeO.refl _ | exact LeO.none _ | refine LeO.ite ?_ ?_ | refine LeO.bind ?_ (fun _ => ?_))
theorem r03_quoted.mono : ∀ a0 k, LeO (r03_quoted.f k a0) (r03_quoted.f (k + 1) a0) := by
 intro a0 k
 have ih0 := r03_quoted.mono_l k
 unfold r03_quoted.f
 repeat' first
  | (with_reducible first | exact ih0 _ _ | exact LeO.refl _ | exact LeO.none _ | refine LeO.ite ?_ ?_ | refine LeO.bind ?_ (fun _ => ?_))
set_option maxHeartbeats 8000000 in
set_option maxRecDepth 100000 in
theorem r03_quoted.calls (k : Nat) (a0 : ByteArray) (r : Int) (w : World) (h : r03_quoted.f k a0 = some r) :
 Calls Tryz.prog 43 #[.string a0] w fun e w' => e = .returned (.int .i64 r) ∧ Drawn0 w w' := by
 have H : (r03_quoted.l0 k a0 1) = some r := h
 clear h
 have H' := A_ H
 clear H
 go_enter Tryz.func43, Tryz.ntmps43
 go_wp2
 go_loopg [3] k (fun kq v3 w' => ∃ (x3_1 : Int), v3 = .int .i64 x3_1 ∧ Aside0 (r03_quoted.l0 kq a0 x3_1 = some r) ∧ Aside0 (kq ≤ k) ∧ Drawn0 w w')
 case atStart => exact ⟨(1), (by rfl), H', ⟨Nat.le_refl _⟩, by repeat (exact Drawn0.refl _)⟩
 case round =>
  clear H'
  obtain ⟨x3_1, rfl, HA, HK1, ⟨m1, rfl⟩⟩ := hrel
  cases gk with
  | zero => exact absurd HA.out (by simp [r03_quoted.l0])
  | succ k1 =>
   have H := HA.out
   clear HA
   simp only [r03_quoted.l0] at H
   by_cases c2 : x3_1 < (a0.size : Int)
   rotate_left
   ·rw [if_neg c2] at H
    have c2b0 := decide_eq_false c2
    clear c2
    obtain rfl := Option.some.inj H
    go_wp2
    go_ret
    exact ⟨by rfl, by repeat (first | exact Drawn0.refl _ | apply Drawn0.step)⟩
   rw [if_pos c2] at H
   have c2b0 := decide_eq_true c2
   clear c2
   by_cases c3 : 0 ≤ x3_1
   rotate_left
   ·rw [if_neg c3] at H
    exact absurd H (by simp)
   rw [if_pos c3] at H
   have c3b0 := decide_eq_true c3
   clear c3
   by_cases c5 : (bt a0 x3_1) = 92
   ·rw [if_pos c5] at H
    have c5b0 : ((bt a0 x3_1) == 92) = true := beq_iff_eq.mpr c5
    have c5b1 : ((bt a0 x3_1) != 92) = false := bne_eq_false_iff_eq.mpr c5
    clear c5
    have H' := A_ H
    clear H
    have p4 : 0 ≤ (x3_1 : Int) := od_
    have q4 : x3_1 < (a0.size : Int) := od_
    have hx4 := bt_at a0 x3_1
    replace p4 := eq_true p4
    replace q4 := eq_true q4
    go_wp2
    go_roundg k1
    case measure => have := HK1.out; omega
    case rel => exact ⟨(wrap64 ((wrap64 (x3_1 + 1)) + 1)), (by rfl), H', ⟨by have := HK1.out; omega⟩, by repeat (first | exact Drawn0.refl _ | apply Drawn0.step)⟩
   rw [if_neg c5] at H
   have c5b0 : ((bt a0 x3_1) == 92) = false := beq_eq_false_iff_ne.mpr c5
   have c5b1 : ((bt a0 x3_1) != 92) = true := bne_iff_ne.mpr c5
   by_cases c7 : (bt a0 x3_1) = 34
   ·rw [if_pos c7] at H
    have c7b0 : ((bt a0 x3_1) == 34) = true := beq_iff_eq.mpr c7
    have c7b1 : ((bt a0 x3_1) != 34) = false := bne_eq_false_iff_eq.mpr c7
    clear c7
    obtain rfl := Option.some.inj H
    have p4 : 0 ≤ (x3_1 : Int) := od_
    have q4 : x3_1 < (a0.size : Int) := od_
    have hx4 := bt_at a0 x3_1
    replace p4 := eq_true p4
    replace q4 := eq_true q4
    have p6 : 0 ≤ (x3_1 : Int) := od_
    have q6 : x3_1 < (a0.size : Int) := od_
    have hx6 := bt_at a0 x3_1
    replace p6 := eq_true p6
    replace q6 := eq_true q6
    go_wp2
    go_ret
    exact ⟨by rfl, by repeat (first | exact Drawn0.refl _ | apply Drawn0.step)⟩
   rw [if_neg c7] at H
   have c7b0 : ((bt a0 x3_1) == 34) = false := beq_eq_false_iff_ne.mpr c7
   have c7b1 : ((bt a0 x3_1) != 34) = true := bne_iff_ne.mpr c7
   have H' := A_ H
   clear H
   have p4 : 0 ≤ (x3_1 : Int) := od_
   have q4 : x3_1 < (a0.size : Int) := od_
   have hx4 := bt_at a0 x3_1
   replace p4 := eq_true p4
   replace q4 := eq_true q4
   have p6 : 0 ≤ (x3_1 : Int) := od_
   have q6 : x3_1 < (a0.size : Int) := od_
   have hx6 := bt_at a0 x3_1
   replace p6 := eq_true p6
   replace q6 := eq_true q6
   go_wp2
   go_roundg k1
   case measure => have := HK1.out; omega
   case rel => exact ⟨(wrap64 (x3_1 + 1)), (by rfl), H', ⟨by have := HK1.out; omega⟩, by repeat (first | exact Drawn0.refl _ | apply Drawn0.step)⟩
def r03_Unescape.l0 : Nat → ByteArray → List Int → Int → Option (ByteArray × Bool)
 | 0, _, _, _ => none
 | k + 1, x0, x4, x5 => if x5 < (x0.size : Int) then (if 0 ≤ x5 then (if (bt x0 x5) = 92 then (if (wrap64 (x5 + 1)) ≥ (x0.size : Int) then (some ((⟨#[]⟩ : ByteArray), false)) else (if 0 ≤ (wrap64 (x5 + 1)) then (if (wrap64 (x5 + 1)) < (x0.size : Int) then (if (bt x0 (wrap64 (x5 + 1))) = 110 then (if x4.length < 140737488355328 then (r03_Unescape.l0 k x0 (x4 ++ [10]) (wrap64 ((wrap64 (x5 + 1)) + 1))) else (none)) else (if (bt x0 (wrap64 (x5 + 1))) = 92 then (if x4.length < 140737488355328 then (r03_Unescape.l0 k x0 (x4 ++ [bt x0 (wrap64 (x5 + 1))]) (wrap64 ((wrap64 (x5 + 1)) + 1))) else (none)) else (if (bt x0 (wrap64 (x5 + 1))) = 34 then (if x4.length < 140737488355328 then (r03_Unescape.l0 k x0 (x4 ++ [bt x0 (wrap64 (x5 + 1))]) (wrap64 ((wrap64 (x5 + 1)) + 1))) else (none)) else (some ((⟨#[]⟩ : ByteArray), false))))) else (none)) else (none))) else (if (bt x0 x5) = 34 then (some ((⟨#[]⟩ : ByteArray), false)) else (if (bt x0 x5) = 10 then (some ((⟨#[]⟩ : ByteArray), false)) else (if x4.length < 140737488355328 then (r03_Unescape.l0 k x0 (x4 ++ [bt x0 x5]) (wrap64 (x5 + 1))) else (none))))) else (none)) else (some (strOfNums x4, true))
def r03_Unescape.f (k : Nat) (a0 : ByteArray) : Option (ByteArray × Bool) := r03_Unescape.l0 k a0 ([] : List Int) 0
theorem r03_Unescape.mono_l : ∀ k, (∀ y0 y1 y2, LeO (r03_Unescape.l0 k y0 y1 y2) (r03_Unescape.l0 (k + 1) y0 y1 y2))
 | 0 => fun _ _ _ r h => by simp [r03_Unescape.l0] at h
 | k + 1 => by
  have ih0 := r03_Unescape.mono_l k
  ·intro y0 y1 y2
   unfold r03_Unescape.l0
   repeat' first
   | (with_reducible first | exact ih0 _ _ _ | exact LeO.refl _ | exact LeO.none _ | refine LeO.ite ?_ ?_ | refine LeO.bind ?_ (fun _ => ?_))
theorem r03_Unescape.mono : ∀ a0 k, LeO (r03_Unescape.f k a0) (r03_Unescape.f (k + 1) a0) := by
 intro a0 k
 have ih0 := r03_Unescape.mono_l k
 unfold r03_Unescape.f
 repeat' first
  | (with_reducible first | exact ih0 _ _ _ | exact LeO.refl _ | exact LeO.none _ | refine LeO.ite ?_ ?_ | refine LeO.bind ?_ (fun _ => ?_))
set_option maxHeartbeats 8000000 in
set_option maxRecDepth 100000 in
theorem r03_Unescape.calls (k : Nat) (a0 : ByteArray) (r1 : ByteArray) (r2 : Bool) (w : World) (h : r03_Unescape.f k a0 = some (r1, r2)) :
 Calls Tryz.prog 44 #[.string a0] w fun e w' => e = .returned (.tuple #[.string r1, .bool r2]) ∧ Below w.heap.size w w' := by
 have HB := A_ (Below.refl w.heap.size w)
 have H : (r03_Unescape.l0 k a0 ([] : List Int) 0) = some (r1, r2) := h
 clear h
 have H' := A_ H
 clear H
 go_enter Tryz.func44, Tryz.ntmps44
 go_wp2
 go_loopg [4, 5] k (fun kq v4 v5 w' => ∃ (x4_1 : List Int) (x5_1 : Int), v5 = .int .i64 x5_1 ∧ Aside0 (r03_Unescape.l0 kq a0 x4_1 x5_1 = some (r1, r2)) ∧ Aside0 (kq ≤ k) ∧ Aside0 (Kd.R (Kd.int .u8) 5 w' w.heap.size (fun _ => True) v4 x4_1) ∧ Aside0 (Below w.heap.size w w'))
 case atStart => exact ⟨(([] : List Int)), (0), (by rfl), H', ⟨Nat.le_refl _⟩, ⟨by exact Kd.R_nil _ _ _ _ _⟩, ⟨HB.out⟩⟩
 case round =>
  clear H'
  obtain ⟨x4_1, x5_1, rfl, HA, HK1, HO_4, HB⟩ := hrel
  cases gk with
  | zero => exact absurd HA.out (by simp [r03_Unescape.l0])
  | succ k1 =>
   have H := HA.out
   clear HA
   simp only [r03_Unescape.l0] at H
   by_cases c2 : x5_1 < (a0.size : Int)
   rotate_left
   ·rw [if_neg c2] at H
    have c2b0 := decide_eq_false c2
    clear c2
    simp only [Option.some.injEq, Prod.mk.injEq] at H
    obtain ⟨rfl, rfl⟩ := H
    have hcv31 := own_string (P := Tryz.prog) Tryz.underlying72 Tryz.underlying5 Tryz.underlying9 (Kd.own_of_R HO_4.out)
    go_wp2
    go_ret2
    exact ⟨by rfl, HB.out⟩
   rw [if_pos c2] at H
   have c2b0 := decide_eq_true c2
   clear c2
   by_cases c3 : 0 ≤ x5_1
   rotate_left
   ·rw [if_neg c3] at H
    exact absurd H (by simp)
   rw [if_pos c3] at H
   have c3b0 := decide_eq_true c3
   clear c3
   by_cases c5 : (bt a0 x5_1) = 92
   rotate_left
   ·rw [if_neg c5] at H
    have c5b0 : ((bt a0 x5_1) == 92) = false := beq_eq_false_iff_ne.mpr c5
    have c5b1 : ((bt a0 x5_1) != 92) = true := bne_iff_ne.mpr c5
    by_cases c25 : (bt a0 x5_1) = 34
    ·rw [if_pos c25] at H
     have c25b0 : ((bt a0 x5_1) == 34) = true := beq_iff_eq.mpr c25
     have c25b1 : ((bt a0 x5_1) != 34) = false := bne_eq_false_iff_eq.mpr c25
     clear c25
     simp only [Option.some.injEq, Prod.mk.injEq] at H
     obtain ⟨rfl, rfl⟩ := H
     have p4 : 0 ≤ (x5_1 : Int) := od_
     have q4 : x5_1 < (a0.size : Int) := od_
     have hx4 := bt_at a0 x5_1
     replace p4 := eq_true p4
     replace q4 := eq_true q4
     have p24 : 0 ≤ (x5_1 : Int) := od_
     have q24 : x5_1 < (a0.size : Int) := od_
     have hx24 := bt_at a0 x5_1
     replace p24 := eq_true p24
     replace q24 := eq_true q24
     go_wp2
     go_ret2
     exact ⟨by rfl, HB.out⟩
    rw [if_neg c25] at H
    have c25b0 : ((bt a0 x5_1) == 34) = false := beq_eq_false_iff_ne.mpr c25
    have c25b1 : ((bt a0 x5_1) != 34) = true := bne_iff_ne.mpr c25
    by_cases c27 : (bt a0 x5_1) = 10
    ·rw [if_pos c27] at H
     have c27b0 : ((bt a0 x5_1) == 10) = true := beq_iff_eq.mpr c27
     have c27b1 : ((bt a0 x5_1) != 10) = false := bne_eq_false_iff_eq.mpr c27
     clear c27
     simp only [Option.some.injEq, Prod.mk.injEq] at H
     obtain ⟨rfl, rfl⟩ := H
     have p4 : 0 ≤ (x5_1 : Int) := od_
     have q4 : x5_1 < (a0.size : Int) := od_
     have hx4 := bt_at a0 x5_1
     replace p4 := eq_true p4
     replace q4 := eq_true q4
     have p24 : 0 ≤ (x5_1 : Int) := od_
     have q24 : x5_1 < (a0.size : Int) := od_
     have hx24 := bt_at a0 x5_1
     replace p24 := eq_true p24
     replace q24 := eq_true q24
     have p26 : 0 ≤ (x5_1 : Int) := od_
     have q26 : x5_1 < (a0.size : Int) := od_
     have hx26 := bt_at a0 x5_1
     replace p26 := eq_true p26
     replace q26 := eq_true q26
     go_wp2
     go_ret2
     exact ⟨by rfl, HB.out⟩
    rw [if_neg c27] at H
    have c27b0 : ((bt a0 x5_1) == 10) = false := beq_eq_false_iff_ne.mpr c27
    have c27b1 : ((bt a0 x5_1) != 10) = true := bne_iff_ne.mpr c27
    by_cases c29 : x4_1.length < 140737488355328
    rotate_left
    ·rw [if_neg c29] at H
     exact absurd H (by simp)
    rw [if_pos c29] at H
    have LMc29 := A_ c29
    clear c29
    obtain ⟨y253, hy253⟩ : ∃ y_ : List Int, y_ = (x4_1 ++ [bt a0 x5_1]) := ⟨_, rfl⟩
    replace H : (r03_Unescape.l0 k1 a0 y253 (wrap64 (x5_1 + 1))) = some (r1, r2) := by (rw [hy253]; with_reducible exact H)
    have Ny253 := A_ hy253
    clear hy253
    have H' := A_ H
    clear H
    have p4 : 0 ≤ (x5_1 : Int) := od_
    have q4 : x5_1 < (a0.size : Int) := od_
    have hx4 := bt_at a0 x5_1
    replace p4 := eq_true p4
    replace q4 := eq_true q4
    have p24 : 0 ≤ (x5_1 : Int) := od_
    have q24 : x5_1 < (a0.size : Int) := od_
    have hx24 := bt_at a0 x5_1
    replace p24 := eq_true p24
    replace q24 := eq_true q24
    have p26 : 0 ≤ (x5_1 : Int) := od_
    have q26 : x5_1 < (a0.size : Int) := od_
    have hx26 := bt_at a0 x5_1
    replace p26 := eq_true p26
    replace q26 := eq_true q26
    have p28 : 0 ≤ (x5_1 : Int) := od_
    have q28 : x5_1 < (a0.size : Int) := od_
    have hx28 := bt_at a0 x5_1
    replace p28 := eq_true p28
    replace q28 := eq_true q28
    go_wp2_with (first | ((with_reducible refine gate_builtin (b := .append) (xs := #[.tmp 26, .tmp 30]) rfl ?_); at_builtin; refine Kd.R_append (Kd.int .u8) (w0 := w) w.heap.size rfl (.tmp 26) (.tmp 30) 72 5 (.int .u8 0) 1 rfl Tryz.underlying72 info5 rfl (by decide) (by omega) u4 x4_1 (bt a0 x5_1) [.int .u8 (bt a0 x5_1)] (fun _ => True) (fun _ => False) rfl rfl ?aP (fun _ hk => hk.elim) ?aF ?aO ?aB ?aS ?aL ?_; (case aP => exact rfl); (case aB => exact HB.out); (case aF => exact (fun _ _ => trivial)); (case aO => exact (rr_ HO_4.out)); (case aS => exact (below_size HB.out)); (case aL => have := LMc29.out; omega); intro v254 w30 ho hb hg hat; rw [← Ny253.out] at ho; have n0_ := A_ (hb); have n1_ := A_ (ho); clear HB; clear HO_4; have HB := n0_; have HO255 := n1_; clear n0_ n1_; clear ho hb hg hat))
    go_roundg k1
    case measure => have := HK1.out; omega
    case rel => exact ⟨(y253), (wrap64 (x5_1 + 1)), (by rfl), H', ⟨by have := HK1.out; omega⟩, ⟨rr_ HO255.out⟩, ⟨HB.out⟩⟩
   rw [if_pos c5] at H
   have c5b0 : ((bt a0 x5_1) == 92) = true := beq_iff_eq.mpr c5
   have c5b1 : ((bt a0 x5_1) != 92) = false := bne_eq_false_iff_eq.mpr c5
   clear c5
   by_cases c6 : (wrap64 (x5_1 + 1)) ≥ (a0.size : Int)
   ·rw [if_pos c6] at H
    have c6b0 := decide_eq_true c6
    clear c6
    simp only [Option.some.injEq, Prod.mk.injEq] at H
    obtain ⟨rfl, rfl⟩ := H
    have p4 : 0 ≤ (x5_1 : Int) := od_
    have q4 : x5_1 < (a0.size : Int) := od_
    have hx4 := bt_at a0 x5_1
    replace p4 := eq_true p4
    replace q4 := eq_true q4
    go_wp2
    go_ret2
    exact ⟨by rfl, HB.out⟩
   rw [if_neg c6] at H
   have c6b0 := decide_eq_false c6
   clear c6
   obtain ⟨ji7, hji7⟩ : ∃ j_ : Int, (wrap64 (x5_1 + 1)) = j_ := ⟨_, rfl⟩
   replace H : (if 0 ≤ (ji7) then (if (ji7) < (a0.size : Int) then (if (bt a0 (ji7)) = 110 then (if x4_1.length < 140737488355328 then (r03_Unescape.l0 k1 a0 (x4_1 ++ [10]) (wrap64 ((ji7) + 1))) else (none)) else (if (bt a0 (ji7)) = 92 then (if x4_1.length < 140737488355328 then (r03_Unescape.l0 k1 a0 (x4_1 ++ [bt a0 (ji7)]) (wrap64 ((ji7) + 1))) else (none)) else (if (bt a0 (ji7)) = 34 then (if x4_1.length < 140737488355328 then (r03_Unescape.l0 k1 a0 (x4_1 ++ [bt a0 (ji7)]) (wrap64 ((ji7) + 1))) else (none)) else (some ((⟨#[]⟩ : ByteArray), false))))) else (none)) else (none)) = some (r1, r2) := by (rw [hji7] at H; exact H)
   (try rw [hji7] at c6b0)
   have hji7w : (IntKind.i64.wrap (x5_1 + 1)) = ji7 := (i64_w _).trans hji7
   by_cases c8 : 0 ≤ (ji7)
   rotate_left
   ·rw [if_neg c8] at H
    exact absurd H (by simp)
   rw [if_pos c8] at H
   have c8b0 := decide_eq_true c8
   clear c8
   by_cases c9 : (ji7) < (a0.size : Int)
   rotate_left
   ·rw [if_neg c9] at H
    exact absurd H (by simp)
   rw [if_pos c9] at H
   have c9b0 := decide_eq_true c9
   clear c9
   by_cases c11 : (bt a0 (ji7)) = 110
   ·rw [if_pos c11] at H
    have c11b0 : ((bt a0 (ji7)) == 110) = true := beq_iff_eq.mpr c11
    have c11b1 : ((bt a0 (ji7)) != 110) = false := bne_eq_false_iff_eq.mpr c11
    clear c11
    by_cases c12 : x4_1.length < 140737488355328
    rotate_left
    ·rw [if_neg c12] at H
     exact absurd H (by simp)
    rw [if_pos c12] at H
    have LMc12 := A_ c12
    clear c12
    obtain ⟨y256, hy256⟩ : ∃ y_ : List Int, y_ = (x4_1 ++ [10]) := ⟨_, rfl⟩
    replace H : (r03_Unescape.l0 k1 a0 y256 (wrap64 ((ji7) + 1))) = some (r1, r2) := by (rw [hy256]; with_reducible exact H)
    have Ny256 := A_ hy256
    clear hy256
    have H' := A_ H
    clear H
    have p4 : 0 ≤ (x5_1 : Int) := od_
    have q4 : x5_1 < (a0.size : Int) := od_
    have hx4 := bt_at a0 x5_1
    replace p4 := eq_true p4
    replace q4 := eq_true q4
    have p10 : 0 ≤ ((ji7) : Int) := od_
    have q10 : (ji7) < (a0.size : Int) := od_
    have hx10 := bt_at a0 (ji7)
    replace p10 := eq_true p10
    replace q10 := eq_true q10
    go_wp2_with (first | ((with_reducible refine gate_builtin (b := .append) (xs := #[.tmp 43, .tmp 44]) rfl ?_); at_builtin; refine Kd.R_append (Kd.int .u8) (w0 := w) w.heap.size rfl (.tmp 43) (.tmp 44) 72 5 (.int .u8 0) 1 rfl Tryz.underlying72 info5 rfl (by decide) (by omega) u4 x4_1 10 [.int .u8 10] (fun _ => True) (fun _ => False) rfl rfl ?aP (fun _ hk => hk.elim) ?aF ?aO ?aB ?aS ?aL ?_; (case aP => exact rfl); (case aB => exact HB.out); (case aF => exact (fun _ _ => trivial)); (case aO => exact (rr_ HO_4.out)); (case aS => exact (below_size HB.out)); (case aL => have := LMc12.out; omega); intro v257 w13 ho hb hg hat; rw [← Ny256.out] at ho; have n0_ := A_ (hb); have n1_ := A_ (ho); clear HB; clear HO_4; have HB := n0_; have HO258 := n1_; clear n0_ n1_; clear ho hb hg hat))
    go_roundg k1
    case measure => have := HK1.out; omega
    case rel => exact ⟨(y256), (wrap64 ((ji7) + 1)), (by rfl), (by exact H'), ⟨by have := HK1.out; omega⟩, ⟨rr_ HO258.out⟩, ⟨HB.out⟩⟩
   rw [if_neg c11] at H
   have c11b0 : ((bt a0 (ji7)) == 110) = false := beq_eq_false_iff_ne.mpr c11
   have c11b1 : ((bt a0 (ji7)) != 110) = true := bne_iff_ne.mpr c11
   by_cases c15 : (bt a0 (ji7)) = 92
   ·rw [if_pos c15] at H
    have c15b0 : ((bt a0 (ji7)) == 92) = true := beq_iff_eq.mpr c15
    have c15b1 : ((bt a0 (ji7)) != 92) = false := bne_eq_false_iff_eq.mpr c15
    clear c15
    by_cases c17 : x4_1.length < 140737488355328
    rotate_left
    ·rw [if_neg c17] at H
     exact absurd H (by simp)
    rw [if_pos c17] at H
    have LMc17 := A_ c17
    clear c17
    obtain ⟨y259, hy259⟩ : ∃ y_ : List Int, y_ = (x4_1 ++ [bt a0 (ji7)]) := ⟨_, rfl⟩
    replace H : (r03_Unescape.l0 k1 a0 y259 (wrap64 ((ji7) + 1))) = some (r1, r2) := by (rw [hy259]; with_reducible exact H)
    have Ny259 := A_ hy259
    clear hy259
    have H' := A_ H
    clear H
    have p4 : 0 ≤ (x5_1 : Int) := od_
    have q4 : x5_1 < (a0.size : Int) := od_
    have hx4 := bt_at a0 x5_1
    replace p4 := eq_true p4
    replace q4 := eq_true q4
    have p10 : 0 ≤ ((ji7) : Int) := od_
    have q10 : (ji7) < (a0.size : Int) := od_
    have hx10 := bt_at a0 (ji7)
    replace p10 := eq_true p10
    replace q10 := eq_true q10
    have p14 : 0 ≤ ((ji7) : Int) := od_
    have q14 : (ji7) < (a0.size : Int) := od_
    have hx14 := bt_at a0 (ji7)
    replace p14 := eq_true p14
    replace q14 := eq_true q14
    have p16 : 0 ≤ ((ji7) : Int) := od_
    have q16 : (ji7) < (a0.size : Int) := od_
    have hx16 := bt_at a0 (ji7)
    replace p16 := eq_true p16
    replace q16 := eq_true q16
    go_wp2_with (first | ((with_reducible refine gate_builtin (b := .append) (xs := #[.tmp 56, .tmp 60]) rfl ?_); at_builtin; refine Kd.R_append (Kd.int .u8) (w0 := w) w.heap.size rfl (.tmp 56) (.tmp 60) 72 5 (.int .u8 0) 1 rfl Tryz.underlying72 info5 rfl (by decide) (by omega) u4 x4_1 (bt a0 (ji7)) [.int .u8 (bt a0 (ji7))] (fun _ => True) (fun _ => False) rfl rfl ?aP (fun _ hk => hk.elim) ?aF ?aO ?aB ?aS ?aL ?_; (case aP => exact rfl); (case aB => exact HB.out); (case aF => exact (fun _ _ => trivial)); (case aO => exact (rr_ HO_4.out)); (case aS => exact (below_size HB.out)); (case aL => have := LMc17.out; omega); intro v260 w18 ho hb hg hat; rw [← Ny259.out] at ho; have n0_ := A_ (hb); have n1_ := A_ (ho); clear HB; clear HO_4; have HB := n0_; have HO261 := n1_; clear n0_ n1_; clear ho hb hg hat))
    go_roundg k1
    case measure => have := HK1.out; omega
    case rel => exact ⟨(y259), (wrap64 ((ji7) + 1)), (by rfl), (by exact H'), ⟨by have := HK1.out; omega⟩, ⟨rr_ HO261.out⟩, ⟨HB.out⟩⟩
   rw [if_neg c15] at H
   have c15b0 : ((bt a0 (ji7)) == 92) = false := beq_eq_false_iff_ne.mpr c15
   have c15b1 : ((bt a0 (ji7)) != 92) = true := bne_iff_ne.mpr c15
   by_cases c20 : (bt a0 (ji7)) = 34
   rotate_left
   ·rw [if_neg c20] at H
    have c20b0 : ((bt a0 (ji7)) == 34) = false := beq_eq_false_iff_ne.mpr c20
    have c20b1 : ((bt a0 (ji7)) != 34) = true := bne_iff_ne.mpr c20
    simp only [Option.some.injEq, Prod.mk.injEq] at H
    obtain ⟨rfl, rfl⟩ := H
    have p4 : 0 ≤ (x5_1 : Int) := od_
    have q4 : x5_1 < (a0.size : Int) := od_
    have hx4 := bt_at a0 x5_1
    replace p4 := eq_true p4
    replace q4 := eq_true q4
    have p10 : 0 ≤ ((ji7) : Int) := od_
    have q10 : (ji7) < (a0.size : Int) := od_
    have hx10 := bt_at a0 (ji7)
    replace p10 := eq_true p10
    replace q10 := eq_true q10
    have p14 : 0 ≤ ((ji7) : Int) := od_
    have q14 : (ji7) < (a0.size : Int) := od_
    have hx14 := bt_at a0 (ji7)
    replace p14 := eq_true p14
    replace q14 := eq_true q14
    have p19 : 0 ≤ ((ji7) : Int) := od_
    have q19 : (ji7) < (a0.size : Int) := od_
    have hx19 := bt_at a0 (ji7)
    replace p19 := eq_true p19
    replace q19 := eq_true q19
    go_wp2
    go_ret2
    exact ⟨by rfl, HB.out⟩
   rw [if_pos c20] at H
   have c20b0 : ((bt a0 (ji7)) == 34) = true := beq_iff_eq.mpr c20
   have c20b1 : ((bt a0 (ji7)) != 34) = false := bne_eq_false_iff_eq.mpr c20
   clear c20
   by_cases c22 : x4_1.length < 140737488355328
   rotate_left
   ·rw [if_neg c22] at H
    exact absurd H (by simp)
   rw [if_pos c22] at H
   have LMc22 := A_ c22
   clear c22
   obtain ⟨y262, hy262⟩ : ∃ y_ : List Int, y_ = (x4_1 ++ [bt a0 (ji7)]) := ⟨_, rfl⟩
   replace H : (r03_Unescape.l0 k1 a0 y262 (wrap64 ((ji7) + 1))) = some (r1, r2) := by (rw [hy262]; with_reducible exact H)
   have Ny262 := A_ hy262
   clear hy262
   have H' := A_ H
   clear H
   have p4 : 0 ≤ (x5_1 : Int) := od_
   have q4 : x5_1 < (a0.size : Int) := od_
   have hx4 := bt_at a0 x5_1
   replace p4 := eq_true p4
   replace q4 := eq_true q4
   have p10 : 0 ≤ ((ji7) : Int) := od_
   have q10 : (ji7) < (a0.size : Int) := od_
   have hx10 := bt_at a0 (ji7)
   replace p10 := eq_true p10
   replace q10 := eq_true q10
   have p14 : 0 ≤ ((ji7) : Int) := od_
   have q14 : (ji7) < (a0.size : Int) := od_
   have hx14 := bt_at a0 (ji7)
   replace p14 := eq_true p14
   replace q14 := eq_true q14
   have p19 : 0 ≤ ((ji7) : Int) := od_
   have q19 : (ji7) < (a0.size : Int) := od_
   have hx19 := bt_at a0 (ji7)
   replace p19 := eq_true p19
   replace q19 := eq_true q19
   have p21 : 0 ≤ ((ji7) : Int) := od_
   have q21 : (ji7) < (a0.size : Int) := od_
   have hx21 := bt_at a0 (ji7)
   replace p21 := eq_true p21
   replace q21 := eq_true q21
   go_wp2_with (first | ((with_reducible refine gate_builtin (b := .append) (xs := #[.tmp 56, .tmp 60]) rfl ?_); at_builtin; refine Kd.R_append (Kd.int .u8) (w0 := w) w.heap.size rfl (.tmp 56) (.tmp 60) 72 5 (.int .u8 0) 1 rfl Tryz.underlying72 info5 rfl (by decide) (by omega) u4 x4_1 (bt a0 (ji7)) [.int .u8 (bt a0 (ji7))] (fun _ => True) (fun _ => False) rfl rfl ?aP (fun _ hk => hk.elim) ?aF ?aO ?aB ?aS ?aL ?_; (case aP => exact rfl); (case aB => exact HB.out); (case aF => exact (fun _ _ => trivial)); (case aO => exact (rr_ HO_4.out)); (case aS => exact (below_size HB.out)); (case aL => have := LMc22.out; omega); intro v263 w23 ho hb hg hat; rw [← Ny262.out] at ho; have n0_ := A_ (hb); have n1_ := A_ (ho); clear HB; clear HO_4; have HB := n0_; have HO264 := n1_; clear n0_ n1_; clear ho hb hg hat))
   go_roundg k1
   case measure => have := HK1.out; omega
   case rel => exact ⟨(y262), (wrap64 ((ji7) + 1)), (by rfl), (by exact H'), ⟨by have := HK1.out; omega⟩, ⟨rr_ HO264.out⟩, ⟨HB.out⟩⟩
end Go.Proofs.YtcikjeiebpmmcaaGreat.PMch
