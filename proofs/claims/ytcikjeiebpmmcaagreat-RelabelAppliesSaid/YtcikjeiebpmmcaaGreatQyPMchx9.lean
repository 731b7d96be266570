/- Pruned. -/
import Derived.Test.YtcikjeiebpmmcaaGreatQyPMchx0
import Derived.Test.YtcikjeiebpmmcaaGreatQyPMchx5
import Derived.Test.YtcikjeiebpmmcaaGreatQyPMchx8
namespace Go.Proofs.YtcikjeiebpmmcaaGreat.PMch
open Go.RowKit Go.Proofs.YtcikjeiebpmmcaaGreatW.PrintWords Go.Proofs.YtcikjeiebpmmcaaGreatW.PrintLast Go.Proofs.YtcikjeiebpmmcaaGreatW.PrintMore
attribute [local go_sem] max2_int max_two
set_option linter.unusedVariables false
set_option linter.unusedSimpArgs false
def r29_Parts.l0 : Nat → ByteArray → List (S70) → Int → Int → Option ((List (S70)) × Bool)
 | 0, _, _, _, _ => none
 | k + 1, x0, x4, x5, x6 => if x6 < (x0.size : Int) then (if 0 ≤ x6 then (if (bt x0 x6) = 42 then (if x4.length < 46912496118442 then (r29_Parts.l0 k x0 (x4 ++ [(⟨true, false, 0⟩ : S70)]) (wrap64 (x5 + 1)) (wrap64 (x6 + 1))) else (none)) else (if (bt x0 x6) = 63 then (if x4.length < 46912496118442 then (r29_Parts.l0 k x0 (x4 ++ [(⟨false, true, 0⟩ : S70)]) x5 (wrap64 (x6 + 1))) else (none)) else (if (bt x0 x6) = 92 then (if (wrap64 (x6 + 1)) ≥ (x0.size : Int) then (some (([] : List (S70)), false)) else (if 0 ≤ (wrap64 (x6 + 1)) then (if (wrap64 (x6 + 1)) < (x0.size : Int) then (if (bt x0 (wrap64 (x6 + 1))) = 42 then (if x4.length < 46912496118442 then (r29_Parts.l0 k x0 (x4 ++ [(⟨false, false, bt x0 (wrap64 (x6 + 1))⟩ : S70)]) x5 (wrap64 ((wrap64 (x6 + 1)) + 1))) else (none)) else (if (bt x0 (wrap64 (x6 + 1))) = 63 then (if x4.length < 46912496118442 then (r29_Parts.l0 k x0 (x4 ++ [(⟨false, false, bt x0 (wrap64 (x6 + 1))⟩ : S70)]) x5 (wrap64 ((wrap64 (x6 + 1)) + 1))) else (none)) else (if (bt x0 (wrap64 (x6 + 1))) = 92 then (if x4.length < 46912496118442 then (r29_Parts.l0 k x0 (x4 ++ [(⟨false, false, bt x0 (wrap64 (x6 + 1))⟩ : S70)]) x5 (wrap64 ((wrap64 (x6 + 1)) + 1))) else (none)) else (some (([] : List (S70)), false))))) else (none)) else (none))) else (if x4.length < 46912496118442 then (r29_Parts.l0 k x0 (x4 ++ [(⟨false, false, bt x0 x6⟩ : S70)]) x5 (wrap64 (x6 + 1))) else (none))))) else (none)) else (if x5 ≤ 9 then (some (x4, decide ((x0.size : Int) ≤ 1024))) else (some (x4, false)))
def r29_Parts.f (k : Nat) (a0 : ByteArray) : Option ((List (S70)) × Bool) := r29_Parts.l0 k a0 ([] : List (S70)) 0 0
theorem r29_Parts.mono_l : ∀ k, (∀ y0 y1 y2 y3, LeO (r29_Parts.l0 k y0 y1 y2 y3) (r29_Parts.l0 (k + 1) y0 y1 y2 y3))
 | 0 => fun _ _ _ _ r h => by simp [r29_Parts.l0] at h
 | k + 1 => by
  have ih0 := r29_Parts.mono_l k
  ·intro y0 y1 y2 y3
   unfold r29_Parts.l0
   repeat' first
   | (with_reducible first | exact ih0 _ _ _ _ | exact LeO.refl _ | exact LeO.none _ | refine LeO.ite ?_ ?_ | refine LeO.bind ?_ (fun _ => ?_))
theorem r29_Parts.mono : ∀ a0 k, LeO (r29_Parts.f k a0) (r29_Parts.f (k + 1) a0) := by
 intro a0 k
 have ih0 := r29_Parts.mono_l k
 unfold r29_Parts.f
 repeat' first
  | (with_reducible first | exact ih0 _ _ _ _ | exact LeO.refl _ | exact LeO.none _ | refine LeO.ite ?_ ?_ | refine LeO.bind ?_ (fun _ => ?_))
set_option maxHeartbeats 8000000 in
set_option maxRecDepth 100000 in
theorem r29_Parts.calls (k : Nat) (a0 : ByteArray) (r1 : List (S70)) (r2 : Bool) (w : World) (h : r29_Parts.f k a0 = some (r1, r2)) :
 Calls Tryz.prog 29 #[.string a0] w fun e w' => ∃ v0_ : Value, e = .returned (.tuple #[v0_, .bool r2]) ∧ Kd.R k70 70 w' w.heap.size (fun _ => True) v0_ r1 ∧ Below w.heap.size w w' := by
 have hu70 := Tryz.underlying70
 have HB := A_ (Below.refl w.heap.size w)
 have H : (r29_Parts.l0 k a0 ([] : List (S70)) 0 0) = some (r1, r2) := h
 clear h
 have H' := A_ H
 clear H
 go_enter Tryz.func29, Tryz.ntmps29
 go_wp2
 go_loopg [4, 5, 6] k (fun kq v4 v5 v6 w' => ∃ (x4_1 : List (S70)) (x5_1 : Int) (x6_1 : Int), v5 = .int .i64 x5_1 ∧ v6 = .int .i64 x6_1 ∧ Aside0 (r29_Parts.l0 kq a0 x4_1 x5_1 x6_1 = some (r1, r2)) ∧ Aside0 (kq ≤ k) ∧ Aside0 (Kd.R k70 70 w' w.heap.size (fun _ => True) v4 x4_1) ∧ Aside0 (Below w.heap.size w w'))
 case atStart => exact ⟨(([] : List (S70))), (0), (0), (by rfl), (by rfl), H', ⟨Nat.le_refl _⟩, ⟨by exact Kd.R_nil _ _ _ _ _⟩, ⟨HB.out⟩⟩
 case round =>
  clear H'
  obtain ⟨x4_1, x5_1, x6_1, rfl, rfl, HA, HK1, HO_4, HB⟩ := hrel
  cases gk with
  | zero => exact absurd HA.out (by simp [r29_Parts.l0])
  | succ k1 =>
   have H := HA.out
   clear HA
   simp only [r29_Parts.l0] at H
   by_cases c2 : x6_1 < (a0.size : Int)
   rotate_left
   ·rw [if_neg c2] at H
    have c2b0 := decide_eq_false c2
    clear c2
    by_cases c36 : x5_1 ≤ 9
    rotate_left
    ·rw [if_neg c36] at H
     have c36b0 := decide_eq_false c36
     clear c36
     simp only [Option.some.injEq, Prod.mk.injEq] at H
     obtain ⟨rfl, rfl⟩ := H
     go_wp2
     go_ret2
     exact ⟨_, by rfl, rr_ HO_4.out, HB.out⟩
    rw [if_pos c36] at H
    have c36b0 := decide_eq_true c36
    clear c36
    simp only [Option.some.injEq, Prod.mk.injEq] at H
    obtain ⟨rfl, rfl⟩ := H
    go_wp2
    go_ret2
    exact ⟨_, by rfl, rr_ HO_4.out, HB.out⟩
   rw [if_pos c2] at H
   have c2b0 := decide_eq_true c2
   clear c2
   by_cases c3 : 0 ≤ x6_1
   rotate_left
   ·rw [if_neg c3] at H
    exact absurd H (by simp)
   rw [if_pos c3] at H
   have c3b0 := decide_eq_true c3
   clear c3
   by_cases c5 : (bt a0 x6_1) = 42
   ·rw [if_pos c5] at H
    have c5b0 : ((bt a0 x6_1) == 42) = true := beq_iff_eq.mpr c5
    have c5b1 : ((bt a0 x6_1) != 42) = false := bne_eq_false_iff_eq.mpr c5
    clear c5
    by_cases c6 : x4_1.length < 46912496118442
    rotate_left
    ·rw [if_neg c6] at H
     exact absurd H (by simp)
    rw [if_pos c6] at H
    have LMc6 := A_ c6
    clear c6
    obtain ⟨y196, hy196⟩ : ∃ y_ : List (S70), y_ = (x4_1 ++ [(⟨true, false, 0⟩ : S70)]) := ⟨_, rfl⟩
    replace H : (r29_Parts.l0 k1 a0 y196 (wrap64 (x5_1 + 1)) (wrap64 (x6_1 + 1))) = some (r1, r2) := by (rw [hy196]; with_reducible exact H)
    have Ny196 := A_ hy196
    clear hy196
    have H' := A_ H
    clear H
    have p4 : 0 ≤ (x6_1 : Int) := od_
    have q4 : x6_1 < (a0.size : Int) := od_
    have hx4 := bt_at a0 x6_1
    replace p4 := eq_true p4
    replace q4 := eq_true q4
    go_wp2_with (first | ((with_reducible refine gate_builtin (b := .append) (xs := #[.tmp 19, .tmp 21]) rfl ?_); (try (refine gate_guard (by rfl) ?_; dsimp only)); at_builtin; refine Kd.R_append k70 (w0 := w) w.heap.size rfl (.tmp 19) (.tmp 21) 64 70 (.agg #[(.bool false), (.bool false), (.int .u8 0)]) 3 rfl Tryz.underlying64 info70 rfl (by decide) (by omega) u4 x4_1 (⟨true, false, 0⟩ : S70) [.bool true, .bool false, .int .u8 0] (fun _ => True) (fun _ => False) rfl rfl ?aP (fun _ hk => hk.elim) ?aF ?aO ?aB ?aS ?aL ?_; (case aP => exact k70_mkM _ _ _ (⟨true, false, 0⟩ : S70)); (case aB => exact HB.out); (case aF => exact (fun _ _ => trivial)); (case aO => exact (rr_ HO_4.out)); (case aS => exact (below_size HB.out)); (case aL => have := LMc6.out; omega); intro v197 w7 ho hb hg hat; rw [← Ny196.out] at ho; have n0_ := A_ (hb); have n1_ := A_ (ho); clear HB; clear HO_4; have HB := n0_; have HO198 := n1_; clear n0_ n1_; clear ho hb hg hat))
    go_roundg k1
    case measure => have := HK1.out; omega
    case rel => exact ⟨(y196), (wrap64 (x5_1 + 1)), (wrap64 (x6_1 + 1)), (by rfl), (by rfl), H', ⟨by have := HK1.out; omega⟩, ⟨rr_ HO198.out⟩, ⟨HB.out⟩⟩
   rw [if_neg c5] at H
   have c5b0 : ((bt a0 x6_1) == 42) = false := beq_eq_false_iff_ne.mpr c5
   have c5b1 : ((bt a0 x6_1) != 42) = true := bne_iff_ne.mpr c5
   by_cases c9 : (bt a0 x6_1) = 63
   ·rw [if_pos c9] at H
    have c9b0 : ((bt a0 x6_1) == 63) = true := beq_iff_eq.mpr c9
    have c9b1 : ((bt a0 x6_1) != 63) = false := bne_eq_false_iff_eq.mpr c9
    clear c9
    by_cases c10 : x4_1.length < 46912496118442
    rotate_left
    ·rw [if_neg c10] at H
     exact absurd H (by simp)
    rw [if_pos c10] at H
    have LMc10 := A_ c10
    clear c10
    obtain ⟨y199, hy199⟩ : ∃ y_ : List (S70), y_ = (x4_1 ++ [(⟨false, true, 0⟩ : S70)]) := ⟨_, rfl⟩
    replace H : (r29_Parts.l0 k1 a0 y199 x5_1 (wrap64 (x6_1 + 1))) = some (r1, r2) := by (rw [hy199]; with_reducible exact H)
    have Ny199 := A_ hy199
    clear hy199
    have H' := A_ H
    clear H
    have p4 : 0 ≤ (x6_1 : Int) := od_
    have q4 : x6_1 < (a0.size : Int) := od_
    have hx4 := bt_at a0 x6_1
    replace p4 := eq_true p4
    replace q4 := eq_true q4
    have p8 : 0 ≤ (x6_1 : Int) := od_
    have q8 : x6_1 < (a0.size : Int) := od_
    have hx8 := bt_at a0 x6_1
    replace p8 := eq_true p8
    replace q8 := eq_true q8
    go_wp2_with (first | ((with_reducible refine gate_builtin (b := .append) (xs := #[.tmp 27, .tmp 29]) rfl ?_); (try (refine gate_guard (by rfl) ?_; dsimp only)); at_builtin; refine Kd.R_append k70 (w0 := w) w.heap.size rfl (.tmp 27) (.tmp 29) 64 70 (.agg #[(.bool false), (.bool false), (.int .u8 0)]) 3 rfl Tryz.underlying64 info70 rfl (by decide) (by omega) u4 x4_1 (⟨false, true, 0⟩ : S70) [.bool false, .bool true, .int .u8 0] (fun _ => True) (fun _ => False) rfl rfl ?aP (fun _ hk => hk.elim) ?aF ?aO ?aB ?aS ?aL ?_; (case aP => exact k70_mkM _ _ _ (⟨false, true, 0⟩ : S70)); (case aB => exact HB.out); (case aF => exact (fun _ _ => trivial)); (case aO => exact (rr_ HO_4.out)); (case aS => exact (below_size HB.out)); (case aL => have := LMc10.out; omega); intro v200 w11 ho hb hg hat; rw [← Ny199.out] at ho; have n0_ := A_ (hb); have n1_ := A_ (ho); clear HB; clear HO_4; have HB := n0_; have HO201 := n1_; clear n0_ n1_; clear ho hb hg hat))
    go_roundg k1
    case measure => have := HK1.out; omega
    case rel => exact ⟨(y199), (x5_1), (wrap64 (x6_1 + 1)), (by rfl), (by rfl), H', ⟨by have := HK1.out; omega⟩, ⟨rr_ HO201.out⟩, ⟨HB.out⟩⟩
   rw [if_neg c9] at H
   have c9b0 : ((bt a0 x6_1) == 63) = false := beq_eq_false_iff_ne.mpr c9
   have c9b1 : ((bt a0 x6_1) != 63) = true := bne_iff_ne.mpr c9
   by_cases c13 : (bt a0 x6_1) = 92
   rotate_left
   ·rw [if_neg c13] at H
    have c13b0 : ((bt a0 x6_1) == 92) = false := beq_eq_false_iff_ne.mpr c13
    have c13b1 : ((bt a0 x6_1) != 92) = true := bne_iff_ne.mpr c13
    by_cases c34 : x4_1.length < 46912496118442
    rotate_left
    ·rw [if_neg c34] at H
     exact absurd H (by simp)
    rw [if_pos c34] at H
    have LMc34 := A_ c34
    clear c34
    obtain ⟨y211, hy211⟩ : ∃ y_ : List (S70), y_ = (x4_1 ++ [(⟨false, false, bt a0 x6_1⟩ : S70)]) := ⟨_, rfl⟩
    replace H : (r29_Parts.l0 k1 a0 y211 x5_1 (wrap64 (x6_1 + 1))) = some (r1, r2) := by (rw [hy211]; with_reducible exact H)
    have Ny211 := A_ hy211
    clear hy211
    have H' := A_ H
    clear H
    have p4 : 0 ≤ (x6_1 : Int) := od_
    have q4 : x6_1 < (a0.size : Int) := od_
    have hx4 := bt_at a0 x6_1
    replace p4 := eq_true p4
    replace q4 := eq_true q4
    have p8 : 0 ≤ (x6_1 : Int) := od_
    have q8 : x6_1 < (a0.size : Int) := od_
    have hx8 := bt_at a0 x6_1
    replace p8 := eq_true p8
    replace q8 := eq_true q8
    have p12 : 0 ≤ (x6_1 : Int) := od_
    have q12 : x6_1 < (a0.size : Int) := od_
    have hx12 := bt_at a0 x6_1
    replace p12 := eq_true p12
    replace q12 := eq_true q12
    have p33 : 0 ≤ (x6_1 : Int) := od_
    have q33 : x6_1 < (a0.size : Int) := od_
    have hx33 := bt_at a0 x6_1
    replace p33 := eq_true p33
    replace q33 := eq_true q33
    go_wp2_with (first | ((with_reducible refine gate_builtin (b := .append) (xs := #[.tmp 70, .tmp 75]) rfl ?_); (try (refine gate_guard (by rfl) ?_; dsimp only)); at_builtin; refine Kd.R_append k70 (w0 := w) w.heap.size rfl (.tmp 70) (.tmp 75) 64 70 (.agg #[(.bool false), (.bool false), (.int .u8 0)]) 3 rfl Tryz.underlying64 info70 rfl (by decide) (by omega) u4 x4_1 (⟨false, false, bt a0 x6_1⟩ : S70) [.bool false, .bool false, .int .u8 (bt a0 x6_1)] (fun _ => True) (fun _ => False) rfl rfl ?aP (fun _ hk => hk.elim) ?aF ?aO ?aB ?aS ?aL ?_; (case aP => exact k70_mkM _ _ _ (⟨false, false, bt a0 x6_1⟩ : S70)); (case aB => exact HB.out); (case aF => exact (fun _ _ => trivial)); (case aO => exact (rr_ HO_4.out)); (case aS => exact (below_size HB.out)); (case aL => have := LMc34.out; omega); intro v212 w35 ho hb hg hat; rw [← Ny211.out] at ho; have n0_ := A_ (hb); have n1_ := A_ (ho); clear HB; clear HO_4; have HB := n0_; have HO213 := n1_; clear n0_ n1_; clear ho hb hg hat))
    go_roundg k1
    case measure => have := HK1.out; omega
    case rel => exact ⟨(y211), (x5_1), (wrap64 (x6_1 + 1)), (by rfl), (by rfl), H', ⟨by have := HK1.out; omega⟩, ⟨rr_ HO213.out⟩, ⟨HB.out⟩⟩
   rw [if_pos c13] at H
   have c13b0 : ((bt a0 x6_1) == 92) = true := beq_iff_eq.mpr c13
   have c13b1 : ((bt a0 x6_1) != 92) = false := bne_eq_false_iff_eq.mpr c13
   clear c13
   by_cases c14 : (wrap64 (x6_1 + 1)) ≥ (a0.size : Int)
   ·rw [if_pos c14] at H
    have c14b0 := decide_eq_true c14
    clear c14
    simp only [Option.some.injEq, Prod.mk.injEq] at H
    obtain ⟨rfl, rfl⟩ := H
    have p4 : 0 ≤ (x6_1 : Int) := od_
    have q4 : x6_1 < (a0.size : Int) := od_
    have hx4 := bt_at a0 x6_1
    replace p4 := eq_true p4
    replace q4 := eq_true q4
    have p8 : 0 ≤ (x6_1 : Int) := od_
    have q8 : x6_1 < (a0.size : Int) := od_
    have hx8 := bt_at a0 x6_1
    replace p8 := eq_true p8
    replace q8 := eq_true q8
    have p12 : 0 ≤ (x6_1 : Int) := od_
    have q12 : x6_1 < (a0.size : Int) := od_
    have hx12 := bt_at a0 x6_1
    replace p12 := eq_true p12
    replace q12 := eq_true q12
    go_wp2
    go_ret2
    exact ⟨_, by rfl, by exact Kd.R_nil _ _ _ _ _, HB.out⟩
   rw [if_neg c14] at H
   have c14b0 := decide_eq_false c14
   clear c14
   obtain ⟨ji15, hji15⟩ : ∃ j_ : Int, (wrap64 (x6_1 + 1)) = j_ := ⟨_, rfl⟩
   replace H : (if 0 ≤ (ji15) then (if (ji15) < (a0.size : Int) then (if (bt a0 (ji15)) = 42 then (if x4_1.length < 46912496118442 then (r29_Parts.l0 k1 a0 (x4_1 ++ [(⟨false, false, bt a0 (ji15)⟩ : S70)]) x5_1 (wrap64 ((ji15) + 1))) else (none)) else (if (bt a0 (ji15)) = 63 then (if x4_1.length < 46912496118442 then (r29_Parts.l0 k1 a0 (x4_1 ++ [(⟨false, false, bt a0 (ji15)⟩ : S70)]) x5_1 (wrap64 ((ji15) + 1))) else (none)) else (if (bt a0 (ji15)) = 92 then (if x4_1.length < 46912496118442 then (r29_Parts.l0 k1 a0 (x4_1 ++ [(⟨false, false, bt a0 (ji15)⟩ : S70)]) x5_1 (wrap64 ((ji15) + 1))) else (none)) else (some (([] : List (S70)), false))))) else (none)) else (none)) = some (r1, r2) := by (rw [hji15] at H; exact H)
   (try rw [hji15] at c14b0)
   have hji15w : (IntKind.i64.wrap (x6_1 + 1)) = ji15 := (i64_w _).trans hji15
   by_cases c16 : 0 ≤ (ji15)
   rotate_left
   ·rw [if_neg c16] at H
    exact absurd H (by simp)
   rw [if_pos c16] at H
   have c16b0 := decide_eq_true c16
   clear c16
   by_cases c17 : (ji15) < (a0.size : Int)
   rotate_left
   ·rw [if_neg c17] at H
    exact absurd H (by simp)
   rw [if_pos c17] at H
   have c17b0 := decide_eq_true c17
   clear c17
   by_cases c19 : (bt a0 (ji15)) = 42
   ·rw [if_pos c19] at H
    have c19b0 : ((bt a0 (ji15)) == 42) = true := beq_iff_eq.mpr c19
    have c19b1 : ((bt a0 (ji15)) != 42) = false := bne_eq_false_iff_eq.mpr c19
    clear c19
    by_cases c21 : x4_1.length < 46912496118442
    rotate_left
    ·rw [if_neg c21] at H
     exact absurd H (by simp)
    rw [if_pos c21] at H
    have LMc21 := A_ c21
    clear c21
    obtain ⟨y202, hy202⟩ : ∃ y_ : List (S70), y_ = (x4_1 ++ [(⟨false, false, bt a0 (ji15)⟩ : S70)]) := ⟨_, rfl⟩
    replace H : (r29_Parts.l0 k1 a0 y202 x5_1 (wrap64 ((ji15) + 1))) = some (r1, r2) := by (rw [hy202]; with_reducible exact H)
    have Ny202 := A_ hy202
    clear hy202
    have H' := A_ H
    clear H
    have p4 : 0 ≤ (x6_1 : Int) := od_
    have q4 : x6_1 < (a0.size : Int) := od_
    have hx4 := bt_at a0 x6_1
    replace p4 := eq_true p4
    replace q4 := eq_true q4
    have p8 : 0 ≤ (x6_1 : Int) := od_
    have q8 : x6_1 < (a0.size : Int) := od_
    have hx8 := bt_at a0 x6_1
    replace p8 := eq_true p8
    replace q8 := eq_true q8
    have p12 : 0 ≤ (x6_1 : Int) := od_
    have q12 : x6_1 < (a0.size : Int) := od_
    have hx12 := bt_at a0 x6_1
    replace p12 := eq_true p12
    replace q12 := eq_true q12
    have p18 : 0 ≤ ((ji15) : Int) := od_
    have q18 : (ji15) < (a0.size : Int) := od_
    have hx18 := bt_at a0 (ji15)
    replace p18 := eq_true p18
    replace q18 := eq_true q18
    have p20 : 0 ≤ ((ji15) : Int) := od_
    have q20 : (ji15) < (a0.size : Int) := od_
    have hx20 := bt_at a0 (ji15)
    replace p20 := eq_true p20
    replace q20 := eq_true q20
    go_wp2_with (first | ((with_reducible refine gate_builtin (b := .append) (xs := #[.tmp 63, .tmp 68]) rfl ?_); (try (refine gate_guard (by rfl) ?_; dsimp only)); at_builtin; refine Kd.R_append k70 (w0 := w) w.heap.size rfl (.tmp 63) (.tmp 68) 64 70 (.agg #[(.bool false), (.bool false), (.int .u8 0)]) 3 rfl Tryz.underlying64 info70 rfl (by decide) (by omega) u4 x4_1 (⟨false, false, bt a0 (ji15)⟩ : S70) [.bool false, .bool false, .int .u8 (bt a0 (ji15))] (fun _ => True) (fun _ => False) rfl rfl ?aP (fun _ hk => hk.elim) ?aF ?aO ?aB ?aS ?aL ?_; (case aP => exact k70_mkM _ _ _ (⟨false, false, bt a0 (ji15)⟩ : S70)); (case aB => exact HB.out); (case aF => exact (fun _ _ => trivial)); (case aO => exact (rr_ HO_4.out)); (case aS => exact (below_size HB.out)); (case aL => have := LMc21.out; omega); intro v203 w22 ho hb hg hat; rw [← Ny202.out] at ho; have n0_ := A_ (hb); have n1_ := A_ (ho); clear HB; clear HO_4; have HB := n0_; have HO204 := n1_; clear n0_ n1_; clear ho hb hg hat))
    go_roundg k1
    case measure => have := HK1.out; omega
    case rel => exact ⟨(y202), (x5_1), (wrap64 ((ji15) + 1)), (by rfl), (by rfl), (by exact H'), ⟨by have := HK1.out; omega⟩, ⟨rr_ HO204.out⟩, ⟨HB.out⟩⟩
   rw [if_neg c19] at H
   have c19b0 : ((bt a0 (ji15)) == 42) = false := beq_eq_false_iff_ne.mpr c19
   have c19b1 : ((bt a0 (ji15)) != 42) = true := bne_iff_ne.mpr c19
   by_cases c24 : (bt a0 (ji15)) = 63
   ·rw [if_pos c24] at H
    have c24b0 : ((bt a0 (ji15)) == 63) = true := beq_iff_eq.mpr c24
    have c24b1 : ((bt a0 (ji15)) != 63) = false := bne_eq_false_iff_eq.mpr c24
    clear c24
    by_cases c26 : x4_1.length < 46912496118442
    rotate_left
    ·rw [if_neg c26] at H
     exact absurd H (by simp)
    rw [if_pos c26] at H
    have LMc26 := A_ c26
    clear c26
    obtain ⟨y205, hy205⟩ : ∃ y_ : List (S70), y_ = (x4_1 ++ [(⟨false, false, bt a0 (ji15)⟩ : S70)]) := ⟨_, rfl⟩
    replace H : (r29_Parts.l0 k1 a0 y205 x5_1 (wrap64 ((ji15) + 1))) = some (r1, r2) := by (rw [hy205]; with_reducible exact H)
    have Ny205 := A_ hy205
    clear hy205
    have H' := A_ H
    clear H
    have p4 : 0 ≤ (x6_1 : Int) := od_
    have q4 : x6_1 < (a0.size : Int) := od_
    have hx4 := bt_at a0 x6_1
    replace p4 := eq_true p4
    replace q4 := eq_true q4
    have p8 : 0 ≤ (x6_1 : Int) := od_
    have q8 : x6_1 < (a0.size : Int) := od_
    have hx8 := bt_at a0 x6_1
    replace p8 := eq_true p8
    replace q8 := eq_true q8
    have p12 : 0 ≤ (x6_1 : Int) := od_
    have q12 : x6_1 < (a0.size : Int) := od_
    have hx12 := bt_at a0 x6_1
    replace p12 := eq_true p12
    replace q12 := eq_true q12
    have p18 : 0 ≤ ((ji15) : Int) := od_
    have q18 : (ji15) < (a0.size : Int) := od_
    have hx18 := bt_at a0 (ji15)
    replace p18 := eq_true p18
    replace q18 := eq_true q18
    have p23 : 0 ≤ ((ji15) : Int) := od_
    have q23 : (ji15) < (a0.size : Int) := od_
    have hx23 := bt_at a0 (ji15)
    replace p23 := eq_true p23
    replace q23 := eq_true q23
    have p25 : 0 ≤ ((ji15) : Int) := od_
    have q25 : (ji15) < (a0.size : Int) := od_
    have hx25 := bt_at a0 (ji15)
    replace p25 := eq_true p25
    replace q25 := eq_true q25
    go_wp2_with (first | ((with_reducible refine gate_builtin (b := .append) (xs := #[.tmp 63, .tmp 68]) rfl ?_); (try (refine gate_guard (by rfl) ?_; dsimp only)); at_builtin; refine Kd.R_append k70 (w0 := w) w.heap.size rfl (.tmp 63) (.tmp 68) 64 70 (.agg #[(.bool false), (.bool false), (.int .u8 0)]) 3 rfl Tryz.underlying64 info70 rfl (by decide) (by omega) u4 x4_1 (⟨false, false, bt a0 (ji15)⟩ : S70) [.bool false, .bool false, .int .u8 (bt a0 (ji15))] (fun _ => True) (fun _ => False) rfl rfl ?aP (fun _ hk => hk.elim) ?aF ?aO ?aB ?aS ?aL ?_; (case aP => exact k70_mkM _ _ _ (⟨false, false, bt a0 (ji15)⟩ : S70)); (case aB => exact HB.out); (case aF => exact (fun _ _ => trivial)); (case aO => exact (rr_ HO_4.out)); (case aS => exact (below_size HB.out)); (case aL => have := LMc26.out; omega); intro v206 w27 ho hb hg hat; rw [← Ny205.out] at ho; have n0_ := A_ (hb); have n1_ := A_ (ho); clear HB; clear HO_4; have HB := n0_; have HO207 := n1_; clear n0_ n1_; clear ho hb hg hat))
    go_roundg k1
    case measure => have := HK1.out; omega
    case rel => exact ⟨(y205), (x5_1), (wrap64 ((ji15) + 1)), (by rfl), (by rfl), (by exact H'), ⟨by have := HK1.out; omega⟩, ⟨rr_ HO207.out⟩, ⟨HB.out⟩⟩
   rw [if_neg c24] at H
   have c24b0 : ((bt a0 (ji15)) == 63) = false := beq_eq_false_iff_ne.mpr c24
   have c24b1 : ((bt a0 (ji15)) != 63) = true := bne_iff_ne.mpr c24
   by_cases c29 : (bt a0 (ji15)) = 92
   rotate_left
   ·rw [if_neg c29] at H
    have c29b0 : ((bt a0 (ji15)) == 92) = false := beq_eq_false_iff_ne.mpr c29
    have c29b1 : ((bt a0 (ji15)) != 92) = true := bne_iff_ne.mpr c29
    simp only [Option.some.injEq, Prod.mk.injEq] at H
    obtain ⟨rfl, rfl⟩ := H
    have p4 : 0 ≤ (x6_1 : Int) := od_
    have q4 : x6_1 < (a0.size : Int) := od_
    have hx4 := bt_at a0 x6_1
    replace p4 := eq_true p4
    replace q4 := eq_true q4
    have p8 : 0 ≤ (x6_1 : Int) := od_
    have q8 : x6_1 < (a0.size : Int) := od_
    have hx8 := bt_at a0 x6_1
    replace p8 := eq_true p8
    replace q8 := eq_true q8
    have p12 : 0 ≤ (x6_1 : Int) := od_
    have q12 : x6_1 < (a0.size : Int) := od_
    have hx12 := bt_at a0 x6_1
    replace p12 := eq_true p12
    replace q12 := eq_true q12
    have p18 : 0 ≤ ((ji15) : Int) := od_
    have q18 : (ji15) < (a0.size : Int) := od_
    have hx18 := bt_at a0 (ji15)
    replace p18 := eq_true p18
    replace q18 := eq_true q18
    have p23 : 0 ≤ ((ji15) : Int) := od_
    have q23 : (ji15) < (a0.size : Int) := od_
    have hx23 := bt_at a0 (ji15)
    replace p23 := eq_true p23
    replace q23 := eq_true q23
    have p28 : 0 ≤ ((ji15) : Int) := od_
    have q28 : (ji15) < (a0.size : Int) := od_
    have hx28 := bt_at a0 (ji15)
    replace p28 := eq_true p28
    replace q28 := eq_true q28
    go_wp2
    go_ret2
    exact ⟨_, by rfl, by exact Kd.R_nil _ _ _ _ _, HB.out⟩
   rw [if_pos c29] at H
   have c29b0 : ((bt a0 (ji15)) == 92) = true := beq_iff_eq.mpr c29
   have c29b1 : ((bt a0 (ji15)) != 92) = false := bne_eq_false_iff_eq.mpr c29
   clear c29
   by_cases c31 : x4_1.length < 46912496118442
   rotate_left
   ·rw [if_neg c31] at H
    exact absurd H (by simp)
   rw [if_pos c31] at H
   have LMc31 := A_ c31
   clear c31
   obtain ⟨y208, hy208⟩ : ∃ y_ : List (S70), y_ = (x4_1 ++ [(⟨false, false, bt a0 (ji15)⟩ : S70)]) := ⟨_, rfl⟩
   replace H : (r29_Parts.l0 k1 a0 y208 x5_1 (wrap64 ((ji15) + 1))) = some (r1, r2) := by (rw [hy208]; with_reducible exact H)
   have Ny208 := A_ hy208
   clear hy208
   have H' := A_ H
   clear H
   have p4 : 0 ≤ (x6_1 : Int) := od_
   have q4 : x6_1 < (a0.size : Int) := od_
   have hx4 := bt_at a0 x6_1
   replace p4 := eq_true p4
   replace q4 := eq_true q4
   have p8 : 0 ≤ (x6_1 : Int) := od_
   have q8 : x6_1 < (a0.size : Int) := od_
   have hx8 := bt_at a0 x6_1
   replace p8 := eq_true p8
   replace q8 := eq_true q8
   have p12 : 0 ≤ (x6_1 : Int) := od_
   have q12 : x6_1 < (a0.size : Int) := od_
   have hx12 := bt_at a0 x6_1
   replace p12 := eq_true p12
   replace q12 := eq_true q12
   have p18 : 0 ≤ ((ji15) : Int) := od_
   have q18 : (ji15) < (a0.size : Int) := od_
   have hx18 := bt_at a0 (ji15)
   replace p18 := eq_true p18
   replace q18 := eq_true q18
   have p23 : 0 ≤ ((ji15) : Int) := od_
   have q23 : (ji15) < (a0.size : Int) := od_
   have hx23 := bt_at a0 (ji15)
   replace p23 := eq_true p23
   replace q23 := eq_true q23
   have p28 : 0 ≤ ((ji15) : Int) := od_
   have q28 : (ji15) < (a0.size : Int) := od_
   have hx28 := bt_at a0 (ji15)
   replace p28 := eq_true p28
   replace q28 := eq_true q28
   have p30 : 0 ≤ ((ji15) : Int) := od_
   have q30 : (ji15) < (a0.size : Int) := od_
   have hx30 := bt_at a0 (ji15)
   replace p30 := eq_true p30
   replace q30 := eq_true q30
   go_wp2_with (first | ((with_reducible refine gate_builtin (b := .append) (xs := #[.tmp 63, .tmp 68]) rfl ?_); (try (refine gate_guard (by rfl) ?_; dsimp only)); at_builtin; refine Kd.R_append k70 (w0 := w) w.heap.size rfl (.tmp 63) (.tmp 68) 64 70 (.agg #[(.bool false), (.bool false), (.int .u8 0)]) 3 rfl Tryz.underlying64 info70 rfl (by decide) (by omega) u4 x4_1 (⟨false, false, bt a0 (ji15)⟩ : S70) [.bool false, .bool false, .int .u8 (bt a0 (ji15))] (fun _ => True) (fun _ => False) rfl rfl ?aP (fun _ hk => hk.elim) ?aF ?aO ?aB ?aS ?aL ?_; (case aP => exact k70_mkM _ _ _ (⟨false, false, bt a0 (ji15)⟩ : S70)); (case aB => exact HB.out); (case aF => exact (fun _ _ => trivial)); (case aO => exact (rr_ HO_4.out)); (case aS => exact (below_size HB.out)); (case aL => have := LMc31.out; omega); intro v209 w32 ho hb hg hat; rw [← Ny208.out] at ho; have n0_ := A_ (hb); have n1_ := A_ (ho); clear HB; clear HO_4; have HB := n0_; have HO210 := n1_; clear n0_ n1_; clear ho hb hg hat))
   go_roundg k1
   case measure => have := HK1.out; omega
   case rel => exact ⟨(y208), (x5_1), (wrap64 ((ji15) + 1)), (by rfl), (by rfl), (by exact H'), ⟨by have := HK1.out; omega⟩, ⟨rr_ HO210.out⟩, ⟨HB.out⟩⟩
def r29_Match.f (k : Nat) (a0 : ByteArray) (a1 : ByteArray) : Option (List ByteArray × Bool) :=
 (r29_Parts.f k a0).bind fun x => if a1.size ≤ 1000000 ∧ x.1.length ≤ 1000000 then some (matchT (fun p : S70 => p.f0) (fun p => p.f1) (fun p => p.f2) a1 x.1 x.2) else none
theorem r29_Match.mono : ∀ a0 a1 k, LeO (r29_Match.f k a0 a1) (r29_Match.f (k + 1) a0 a1) := by
 intro a0 a1 k r h
 unfold r29_Match.f at h ⊢
 obtain ⟨x, hx, h⟩ := Option.bind_eq_some_iff.1 h
 rw [r29_Parts.mono a0 k x hx, Option.bind_some]
 exact h
theorem r29_Match.calls (k : Nat) (a0 : ByteArray) (a1 : ByteArray) (r1 : List ByteArray) (r2 : Bool) (w : World) (h : r29_Match.f k a0 a1 = some (r1, r2)) :
 Calls Tryz.prog 12 #[.string a0, .string a1] w fun e w' => ∃ v0_ : Value, e = .returned (.tuple #[v0_, .bool r2]) ∧ Kd.R Kd.string 9 w' w.heap.size (fun _ => True) v0_ r1 ∧ Below w.heap.size w w' := by
 unfold r29_Match.f at h
 obtain ⟨⟨ls, ok⟩, hx, h⟩ := Option.bind_eq_some_iff.1 h
 split at h
 case isFalse => cases h
 case isTrue hc =>
  have h1 := Option.some.inj h
  have := refmatch_calls k70 (fun p => p.f0) (fun p => p.f1) (fun p => p.f2) rfl k70_open a0 a1 ls ok w (fun W => by
   refine (r29_Parts.calls k a0 ls ok W hx).mono ?_
   rintro e w' ⟨v, rfl, hS, hB⟩
   obtain ⟨A, c, rfl, hle, hC⟩ := Kd.R_reads hS
   exact ⟨A, c, rfl, hle, hC, hB⟩) hc.1 hc.2
  rw [h1] at this
  exact this
end Go.Proofs.YtcikjeiebpmmcaaGreat.PMch
