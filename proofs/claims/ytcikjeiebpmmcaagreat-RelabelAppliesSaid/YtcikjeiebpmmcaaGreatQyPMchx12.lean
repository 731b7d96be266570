/- Pruned. -/
import Derived.Test.YtcikjeiebpmmcaaGreatQyPMchx0
import Derived.Test.YtcikjeiebpmmcaaGreatQyPMchx9
import Derived.Test.YtcikjeiebpmmcaaGreatQyPMchx10
import Derived.Test.YtcikjeiebpmmcaaGreatQyPMchx11
namespace Go.Proofs.YtcikjeiebpmmcaaGreat.PMch
open Go.RowKit Go.Proofs.YtcikjeiebpmmcaaGreatW.PrintWords Go.Proofs.YtcikjeiebpmmcaaGreatW.PrintLast Go.Proofs.YtcikjeiebpmmcaaGreatW.PrintMore
attribute [local go_sem] max2_int max_two
set_option linter.unusedVariables false
set_option linter.unusedSimpArgs false
def r29_One.j0 : Nat → Int → Bool → Int → ByteArray → ByteArray → ByteArray → ByteArray → Option (Bool)
 | 0, _, _, _, _, _, _, _ => none
 | k + 1, x16, x39, x238000, x238001, x238002, x238003, x238004 => if x39 = true then ((r29_told.f k x238001).bind fun t250 => (if t250 = true then (some ((wrap64 ((x238003.size : Int) + (x238004.size : Int))) == 0)) else (some false))) else (if x16 = 4 then (some ((wrap64 ((wrap64 ((x238001.size : Int) + (x238003.size : Int))) + (x238004.size : Int))) == 0)) else (some false))
def r29_One.f (k : Nat) (a0_0 : Int) (a0_1 : ByteArray) (a0_2 : ByteArray) (a0_3 : ByteArray) (a0_4 : ByteArray) : Option (Bool) := (r29_Parts.f k a0_2).bind fun bt238 => (if bt238.2 = true then (if a0_0 = 3 then ((r29_Stars.f k bt238.1).bind fun t242 => (if 0 ≤ t242 then (if (t242 : Int).toNat ≤ 17592186044416 then ((r29_Fill.f k a0_3 (List.replicate (t242 : Int).toNat (⟨#[]⟩ : ByteArray))).bind fun bt246 => (if bt246.2 = true then ((r29_told.f k a0_1).bind fun t248 => (if t248 = true then ((r29_told.f k a0_4).bind fun t249 => (some t249)) else (some false))) else (some false))) else (none)) else (none))) else (if a0_0 = 1 then (r29_One.j0 k a0_0 (a0_0 == 1) a0_0 a0_1 a0_2 a0_3 a0_4) else (r29_One.j0 k a0_0 (a0_0 == 2) a0_0 a0_1 a0_2 a0_3 a0_4))) else (some false))
theorem r29_One.mono_l : ∀ k, (∀ y0 y1 y2 y3 y4 y5 y6, LeO (r29_One.j0 k y0 y1 y2 y3 y4 y5 y6) (r29_One.j0 (k + 1) y0 y1 y2 y3 y4 y5 y6))
 | 0 => fun _ _ _ _ _ _ _ r h => by simp [r29_One.j0] at h
 | k + 1 => by
  have ih0 := r29_One.mono_l k
  ·intro y0 y1 y2 y3 y4 y5 y6
   unfold r29_One.j0
   repeat' first
   | (with_reducible first | exact ih0 _ _ _ _ _ _ _ | exact r29_Fill.mono _ _ _ | exact r29_Parts.mono _ _ | exact r29_Stars.mono _ _ | exact r29_told.mono _ _ | exact LeO.refl _ | exact LeO.none _ | refine LeO.ite ?_ ?_ | refine LeO.bind ?_ (fun _ => ?_))
theorem r29_One.mono : ∀ a0 a1 a2 a3 a4 k, LeO (r29_One.f k a0 a1 a2 a3 a4) (r29_One.f (k + 1) a0 a1 a2 a3 a4) := by
 intro a0 a1 a2 a3 a4 k
 have ih0 := r29_One.mono_l k
 unfold r29_One.f
 repeat' first
  | (with_reducible first | exact ih0 _ _ _ _ _ _ _ | exact r29_Fill.mono _ _ _ | exact r29_Parts.mono _ _ | exact r29_Stars.mono _ _ | exact r29_told.mono _ _ | exact LeO.refl _ | exact LeO.none _ | refine LeO.ite ?_ ?_ | refine LeO.bind ?_ (fun _ => ?_))
def r29_One.T6 : Bool × List (List Nat × List Nat) := (true, [([], []), ([0], [0]), ([], []), ([2], [2]), ([3, 3], [3]), ([1, 4, 3], [1, 4]), ([5], [5]), ([6], [6]), ([6], [6]), ([7, 5, 0, 1, 2, 3, 4, 5, 6, 7], [7]), ([8, 9, 0, 1, 2, 3, 4, 5, 6, 7, 8, 9], [8])])
def r29_One.B6 : List Nat := [0, 1, 0, 4, 12, 31, 63, 127, 127, 255, 1023]
theorem r29_One.tab6 : rtab .any (opsOf Tryz.f36 6) = r29_One.T6 := by kernel_rfl
theorem r29_One.bits6 : waitsOk r29_One.T6.2 r29_One.B6 = true := by kernel_rfl
set_option maxHeartbeats 8000000 in
set_option maxRecDepth 100000 in
theorem r29_One.calls (k : Nat) (a0_0 : Int) (a0_1 : ByteArray) (a0_2 : ByteArray) (a0_3 : ByteArray) (a0_4 : ByteArray) (r : Bool) (w : World) (h : r29_One.f k a0_0 a0_1 a0_2 a0_3 a0_4 = some r) :
 Calls Tryz.prog 36 #[.agg #[.int .i64 a0_0, .string a0_1, .string a0_2, .string a0_3, .string a0_4]] w fun e w' => e = .returned (.bool r) ∧ Below w.heap.size w w' := by
 have hu43 := Tryz.underlying43
 have HB := A_ (Below.refl w.heap.size w)
 have H : ((r29_Parts.f k a0_2).bind fun bt238 => (if bt238.2 = true then (if a0_0 = 3 then ((r29_Stars.f k bt238.1).bind fun t242 => (if 0 ≤ t242 then (if (t242 : Int).toNat ≤ 17592186044416 then ((r29_Fill.f k a0_3 (List.replicate (t242 : Int).toNat (⟨#[]⟩ : ByteArray))).bind fun bt246 => (if bt246.2 = true then ((r29_told.f k a0_1).bind fun t248 => (if t248 = true then ((r29_told.f k a0_4).bind fun t249 => (some t249)) else (some false))) else (some false))) else (none)) else (none))) else (if a0_0 = 1 then (r29_One.j0 k a0_0 (a0_0 == 1) a0_0 a0_1 a0_2 a0_3 a0_4) else (r29_One.j0 k a0_0 (a0_0 == 2) a0_0 a0_1 a0_2 a0_3 a0_4))) else (some false))) = some r := h
 clear h
 replace H := Option.bind_eq_some_iff.mp H
 obtain ⟨⟨t238, t239⟩, A20, H⟩ := H
 replace H : (if t239 = true then (if a0_0 = 3 then ((r29_Stars.f k t238).bind fun t242 => (if 0 ≤ t242 then (if (t242 : Int).toNat ≤ 17592186044416 then ((r29_Fill.f k a0_3 (List.replicate (t242 : Int).toNat (⟨#[]⟩ : ByteArray))).bind fun bt246 => (if bt246.2 = true then ((r29_told.f k a0_1).bind fun t248 => (if t248 = true then ((r29_told.f k a0_4).bind fun t249 => (some t249)) else (some false))) else (some false))) else (none)) else (none))) else (if a0_0 = 1 then (r29_One.j0 k a0_0 (a0_0 == 1) a0_0 a0_1 a0_2 a0_3 a0_4) else (r29_One.j0 k a0_0 (a0_0 == 2) a0_0 a0_1 a0_2 a0_3 a0_4))) else (some false)) = some r := H
 have A2 := A_ A20
 clear A20
 by_cases c3 : t239 = true
 rotate_left
 ·replace c3 := Bool.eq_false_iff.mpr c3
  subst c3
  have H1 : (some false) = some r := by rw [if_neg (show ¬ (false = true) by decide)] at H; exact H
  clear H
  have H := H1
  clear H1
  obtain rfl := Option.some.inj H
  go_enter Tryz.func36, Tryz.ntmps36
  go_wp2_with (first | ((with_reducible refine gate_dst (N := 1) rfl ?_); (try (refine gate_guard (by rfl) ?_; dsimp only)); refine box_event ?hg (N := 1) ?hd (cs := #[.int .i64 a0_0, .string a0_1, .string a0_2, .string a0_3, .string a0_4]) (t := 43) ?hr ?_; (case hd => rfl); (case hg => rfl); (case hr => (go_simp; done)); intro gb237 hg w55 hbox hb; have n0_ := A_ (below_step HB.out hb); have n1_ := A_ (hbox); have n2_ := A_ ((by rw [hg]; exact (below_size HB.out) : w.heap.size ≤ gb237)); have n3_ := A_ ((by rw [hg]; exact (below_size HB.out) : w.heap.size ≤ gb237)); clear HB; have HB := n0_; have BK237 := n1_; have GW237 := n2_; have GE237 := n3_; clear n0_ n1_ n2_ n3_; clear hb hbox hg; have hcz56_0 : w55.cell? ⟨gb237, 0, none⟩ = some (.int .i64 a0_0) := (blk_cell BK237.out 0).trans rfl; have hcz56_1 : w55.cell? ⟨gb237, 1, none⟩ = some (.string a0_1) := (blk_cell BK237.out 1).trans rfl; have hcz56_2 : w55.cell? ⟨gb237, 2, none⟩ = some (.string a0_2) := (blk_cell BK237.out 2).trans rfl; have hcz56_3 : w55.cell? ⟨gb237, 3, none⟩ = some (.string a0_3) := (blk_cell BK237.out 3).trans rfl; have hcz56_4 : w55.cell? ⟨gb237, 4, none⟩ = some (.string a0_4) := (blk_cell BK237.out 4).trans rfl; have hfz56_0 := blk_frozen BK237.out 0; have hfz56_1 := blk_frozen BK237.out 1; have hfz56_2 := blk_frozen BK237.out 2; have hfz56_3 := blk_frozen BK237.out 3; have hfz56_4 := blk_frozen BK237.out 4) | ((with_reducible refine gate_callee (f := 29) rfl ?_); refine goesL_ (some 10) rfl rfl Tryz.func29 (by kernel_rfl) rfl #[.string a0_2] rfl mp_ ?_; (with_reducible refine (r29_Parts.calls k a0_2 t238 false _ A2.out).mono ?_); rintro e w57 ⟨v240, rfl, ho0, hb⟩; refine ⟨_, rfl, ?_⟩; have n0_ := A_ (Kd.R_lower ho0 (below_size HB.out)); have n1_ := A_ (blk_below (g := gb237) (o := .cells #[.int .i64 a0_0, .string a0_1, .string a0_2, .string a0_3, .string a0_4] 43 (0, 0)) (bk_ BK237.out) hb); have n2_ := A_ (below_step HB.out hb); clear BK237; clear HB; have HO241 := n0_; have BK237 := n1_; have HB := n2_; clear n0_ n1_ n2_; (try clear hb); (try clear hb2); (try clear hk); (try clear hi); (try clear ho0)))
  go_ret
  exact ⟨by rfl, HB.out⟩
 subst c3
 have H1 : (if a0_0 = 3 then ((r29_Stars.f k t238).bind fun t242 => (if 0 ≤ t242 then (if (t242 : Int).toNat ≤ 17592186044416 then ((r29_Fill.f k a0_3 (List.replicate (t242 : Int).toNat (⟨#[]⟩ : ByteArray))).bind fun bt246 => (if bt246.2 = true then ((r29_told.f k a0_1).bind fun t248 => (if t248 = true then ((r29_told.f k a0_4).bind fun t249 => (some t249)) else (some false))) else (some false))) else (none)) else (none))) else (if a0_0 = 1 then (r29_One.j0 k a0_0 (a0_0 == 1) a0_0 a0_1 a0_2 a0_3 a0_4) else (r29_One.j0 k a0_0 (a0_0 == 2) a0_0 a0_1 a0_2 a0_3 a0_4))) = some r := by rw [if_pos rfl] at H; exact H
 clear H
 have H := H1
 clear H1
 by_cases c4 : a0_0 = 3
 rotate_left
 ·rw [if_neg c4] at H
  have c4b0 : (a0_0 == 3) = false := beq_eq_false_iff_ne.mpr c4
  have c4b1 : (a0_0 != 3) = true := bne_iff_ne.mpr c4
  have HC42 := A_ H
  clear H
  go_enter Tryz.func36, Tryz.ntmps36
  go_upto_if 39 with (first | ((with_reducible refine gate_dst (N := 1) rfl ?_); (try (refine gate_guard (by rfl) ?_; dsimp only)); refine box_event ?hg (N := 1) ?hd (cs := #[.int .i64 a0_0, .string a0_1, .string a0_2, .string a0_3, .string a0_4]) (t := 43) ?hr ?_; (case hd => rfl); (case hg => rfl); (case hr => (go_simp; done)); intro gb237 hg w43 hbox hb; have n0_ := A_ (below_step HB.out hb); have n1_ := A_ (hbox); have n2_ := A_ ((by rw [hg]; exact (below_size HB.out) : w.heap.size ≤ gb237)); have n3_ := A_ ((by rw [hg]; exact (below_size HB.out) : w.heap.size ≤ gb237)); clear HB; have HB := n0_; have BK237 := n1_; have GW237 := n2_; have GE237 := n3_; clear n0_ n1_ n2_ n3_; clear hb hbox hg; have hcz44_0 : w43.cell? ⟨gb237, 0, none⟩ = some (.int .i64 a0_0) := (blk_cell BK237.out 0).trans rfl; have hcz44_1 : w43.cell? ⟨gb237, 1, none⟩ = some (.string a0_1) := (blk_cell BK237.out 1).trans rfl; have hcz44_2 : w43.cell? ⟨gb237, 2, none⟩ = some (.string a0_2) := (blk_cell BK237.out 2).trans rfl; have hcz44_3 : w43.cell? ⟨gb237, 3, none⟩ = some (.string a0_3) := (blk_cell BK237.out 3).trans rfl; have hcz44_4 : w43.cell? ⟨gb237, 4, none⟩ = some (.string a0_4) := (blk_cell BK237.out 4).trans rfl; have hfz44_0 := blk_frozen BK237.out 0; have hfz44_1 := blk_frozen BK237.out 1; have hfz44_2 := blk_frozen BK237.out 2; have hfz44_3 := blk_frozen BK237.out 3; have hfz44_4 := blk_frozen BK237.out 4) | ((with_reducible refine gate_callee (f := 29) rfl ?_); refine goesL_ (some 10) rfl rfl Tryz.func29 (by kernel_rfl) rfl #[.string a0_2] rfl mp_ ?_; (with_reducible refine (r29_Parts.calls k a0_2 t238 true _ A2.out).mono ?_); rintro e w45 ⟨v240, rfl, ho0, hb⟩; refine ⟨_, rfl, ?_⟩; have n0_ := A_ (Kd.R_lower ho0 (below_size HB.out)); have n1_ := A_ (blk_below (g := gb237) (o := .cells #[.int .i64 a0_0, .string a0_1, .string a0_2, .string a0_3, .string a0_4] 43 (0, 0)) (bk_ BK237.out) hb); have n2_ := A_ (below_step HB.out hb); clear BK237; clear HB; have HO241 := n0_; have BK237 := n1_; have HB := n2_; clear n0_ n1_ n2_; (try clear hb); (try clear hb2); (try clear hk); (try clear hi); (try clear ho0); have hcz46_0 : w45.cell? ⟨gb237, 0, none⟩ = some (.int .i64 a0_0) := (blk_cell BK237.out 0).trans rfl; have hcz46_1 : w45.cell? ⟨gb237, 1, none⟩ = some (.string a0_1) := (blk_cell BK237.out 1).trans rfl; have hcz46_2 : w45.cell? ⟨gb237, 2, none⟩ = some (.string a0_2) := (blk_cell BK237.out 2).trans rfl; have hcz46_3 : w45.cell? ⟨gb237, 3, none⟩ = some (.string a0_3) := (blk_cell BK237.out 3).trans rfl; have hcz46_4 : w45.cell? ⟨gb237, 4, none⟩ = some (.string a0_4) := (blk_cell BK237.out 4).trans rfl; have hfz46_0 := blk_frozen BK237.out 0; have hfz46_1 := blk_frozen BK237.out 1; have hfz46_2 := blk_frozen BK237.out 2; have hfz46_3 := blk_frozen BK237.out 3; have hfz46_4 := blk_frozen BK237.out 4))
  (try simp only [Act.put,s1_,s2_,s3_])
  go_cut [39] (fun v39 wc => ∃ (kq : Nat) (x39_41 : Bool), v39 = .bool x39_41 ∧ Aside0 (r29_One.j0 kq a0_0 x39_41 a0_0 a0_1 a0_2 a0_3 a0_4 = some r) ∧ Aside0 (kq ≤ k) ∧ Aside0 (wc.heap[gb237]? = some (.cells #[.int .i64 a0_0, .string a0_1, .string a0_2, .string a0_3, .string a0_4] 43 (0, 0))) ∧ Aside0 (Below w.heap.size w wc))
  case first =>
   have H := HC42.out
   clear HC42
   by_cases c47 : a0_0 = 1
   rotate_left
   ·rw [if_neg c47] at H
    have c47b0 : (a0_0 == 1) = false := beq_eq_false_iff_ne.mpr c47
    have c47b1 : (a0_0 != 1) = true := bne_iff_ne.mpr c47
    (rw [c47b0])
    have H' := A_ H
    clear H
    go_wp2
    go_meet
    case rel => exact ⟨_, ((a0_0 == 2)), (by rfl), H', ⟨by omega⟩, ⟨bk_ BK237.out⟩, ⟨HB.out⟩⟩
   rw [if_pos c47] at H
   have c47b0 : (a0_0 == 1) = true := beq_iff_eq.mpr c47
   have c47b1 : (a0_0 != 1) = false := bne_eq_false_iff_eq.mpr c47
   clear c47
   (rw [c47b0])
   have H' := A_ H
   clear H
   go_wp2
   go_meet
   case rel => exact ⟨_, ((a0_0 == 1)), (by (simp [*]; done)), H', ⟨by omega⟩, ⟨bk_ BK237.out⟩, ⟨HB.out⟩⟩
  case rest =>
   clear HC42
   try clear c1
   try clear c2
   try clear p2
   try clear c3
   try clear c4
   try clear c4b0
   try clear c4b1
   try clear c5
   try clear c6
   try clear c6b0
   try clear c6b1
   try clear c7
   try clear c7b0
   try clear c7b1
   try clear c9
   try clear c11
   try clear c15
   try clear c29
   try clear c36
   try clear c47
   try clear c47b0
   try clear c47b1
   try clear hcz14_0
   try clear hcz14_1
   try clear hcz14_2
   try clear hcz14_3
   try clear hcz14_4
   try clear hcz16_0
   try clear hcz16_1
   try clear hcz16_2
   try clear hcz16_3
   try clear hcz16_4
   try clear hcz22_0
   try clear hcz22_1
   try clear hcz22_2
   try clear hcz22_3
   try clear hcz22_4
   try clear hcz24_0
   try clear hcz24_1
   try clear hcz24_2
   try clear hcz24_3
   try clear hcz24_4
   try clear hcz26_0
   try clear hcz26_1
   try clear hcz26_2
   try clear hcz26_3
   try clear hcz26_4
   try clear hcz32_0
   try clear hcz32_1
   try clear hcz32_2
   try clear hcz32_3
   try clear hcz32_4
   try clear hcz34_0
   try clear hcz34_1
   try clear hcz34_2
   try clear hcz34_3
   try clear hcz34_4
   try clear hcz36_0
   try clear hcz36_1
   try clear hcz36_2
   try clear hcz36_3
   try clear hcz36_4
   try clear hcz44_0
   try clear hcz44_1
   try clear hcz44_2
   try clear hcz44_3
   try clear hcz44_4
   try clear hcz46_0
   try clear hcz46_1
   try clear hcz46_2
   try clear hcz46_3
   try clear hcz46_4
   try clear hfz14_0
   try clear hfz14_1
   try clear hfz14_2
   try clear hfz14_3
   try clear hfz14_4
   try clear hfz16_0
   try clear hfz16_1
   try clear hfz16_2
   try clear hfz16_3
   try clear hfz16_4
   try clear hfz22_0
   try clear hfz22_1
   try clear hfz22_2
   try clear hfz22_3
   try clear hfz22_4
   try clear hfz24_0
   try clear hfz24_1
   try clear hfz24_2
   try clear hfz24_3
   try clear hfz24_4
   try clear hfz26_0
   try clear hfz26_1
   try clear hfz26_2
   try clear hfz26_3
   try clear hfz26_4
   try clear hfz32_0
   try clear hfz32_1
   try clear hfz32_2
   try clear hfz32_3
   try clear hfz32_4
   try clear hfz34_0
   try clear hfz34_1
   try clear hfz34_2
   try clear hfz34_3
   try clear hfz34_4
   try clear hfz36_0
   try clear hfz36_1
   try clear hfz36_2
   try clear hfz36_3
   try clear hfz36_4
   try clear hfz44_0
   try clear hfz44_1
   try clear hfz44_2
   try clear hfz44_3
   try clear hfz44_4
   try clear hfz46_0
   try clear hfz46_1
   try clear hfz46_2
   try clear hfz46_3
   try clear hfz46_4
   obtain ⟨kq, x39_41, rfl, HA, HJ41, BK237, HB⟩ := hcut
   cases kq with
   | zero => exact absurd HA.out (by simp [r29_One.j0])
   | succ kj41 =>
    have H := HA.out
    clear HA
    simp only [r29_One.j0] at H
    by_cases c48 : x39_41 = true
    rotate_left
    ·replace c48 := Bool.eq_false_iff.mpr c48
     subst c48
     have H1 : (if a0_0 = 4 then (some ((wrap64 ((wrap64 ((a0_1.size : Int) + (a0_3.size : Int))) + (a0_4.size : Int))) == 0)) else (some false)) = some r := by rw [if_neg (show ¬ (false = true) by decide)] at H; exact H
     clear H
     have H := H1
     clear H1
     by_cases c53 : a0_0 = 4
     rotate_left
     ·rw [if_neg c53] at H
      have c53b0 : (a0_0 == 4) = false := beq_eq_false_iff_ne.mpr c53
      have c53b1 : (a0_0 != 4) = true := bne_iff_ne.mpr c53
      obtain rfl := Option.some.inj H
      go_wp2
      go_ret
      exact ⟨by rfl, HB.out⟩
     rw [if_pos c53] at H
     have c53b0 : (a0_0 == 4) = true := beq_iff_eq.mpr c53
     have c53b1 : (a0_0 != 4) = false := bne_eq_false_iff_eq.mpr c53
     clear c53
     obtain rfl := Option.some.inj H
     have hcz54_0 : wc.cell? ⟨gb237, 0, none⟩ = some (.int .i64 a0_0) := (blk_cell BK237.out 0).trans rfl
     have hcz54_1 : wc.cell? ⟨gb237, 1, none⟩ = some (.string a0_1) := (blk_cell BK237.out 1).trans rfl
     have hcz54_2 : wc.cell? ⟨gb237, 2, none⟩ = some (.string a0_2) := (blk_cell BK237.out 2).trans rfl
     have hcz54_3 : wc.cell? ⟨gb237, 3, none⟩ = some (.string a0_3) := (blk_cell BK237.out 3).trans rfl
     have hcz54_4 : wc.cell? ⟨gb237, 4, none⟩ = some (.string a0_4) := (blk_cell BK237.out 4).trans rfl
     have hfz54_0 := blk_frozen BK237.out 0
     have hfz54_1 := blk_frozen BK237.out 1
     have hfz54_2 := blk_frozen BK237.out 2
     have hfz54_3 := blk_frozen BK237.out 3
     have hfz54_4 := blk_frozen BK237.out 4
     go_wp2
     go_ret
     exact ⟨by rfl, HB.out⟩
    subst c48
    have H1 : ((r29_told.f kj41 a0_1).bind fun t250 => (if t250 = true then (some ((wrap64 ((a0_3.size : Int) + (a0_4.size : Int))) == 0)) else (some false))) = some r := by rw [if_pos rfl] at H; exact H
    clear H
    have H := H1
    clear H1
    replace H := Option.bind_eq_some_iff.mp H
    obtain ⟨t250, A490, H⟩ := H
    replace H : (if t250 = true then (some ((wrap64 ((a0_3.size : Int) + (a0_4.size : Int))) == 0)) else (some false)) = some r := H
    have A49 := A_ A490
    clear A490
    by_cases c50 : t250 = true
    ·subst c50
     have H1 : (some ((wrap64 ((a0_3.size : Int) + (a0_4.size : Int))) == 0)) = some r := by rw [if_pos rfl] at H; exact H
     clear H
     have H := H1
     clear H1
     obtain rfl := Option.some.inj H
     have hcz51_0 : wc.cell? ⟨gb237, 0, none⟩ = some (.int .i64 a0_0) := (blk_cell BK237.out 0).trans rfl
     have hcz51_1 : wc.cell? ⟨gb237, 1, none⟩ = some (.string a0_1) := (blk_cell BK237.out 1).trans rfl
     have hcz51_2 : wc.cell? ⟨gb237, 2, none⟩ = some (.string a0_2) := (blk_cell BK237.out 2).trans rfl
     have hcz51_3 : wc.cell? ⟨gb237, 3, none⟩ = some (.string a0_3) := (blk_cell BK237.out 3).trans rfl
     have hcz51_4 : wc.cell? ⟨gb237, 4, none⟩ = some (.string a0_4) := (blk_cell BK237.out 4).trans rfl
     have hfz51_0 := blk_frozen BK237.out 0
     have hfz51_1 := blk_frozen BK237.out 1
     have hfz51_2 := blk_frozen BK237.out 2
     have hfz51_3 := blk_frozen BK237.out 3
     have hfz51_4 := blk_frozen BK237.out 4
     go_wp2_with (first | ((with_reducible refine gate_callee (f := 54) rfl ?_); refine goesL_ (some 44) rfl rfl Tryz.func54 (by kernel_rfl) rfl #[.string a0_1] rfl mp_ ?_; (with_reducible refine (r29_told.calls kj41 a0_1 true _ A49.out).mono ?_); rintro e w' ⟨rfl, ⟨nd, rfl⟩⟩; refine ⟨_, rfl, ?_⟩))
     go_ret
     exact ⟨by rfl, by repeat ((with_reducible first | exact HB.out | apply pw_below_drewN))⟩
    replace c50 := Bool.eq_false_iff.mpr c50
    subst c50
    have H1 : (some false) = some r := by rw [if_neg (show ¬ (false = true) by decide)] at H; exact H
    clear H
    have H := H1
    clear H1
    obtain rfl := Option.some.inj H
    have hcz52_0 : wc.cell? ⟨gb237, 0, none⟩ = some (.int .i64 a0_0) := (blk_cell BK237.out 0).trans rfl
    have hcz52_1 : wc.cell? ⟨gb237, 1, none⟩ = some (.string a0_1) := (blk_cell BK237.out 1).trans rfl
    have hcz52_2 : wc.cell? ⟨gb237, 2, none⟩ = some (.string a0_2) := (blk_cell BK237.out 2).trans rfl
    have hcz52_3 : wc.cell? ⟨gb237, 3, none⟩ = some (.string a0_3) := (blk_cell BK237.out 3).trans rfl
    have hcz52_4 : wc.cell? ⟨gb237, 4, none⟩ = some (.string a0_4) := (blk_cell BK237.out 4).trans rfl
    have hfz52_0 := blk_frozen BK237.out 0
    have hfz52_1 := blk_frozen BK237.out 1
    have hfz52_2 := blk_frozen BK237.out 2
    have hfz52_3 := blk_frozen BK237.out 3
    have hfz52_4 := blk_frozen BK237.out 4
    go_wp2_with (first | ((with_reducible refine gate_callee (f := 54) rfl ?_); refine goesL_ (some 44) rfl rfl Tryz.func54 (by kernel_rfl) rfl #[.string a0_1] rfl mp_ ?_; (with_reducible refine (r29_told.calls kj41 a0_1 false _ A49.out).mono ?_); rintro e w' ⟨rfl, ⟨nd, rfl⟩⟩; refine ⟨_, rfl, ?_⟩))
    go_ret
    exact ⟨by rfl, by repeat ((with_reducible first | exact HB.out | apply pw_below_drewN))⟩
 rw [if_pos c4] at H
 have c4b0 : (a0_0 == 3) = true := beq_iff_eq.mpr c4
 have c4b1 : (a0_0 != 3) = false := bne_eq_false_iff_eq.mpr c4
 clear c4
 replace H := Option.bind_eq_some_iff.mp H
 obtain ⟨t242, A50, H⟩ := H
 replace H : (if 0 ≤ t242 then (if (t242 : Int).toNat ≤ 17592186044416 then ((r29_Fill.f k a0_3 (List.replicate (t242 : Int).toNat (⟨#[]⟩ : ByteArray))).bind fun bt246 => (if bt246.2 = true then ((r29_told.f k a0_1).bind fun t248 => (if t248 = true then ((r29_told.f k a0_4).bind fun t249 => (some t249)) else (some false))) else (some false))) else (none)) else (none)) = some r := H
 have A5 := A_ A50
 clear A50
 by_cases c6 : 0 ≤ t242
 rotate_left
 ·rw [if_neg c6] at H
  exact absurd H (by simp)
 rw [if_pos c6] at H
 have c6b0 := eq_true c6
 have c6b1 := decide_eq_true c6
 clear c6
 by_cases c7 : (t242 : Int).toNat ≤ 17592186044416
 rotate_left
 ·rw [if_neg c7] at H
  exact absurd H (by simp)
 rw [if_pos c7] at H
 have c7b0 := eq_true c7
 have c7b1 := decide_eq_true c7
 clear c7
 obtain ⟨y243, hy243⟩ : ∃ y_ : List ByteArray, y_ = (List.replicate (t242 : Int).toNat (⟨#[]⟩ : ByteArray)) := ⟨_, rfl⟩
 replace H : ((r29_Fill.f k a0_3 y243).bind fun bt246 => (if bt246.2 = true then ((r29_told.f k a0_1).bind fun t248 => (if t248 = true then ((r29_told.f k a0_4).bind fun t249 => (some t249)) else (some false))) else (some false))) = some r := by (rw [hy243]; with_reducible exact H)
 have Ny243 := A_ hy243
 clear hy243
 replace H := Option.bind_eq_some_iff.mp H
 obtain ⟨⟨t246, t247⟩, A80, H⟩ := H
 replace H : (if t247 = true then ((r29_told.f k a0_1).bind fun t248 => (if t248 = true then ((r29_told.f k a0_4).bind fun t249 => (some t249)) else (some false))) else (some false)) = some r := H
 have A8 := A_ A80
 clear A80
 by_cases c9 : t247 = true
 rotate_left
 ·replace c9 := Bool.eq_false_iff.mpr c9
  subst c9
  have H1 : (some false) = some r := by rw [if_neg (show ¬ (false = true) by decide)] at H; exact H
  clear H
  have H := H1
  clear H1
  obtain rfl := Option.some.inj H
  go_enter Tryz.func36, Tryz.ntmps36
  try go_wp2_with (first | ((with_reducible refine gate_dst (N := 1) rfl ?_); (try (refine gate_guard (by rfl) ?_; dsimp only)); refine box_event ?hg (N := 1) ?hd (cs := #[.int .i64 a0_0, .string a0_1, .string a0_2, .string a0_3, .string a0_4]) (t := 43) ?hr ?_; (case hd => rfl); (case hg => rfl); (case hr => (go_simp; done)); intro gb237 hg w33 hbox hb; have n0_ := A_ (below_step HB.out hb); have n1_ := A_ (hbox); have n2_ := A_ ((by rw [hg]; exact (below_size HB.out) : w.heap.size ≤ gb237)); have n3_ := A_ ((by rw [hg]; exact (below_size HB.out) : w.heap.size ≤ gb237)); clear HB; have HB := n0_; have BK237 := n1_; have GW237 := n2_; have GE237 := n3_; clear n0_ n1_ n2_ n3_; clear hb hbox hg; have hcz34_0 : w33.cell? ⟨gb237, 0, none⟩ = some (.int .i64 a0_0) := (blk_cell BK237.out 0).trans rfl; have hcz34_1 : w33.cell? ⟨gb237, 1, none⟩ = some (.string a0_1) := (blk_cell BK237.out 1).trans rfl; have hcz34_2 : w33.cell? ⟨gb237, 2, none⟩ = some (.string a0_2) := (blk_cell BK237.out 2).trans rfl; have hcz34_3 : w33.cell? ⟨gb237, 3, none⟩ = some (.string a0_3) := (blk_cell BK237.out 3).trans rfl; have hcz34_4 : w33.cell? ⟨gb237, 4, none⟩ = some (.string a0_4) := (blk_cell BK237.out 4).trans rfl; have hfz34_0 := blk_frozen BK237.out 0; have hfz34_1 := blk_frozen BK237.out 1; have hfz34_2 := blk_frozen BK237.out 2; have hfz34_3 := blk_frozen BK237.out 3; have hfz34_4 := blk_frozen BK237.out 4) | ((with_reducible refine gate_callee (f := 29) rfl ?_); refine goesL_ (some 10) rfl rfl Tryz.func29 (by kernel_rfl) rfl #[.string a0_2] rfl mp_ ?_; (with_reducible refine (r29_Parts.calls k a0_2 t238 true _ A2.out).mono ?_); rintro e w35 ⟨v240, rfl, ho0, hb⟩; refine ⟨_, rfl, ?_⟩; have n0_ := A_ (Kd.R_lower ho0 (below_size HB.out)); have n1_ := A_ (blk_below (g := gb237) (o := .cells #[.int .i64 a0_0, .string a0_1, .string a0_2, .string a0_3, .string a0_4] 43 (0, 0)) (bk_ BK237.out) hb); have n2_ := A_ (below_step HB.out hb); clear BK237; clear HB; have HO241 := n0_; have BK237 := n1_; have HB := n2_; clear n0_ n1_ n2_; (try clear hb); (try clear hb2); (try clear hk); (try clear hi); (try clear ho0); have hcz36_0 : w35.cell? ⟨gb237, 0, none⟩ = some (.int .i64 a0_0) := (blk_cell BK237.out 0).trans rfl; have hcz36_1 : w35.cell? ⟨gb237, 1, none⟩ = some (.string a0_1) := (blk_cell BK237.out 1).trans rfl; have hcz36_2 : w35.cell? ⟨gb237, 2, none⟩ = some (.string a0_2) := (blk_cell BK237.out 2).trans rfl; have hcz36_3 : w35.cell? ⟨gb237, 3, none⟩ = some (.string a0_3) := (blk_cell BK237.out 3).trans rfl; have hcz36_4 : w35.cell? ⟨gb237, 4, none⟩ = some (.string a0_4) := (blk_cell BK237.out 4).trans rfl; have hfz36_0 := blk_frozen BK237.out 0; have hfz36_1 := blk_frozen BK237.out 1; have hfz36_2 := blk_frozen BK237.out 2; have hfz36_3 := blk_frozen BK237.out 3; have hfz36_4 := blk_frozen BK237.out 4))
  have n0_ := A_ (Kd.R_drew HO241.out)
  have n1_ := A_ (blk_drew BK237.out)
  have n2_ := A_ (below_drew1 HB.out)
  clear HO241
  clear BK237
  clear HB
  have HO241 := n0_
  have BK237 := n1_
  have HB := n2_
  clear n0_ n1_ n2_
  obtain ⟨Ao38, co38, eo38⟩ := Kd.R_slice HO241.out
  (subst eo38)
  refine start_ (n := 11) (S := fun w' => w'.cell? ⟨gb237, 0, none⟩ = some (.int .i64 a0_0) ∧ w'.cell? ⟨gb237, 1, none⟩ = some (.string a0_1) ∧ w'.cell? ⟨gb237, 2, none⟩ = some (.string a0_2) ∧ w'.cell? ⟨gb237, 3, none⟩ = some (.string a0_3) ∧ w'.cell? ⟨gb237, 4, none⟩ = some (.string a0_4)) (ds := []) #[F_,F_,F_,F_,F_,F_,F_,F_,F_,F_,F_] (by kernel_rfl) rfl rfl ⟨(blk_cell BK237.out 0).trans rfl, (blk_cell BK237.out 1).trans rfl, (blk_cell BK237.out 2).trans rfl, (blk_cell BK237.out 3).trans rfl, (blk_cell BK237.out 4).trans rfl⟩ (fun hHeld => ?_); refine with_tabW r29_One.tab6 r29_One.bits6 (fun HT_ HW_ => ?_)
  generalize w35.drew = w37 at HO241 BK237 HB hHeld ⊢
  refine pu_ 0 (some 20) #[T_,F_,F_,F_,F_,F_,F_,F_,F_,F_,F_] HT_.out rfl rfl ?_
  refine pu_ 2 (some 22) #[T_,F_,T_,F_,F_,F_,F_,F_,F_,F_,F_] HT_.out rfl rfl ?_
  refine take_ (i := 1) (N := some 21) (v := ?_) (a' := ?_) #[T_,T_,T_,F_,F_,F_,F_,F_,F_,F_,F_] rfl rfl (take_ofW HT_.out HW_.out (by kernel_rfl)) (fun _ _ _ h => h) (Or.inl ⟨by rfl, ?_⟩) hHeld ?_ ?_
  rotate_left
  ·rintro w' ⟨s0, s1, s2, s3, s4⟩
   go_simp
   with_reducible rfl
  rotate_left
  ·simp only [Act.put,s1_,s2_,s3_, i64_w, i32_w]
   rfl
  refine one_ (i := 3) (N := some 23) #[T_,T_,T_,T_,F_,F_,F_,F_,F_,F_,F_] rfl rfl (one_of HT_.out (by kernel_rfl)) (by decide) (fun K hK => ?_)
  refine goes_ Tryz.func53 (by kernel_rfl) rfl #[.slice Ao38 t238.length co38] (by rfl) rfl rfl mp_ ?_
  with_reducible refine (r29_Stars.calls k _ _ t238 t242 _ ?side1 ?side2 A5.out).mono ?_
  (case side1 => repeat (exact (Kd.R_reads' HO241.out).2.2))
  (case side2 => exact (Kd.R_reads' HO241.out).2.1)
  rintro e w' ⟨rfl, ⟨nd, rfl⟩⟩
  refine ⟨_, rfl, ?_⟩
  refine hK.out _ _ ⟨(blk_cell BK237.out 0).trans rfl, (blk_cell BK237.out 1).trans rfl, (blk_cell BK237.out 2).trans rfl, (blk_cell BK237.out 3).trans rfl, (blk_cell BK237.out 4).trans rfl⟩ (fun hHeld => ?_)
  clear hK K
  refine norm_ (a' := ?_) ?_ ?_
  rotate_left
  ·show Act.put _ (some 23) _ = _
   simp only [Act.put,s1_,s2_,s3_, i64_w, i32_w]
   rfl
  refine one_ (i := 4) (N := some 24) #[T_,T_,T_,T_,T_,F_,F_,F_,F_,F_,F_] rfl rfl (one_of HT_.out (by kernel_rfl)) (by decide) (fun K hK => ?_)
  refine Kd.R_make_step Kd.string _ 9 (by rfl) (N := 24) rfl 23 _ _ rfl t242 rfl rfl Tryz.underlying23 (.string ⟨#[]⟩) 16 info9 rfl (by decide) (by omega) (⟨#[]⟩ : ByteArray) (ok := fun _ => True) (okp := fun _ => True) rfl (fun _ hk => hk) trivial (od_) (Nat.le_trans (Nat.mul_le_mul_right _ (od_ : t242.toNat ≤ 17592186044416)) (by omega)) (Below.refl _ _) (Nat.le_refl _) ?_
  intro v244 w39 ho40 hb hg_ hnew_
  clear hg_ hnew_
  (rw [← Ny243.out] at ho40)
  have n0_ := A_ (Kd.R_below (by (with_reducible repeat (apply Kd.R_drewN)); exact HO241.out) hb)
  have n1_ := A_ (Kd.R_lower ho40 (below_size (by repeat ((with_reducible first | exact HB.out | apply pw_below_drewN)))))
  have n2_ := A_ (blk_below (g := gb237) (o := .cells #[.int .i64 a0_0, .string a0_1, .string a0_2, .string a0_3, .string a0_4] 43 (0, 0)) (by (with_reducible repeat (refine blk_drewN ?_ _)); exact BK237.out) hb)
  have n3_ := A_ (below_step (by repeat ((with_reducible first | exact HB.out | apply pw_below_drewN))) hb)
  clear HO241
  clear BK237
  clear HB
  have HO241 := n0_
  have HO245 := n1_
  have BK237 := n2_
  have HB := n3_
  clear n0_ n1_ n2_ n3_
  clear hb ho40
  obtain ⟨Ao41, co41, eo41⟩ := Kd.R_slice HO245.out
  (subst eo41)
  refine hK.out _ _ ⟨(blk_cell BK237.out 0).trans rfl, (blk_cell BK237.out 1).trans rfl, (blk_cell BK237.out 2).trans rfl, (blk_cell BK237.out 3).trans rfl, (blk_cell BK237.out 4).trans rfl⟩ (fun hHeld => ?_)
  clear hK K
  refine norm_ (a' := ?_) ?_ ?_
  rotate_left
  ·show Act.put _ (some 24) _ = _
   simp only [Act.put,s1_,s2_,s3_, i64_w, i32_w]
   rfl
  refine one_ (i := 5) (N := some 25) #[T_,T_,T_,T_,T_,T_,F_,F_,F_,F_,F_] rfl rfl (one_of HT_.out (by kernel_rfl)) (by decide) (fun K hK => ?_)
  refine goes_ Tryz.func15 (by kernel_rfl) rfl #[.string a0_3, .slice Ao41 y243.length co41] (by rfl) rfl rfl mp_ ?_
  with_reducible refine (r29_Fill.calls k a0_3 _ _ y243 t246 false _ ?side1 ?side2 A8.out).mono ?_
  (case side1 => repeat (exact (Kd.R_reads' HO245.out).2.2))
  (case side2 => exact (Kd.R_reads' HO245.out).2.1)
  rintro e w' ⟨rfl, ⟨nd, rfl⟩⟩
  refine ⟨_, rfl, ?_⟩
  refine hK.out _ _ ⟨(blk_cell BK237.out 0).trans rfl, (blk_cell BK237.out 1).trans rfl, (blk_cell BK237.out 2).trans rfl, (blk_cell BK237.out 3).trans rfl, (blk_cell BK237.out 4).trans rfl⟩ (fun hHeld => ?_)
  clear hK K
  refine norm_ (a' := ?_) ?_ ?_
  rotate_left
  ·show Act.put _ (some 25) _ = _
   simp only [Act.put,s1_,s2_,s3_, i64_w, i32_w]
   rfl
  refine pu_ 6 (some 19) #[T_,T_,T_,T_,T_,T_,T_,F_,F_,F_,F_] HT_.out rfl rfl ?_
  refine pu_ 7 (some 26) #[T_,T_,T_,T_,T_,T_,T_,T_,F_,F_,F_] HT_.out rfl rfl ?_
  refine pu_ 8 (some 27) #[T_,T_,T_,T_,T_,T_,T_,T_,T_,F_,F_] HT_.out rfl rfl ?_
  refine pu_ 9 (some 5) #[T_,T_,T_,T_,T_,T_,T_,T_,T_,T_,F_] HT_.out rfl rfl ?_
  refine pu_ 10 (some 6) #[T_,T_,T_,T_,T_,T_,T_,T_,T_,T_,T_] HT_.out rfl rfl ?_
  refine done_ (done_of HT_.out (by kernel_rfl)) ?_
  try go_wp2
  go_ret
  exact ⟨by rfl, by repeat ((with_reducible first | exact HB.out | apply pw_below_drewN))⟩
 subst c9
 have H1 : ((r29_told.f k a0_1).bind fun t248 => (if t248 = true then ((r29_told.f k a0_4).bind fun t249 => (some t249)) else (some false))) = some r := by rw [if_pos rfl] at H; exact H
 clear H
 have H := H1
 clear H1
 replace H := Option.bind_eq_some_iff.mp H
 obtain ⟨t248, A100, H⟩ := H
 replace H : (if t248 = true then ((r29_told.f k a0_4).bind fun t249 => (some t249)) else (some false)) = some r := H
 have A10 := A_ A100
 clear A100
 by_cases c11 : t248 = true
 rotate_left
 ·replace c11 := Bool.eq_false_iff.mpr c11
  subst c11
  have H1 : (some false) = some r := by rw [if_neg (show ¬ (false = true) by decide)] at H; exact H
  clear H
  have H := H1
  clear H1
  obtain rfl := Option.some.inj H
  go_enter Tryz.func36, Tryz.ntmps36
  try go_wp2_with (first | ((with_reducible refine gate_dst (N := 1) rfl ?_); (try (refine gate_guard (by rfl) ?_; dsimp only)); refine box_event ?hg (N := 1) ?hd (cs := #[.int .i64 a0_0, .string a0_1, .string a0_2, .string a0_3, .string a0_4]) (t := 43) ?hr ?_; (case hd => rfl); (case hg => rfl); (case hr => (go_simp; done)); intro gb237 hg w23 hbox hb; have n0_ := A_ (below_step HB.out hb); have n1_ := A_ (hbox); have n2_ := A_ ((by rw [hg]; exact (below_size HB.out) : w.heap.size ≤ gb237)); have n3_ := A_ ((by rw [hg]; exact (below_size HB.out) : w.heap.size ≤ gb237)); clear HB; have HB := n0_; have BK237 := n1_; have GW237 := n2_; have GE237 := n3_; clear n0_ n1_ n2_ n3_; clear hb hbox hg; have hcz24_0 : w23.cell? ⟨gb237, 0, none⟩ = some (.int .i64 a0_0) := (blk_cell BK237.out 0).trans rfl; have hcz24_1 : w23.cell? ⟨gb237, 1, none⟩ = some (.string a0_1) := (blk_cell BK237.out 1).trans rfl; have hcz24_2 : w23.cell? ⟨gb237, 2, none⟩ = some (.string a0_2) := (blk_cell BK237.out 2).trans rfl; have hcz24_3 : w23.cell? ⟨gb237, 3, none⟩ = some (.string a0_3) := (blk_cell BK237.out 3).trans rfl; have hcz24_4 : w23.cell? ⟨gb237, 4, none⟩ = some (.string a0_4) := (blk_cell BK237.out 4).trans rfl; have hfz24_0 := blk_frozen BK237.out 0; have hfz24_1 := blk_frozen BK237.out 1; have hfz24_2 := blk_frozen BK237.out 2; have hfz24_3 := blk_frozen BK237.out 3; have hfz24_4 := blk_frozen BK237.out 4) | ((with_reducible refine gate_callee (f := 29) rfl ?_); refine goesL_ (some 10) rfl rfl Tryz.func29 (by kernel_rfl) rfl #[.string a0_2] rfl mp_ ?_; (with_reducible refine (r29_Parts.calls k a0_2 t238 true _ A2.out).mono ?_); rintro e w25 ⟨v240, rfl, ho0, hb⟩; refine ⟨_, rfl, ?_⟩; have n0_ := A_ (Kd.R_lower ho0 (below_size HB.out)); have n1_ := A_ (blk_below (g := gb237) (o := .cells #[.int .i64 a0_0, .string a0_1, .string a0_2, .string a0_3, .string a0_4] 43 (0, 0)) (bk_ BK237.out) hb); have n2_ := A_ (below_step HB.out hb); clear BK237; clear HB; have HO241 := n0_; have BK237 := n1_; have HB := n2_; clear n0_ n1_ n2_; (try clear hb); (try clear hb2); (try clear hk); (try clear hi); (try clear ho0); have hcz26_0 : w25.cell? ⟨gb237, 0, none⟩ = some (.int .i64 a0_0) := (blk_cell BK237.out 0).trans rfl; have hcz26_1 : w25.cell? ⟨gb237, 1, none⟩ = some (.string a0_1) := (blk_cell BK237.out 1).trans rfl; have hcz26_2 : w25.cell? ⟨gb237, 2, none⟩ = some (.string a0_2) := (blk_cell BK237.out 2).trans rfl; have hcz26_3 : w25.cell? ⟨gb237, 3, none⟩ = some (.string a0_3) := (blk_cell BK237.out 3).trans rfl; have hcz26_4 : w25.cell? ⟨gb237, 4, none⟩ = some (.string a0_4) := (blk_cell BK237.out 4).trans rfl; have hfz26_0 := blk_frozen BK237.out 0; have hfz26_1 := blk_frozen BK237.out 1; have hfz26_2 := blk_frozen BK237.out 2; have hfz26_3 := blk_frozen BK237.out 3; have hfz26_4 := blk_frozen BK237.out 4))
  have n0_ := A_ (Kd.R_drew HO241.out)
  have n1_ := A_ (blk_drew BK237.out)
  have n2_ := A_ (below_drew1 HB.out)
  clear HO241
  clear BK237
  clear HB
  have HO241 := n0_
  have BK237 := n1_
  have HB := n2_
  clear n0_ n1_ n2_
  obtain ⟨Ao28, co28, eo28⟩ := Kd.R_slice HO241.out
  (subst eo28)
  refine start_ (n := 11) (S := fun w' => w'.cell? ⟨gb237, 0, none⟩ = some (.int .i64 a0_0) ∧ w'.cell? ⟨gb237, 1, none⟩ = some (.string a0_1) ∧ w'.cell? ⟨gb237, 2, none⟩ = some (.string a0_2) ∧ w'.cell? ⟨gb237, 3, none⟩ = some (.string a0_3) ∧ w'.cell? ⟨gb237, 4, none⟩ = some (.string a0_4)) (ds := []) #[F_,F_,F_,F_,F_,F_,F_,F_,F_,F_,F_] (by kernel_rfl) rfl rfl ⟨(blk_cell BK237.out 0).trans rfl, (blk_cell BK237.out 1).trans rfl, (blk_cell BK237.out 2).trans rfl, (blk_cell BK237.out 3).trans rfl, (blk_cell BK237.out 4).trans rfl⟩ (fun hHeld => ?_); refine with_tabW r29_One.tab6 r29_One.bits6 (fun HT_ HW_ => ?_)
  generalize w25.drew = w27 at HO241 BK237 HB hHeld ⊢
  refine pu_ 0 (some 20) #[T_,F_,F_,F_,F_,F_,F_,F_,F_,F_,F_] HT_.out rfl rfl ?_
  refine pu_ 2 (some 22) #[T_,F_,T_,F_,F_,F_,F_,F_,F_,F_,F_] HT_.out rfl rfl ?_
  refine take_ (i := 1) (N := some 21) (v := ?_) (a' := ?_) #[T_,T_,T_,F_,F_,F_,F_,F_,F_,F_,F_] rfl rfl (take_ofW HT_.out HW_.out (by kernel_rfl)) (fun _ _ _ h => h) (Or.inl ⟨by rfl, ?_⟩) hHeld ?_ ?_
  rotate_left
  ·rintro w' ⟨s0, s1, s2, s3, s4⟩
   go_simp
   with_reducible rfl
  rotate_left
  ·simp only [Act.put,s1_,s2_,s3_, i64_w, i32_w]
   rfl
  refine one_ (i := 3) (N := some 23) #[T_,T_,T_,T_,F_,F_,F_,F_,F_,F_,F_] rfl rfl (one_of HT_.out (by kernel_rfl)) (by decide) (fun K hK => ?_)
  refine goes_ Tryz.func53 (by kernel_rfl) rfl #[.slice Ao28 t238.length co28] (by rfl) rfl rfl mp_ ?_
  with_reducible refine (r29_Stars.calls k _ _ t238 t242 _ ?side1 ?side2 A5.out).mono ?_
  (case side1 => repeat (exact (Kd.R_reads' HO241.out).2.2))
  (case side2 => exact (Kd.R_reads' HO241.out).2.1)
  rintro e w' ⟨rfl, ⟨nd, rfl⟩⟩
  refine ⟨_, rfl, ?_⟩
  refine hK.out _ _ ⟨(blk_cell BK237.out 0).trans rfl, (blk_cell BK237.out 1).trans rfl, (blk_cell BK237.out 2).trans rfl, (blk_cell BK237.out 3).trans rfl, (blk_cell BK237.out 4).trans rfl⟩ (fun hHeld => ?_)
  clear hK K
  refine norm_ (a' := ?_) ?_ ?_
  rotate_left
  ·show Act.put _ (some 23) _ = _
   simp only [Act.put,s1_,s2_,s3_, i64_w, i32_w]
   rfl
  refine one_ (i := 4) (N := some 24) #[T_,T_,T_,T_,T_,F_,F_,F_,F_,F_,F_] rfl rfl (one_of HT_.out (by kernel_rfl)) (by decide) (fun K hK => ?_)
  refine Kd.R_make_step Kd.string _ 9 (by rfl) (N := 24) rfl 23 _ _ rfl t242 rfl rfl Tryz.underlying23 (.string ⟨#[]⟩) 16 info9 rfl (by decide) (by omega) (⟨#[]⟩ : ByteArray) (ok := fun _ => True) (okp := fun _ => True) rfl (fun _ hk => hk) trivial (od_) (Nat.le_trans (Nat.mul_le_mul_right _ (od_ : t242.toNat ≤ 17592186044416)) (by omega)) (Below.refl _ _) (Nat.le_refl _) ?_
  intro v244 w29 ho30 hb hg_ hnew_
  clear hg_ hnew_
  (rw [← Ny243.out] at ho30)
  have n0_ := A_ (Kd.R_below (by (with_reducible repeat (apply Kd.R_drewN)); exact HO241.out) hb)
  have n1_ := A_ (Kd.R_lower ho30 (below_size (by repeat ((with_reducible first | exact HB.out | apply pw_below_drewN)))))
  have n2_ := A_ (blk_below (g := gb237) (o := .cells #[.int .i64 a0_0, .string a0_1, .string a0_2, .string a0_3, .string a0_4] 43 (0, 0)) (by (with_reducible repeat (refine blk_drewN ?_ _)); exact BK237.out) hb)
  have n3_ := A_ (below_step (by repeat ((with_reducible first | exact HB.out | apply pw_below_drewN))) hb)
  clear HO241
  clear BK237
  clear HB
  have HO241 := n0_
  have HO245 := n1_
  have BK237 := n2_
  have HB := n3_
  clear n0_ n1_ n2_ n3_
  clear hb ho30
  obtain ⟨Ao31, co31, eo31⟩ := Kd.R_slice HO245.out
  (subst eo31)
  refine hK.out _ _ ⟨(blk_cell BK237.out 0).trans rfl, (blk_cell BK237.out 1).trans rfl, (blk_cell BK237.out 2).trans rfl, (blk_cell BK237.out 3).trans rfl, (blk_cell BK237.out 4).trans rfl⟩ (fun hHeld => ?_)
  clear hK K
  refine norm_ (a' := ?_) ?_ ?_
  rotate_left
  ·show Act.put _ (some 24) _ = _
   simp only [Act.put,s1_,s2_,s3_, i64_w, i32_w]
   rfl
  refine one_ (i := 5) (N := some 25) #[T_,T_,T_,T_,T_,T_,F_,F_,F_,F_,F_] rfl rfl (one_of HT_.out (by kernel_rfl)) (by decide) (fun K hK => ?_)
  refine goes_ Tryz.func15 (by kernel_rfl) rfl #[.string a0_3, .slice Ao31 y243.length co31] (by rfl) rfl rfl mp_ ?_
  with_reducible refine (r29_Fill.calls k a0_3 _ _ y243 t246 true _ ?side1 ?side2 A8.out).mono ?_
  (case side1 => repeat (exact (Kd.R_reads' HO245.out).2.2))
  (case side2 => exact (Kd.R_reads' HO245.out).2.1)
  rintro e w' ⟨rfl, ⟨nd, rfl⟩⟩
  refine ⟨_, rfl, ?_⟩
  refine hK.out _ _ ⟨(blk_cell BK237.out 0).trans rfl, (blk_cell BK237.out 1).trans rfl, (blk_cell BK237.out 2).trans rfl, (blk_cell BK237.out 3).trans rfl, (blk_cell BK237.out 4).trans rfl⟩ (fun hHeld => ?_)
  clear hK K
  refine norm_ (a' := ?_) ?_ ?_
  rotate_left
  ·show Act.put _ (some 25) _ = _
   simp only [Act.put,s1_,s2_,s3_, i64_w, i32_w]
   rfl
  refine pu_ 6 (some 19) #[T_,T_,T_,T_,T_,T_,T_,F_,F_,F_,F_] HT_.out rfl rfl ?_
  refine pu_ 7 (some 26) #[T_,T_,T_,T_,T_,T_,T_,T_,F_,F_,F_] HT_.out rfl rfl ?_
  refine pu_ 8 (some 27) #[T_,T_,T_,T_,T_,T_,T_,T_,T_,F_,F_] HT_.out rfl rfl ?_
  refine pu_ 9 (some 5) #[T_,T_,T_,T_,T_,T_,T_,T_,T_,T_,F_] HT_.out rfl rfl ?_
  refine pu_ 10 (some 6) #[T_,T_,T_,T_,T_,T_,T_,T_,T_,T_,T_] HT_.out rfl rfl ?_
  refine done_ (done_of HT_.out (by kernel_rfl)) ?_
  have hcz32_0 : w29.cell? ⟨gb237, 0, none⟩ = some (.int .i64 a0_0) := (blk_cell BK237.out 0).trans rfl
  have hcz32_1 : w29.cell? ⟨gb237, 1, none⟩ = some (.string a0_1) := (blk_cell BK237.out 1).trans rfl
  have hcz32_2 : w29.cell? ⟨gb237, 2, none⟩ = some (.string a0_2) := (blk_cell BK237.out 2).trans rfl
  have hcz32_3 : w29.cell? ⟨gb237, 3, none⟩ = some (.string a0_3) := (blk_cell BK237.out 3).trans rfl
  have hcz32_4 : w29.cell? ⟨gb237, 4, none⟩ = some (.string a0_4) := (blk_cell BK237.out 4).trans rfl
  have hfz32_0 := blk_frozen BK237.out 0
  have hfz32_1 := blk_frozen BK237.out 1
  have hfz32_2 := blk_frozen BK237.out 2
  have hfz32_3 := blk_frozen BK237.out 3
  have hfz32_4 := blk_frozen BK237.out 4
  try go_wp2_with (first | (go_at_call 54; (with_reducible refine (r29_told.calls k a0_1 false _ A10.out).mono ?_); rintro e w' ⟨rfl, ⟨nd, rfl⟩⟩))
  go_ret
  exact ⟨by rfl, by repeat ((with_reducible first | exact HB.out | apply pw_below_drewN))⟩
 subst c11
 have H1 : ((r29_told.f k a0_4).bind fun t249 => (some t249)) = some r := by rw [if_pos rfl] at H; exact H
 clear H
 have H := H1
 clear H1
 replace H := Option.bind_eq_some_iff.mp H
 obtain ⟨t249, A120, H⟩ := H
 replace H : (some t249) = some r := H
 have A12 := A_ A120
 clear A120
 obtain rfl := Option.some.inj H
 go_enter Tryz.func36, Tryz.ntmps36
 try go_wp2_with (first | ((with_reducible refine gate_dst (N := 1) rfl ?_); (try (refine gate_guard (by rfl) ?_; dsimp only)); refine box_event ?hg (N := 1) ?hd (cs := #[.int .i64 a0_0, .string a0_1, .string a0_2, .string a0_3, .string a0_4]) (t := 43) ?hr ?_; (case hd => rfl); (case hg => rfl); (case hr => (go_simp; done)); intro gb237 hg w13 hbox hb; have n0_ := A_ (below_step HB.out hb); have n1_ := A_ (hbox); have n2_ := A_ ((by rw [hg]; exact (below_size HB.out) : w.heap.size ≤ gb237)); have n3_ := A_ ((by rw [hg]; exact (below_size HB.out) : w.heap.size ≤ gb237)); clear HB; have HB := n0_; have BK237 := n1_; have GW237 := n2_; have GE237 := n3_; clear n0_ n1_ n2_ n3_; clear hb hbox hg; have hcz14_0 : w13.cell? ⟨gb237, 0, none⟩ = some (.int .i64 a0_0) := (blk_cell BK237.out 0).trans rfl; have hcz14_1 : w13.cell? ⟨gb237, 1, none⟩ = some (.string a0_1) := (blk_cell BK237.out 1).trans rfl; have hcz14_2 : w13.cell? ⟨gb237, 2, none⟩ = some (.string a0_2) := (blk_cell BK237.out 2).trans rfl; have hcz14_3 : w13.cell? ⟨gb237, 3, none⟩ = some (.string a0_3) := (blk_cell BK237.out 3).trans rfl; have hcz14_4 : w13.cell? ⟨gb237, 4, none⟩ = some (.string a0_4) := (blk_cell BK237.out 4).trans rfl; have hfz14_0 := blk_frozen BK237.out 0; have hfz14_1 := blk_frozen BK237.out 1; have hfz14_2 := blk_frozen BK237.out 2; have hfz14_3 := blk_frozen BK237.out 3; have hfz14_4 := blk_frozen BK237.out 4) | ((with_reducible refine gate_callee (f := 29) rfl ?_); refine goesL_ (some 10) rfl rfl Tryz.func29 (by kernel_rfl) rfl #[.string a0_2] rfl mp_ ?_; (with_reducible refine (r29_Parts.calls k a0_2 t238 true _ A2.out).mono ?_); rintro e w15 ⟨v240, rfl, ho0, hb⟩; refine ⟨_, rfl, ?_⟩; have n0_ := A_ (Kd.R_lower ho0 (below_size HB.out)); have n1_ := A_ (blk_below (g := gb237) (o := .cells #[.int .i64 a0_0, .string a0_1, .string a0_2, .string a0_3, .string a0_4] 43 (0, 0)) (bk_ BK237.out) hb); have n2_ := A_ (below_step HB.out hb); clear BK237; clear HB; have HO241 := n0_; have BK237 := n1_; have HB := n2_; clear n0_ n1_ n2_; (try clear hb); (try clear hb2); (try clear hk); (try clear hi); (try clear ho0); have hcz16_0 : w15.cell? ⟨gb237, 0, none⟩ = some (.int .i64 a0_0) := (blk_cell BK237.out 0).trans rfl; have hcz16_1 : w15.cell? ⟨gb237, 1, none⟩ = some (.string a0_1) := (blk_cell BK237.out 1).trans rfl; have hcz16_2 : w15.cell? ⟨gb237, 2, none⟩ = some (.string a0_2) := (blk_cell BK237.out 2).trans rfl; have hcz16_3 : w15.cell? ⟨gb237, 3, none⟩ = some (.string a0_3) := (blk_cell BK237.out 3).trans rfl; have hcz16_4 : w15.cell? ⟨gb237, 4, none⟩ = some (.string a0_4) := (blk_cell BK237.out 4).trans rfl; have hfz16_0 := blk_frozen BK237.out 0; have hfz16_1 := blk_frozen BK237.out 1; have hfz16_2 := blk_frozen BK237.out 2; have hfz16_3 := blk_frozen BK237.out 3; have hfz16_4 := blk_frozen BK237.out 4))
 have n0_ := A_ (Kd.R_drew HO241.out)
 have n1_ := A_ (blk_drew BK237.out)
 have n2_ := A_ (below_drew1 HB.out)
 clear HO241
 clear BK237
 clear HB
 have HO241 := n0_
 have BK237 := n1_
 have HB := n2_
 clear n0_ n1_ n2_
 obtain ⟨Ao18, co18, eo18⟩ := Kd.R_slice HO241.out
 (subst eo18)
 refine start_ (n := 11) (S := fun w' => w'.cell? ⟨gb237, 0, none⟩ = some (.int .i64 a0_0) ∧ w'.cell? ⟨gb237, 1, none⟩ = some (.string a0_1) ∧ w'.cell? ⟨gb237, 2, none⟩ = some (.string a0_2) ∧ w'.cell? ⟨gb237, 3, none⟩ = some (.string a0_3) ∧ w'.cell? ⟨gb237, 4, none⟩ = some (.string a0_4)) (ds := []) #[F_,F_,F_,F_,F_,F_,F_,F_,F_,F_,F_] (by kernel_rfl) rfl rfl ⟨(blk_cell BK237.out 0).trans rfl, (blk_cell BK237.out 1).trans rfl, (blk_cell BK237.out 2).trans rfl, (blk_cell BK237.out 3).trans rfl, (blk_cell BK237.out 4).trans rfl⟩ (fun hHeld => ?_); refine with_tabW r29_One.tab6 r29_One.bits6 (fun HT_ HW_ => ?_)
 generalize w15.drew = w17 at HO241 BK237 HB hHeld ⊢
 refine pu_ 0 (some 20) #[T_,F_,F_,F_,F_,F_,F_,F_,F_,F_,F_] HT_.out rfl rfl ?_
 refine pu_ 2 (some 22) #[T_,F_,T_,F_,F_,F_,F_,F_,F_,F_,F_] HT_.out rfl rfl ?_
 refine take_ (i := 1) (N := some 21) (v := ?_) (a' := ?_) #[T_,T_,T_,F_,F_,F_,F_,F_,F_,F_,F_] rfl rfl (take_ofW HT_.out HW_.out (by kernel_rfl)) (fun _ _ _ h => h) (Or.inl ⟨by rfl, ?_⟩) hHeld ?_ ?_
 rotate_left
 ·rintro w' ⟨s0, s1, s2, s3, s4⟩
  go_simp
  with_reducible rfl
 rotate_left
 ·simp only [Act.put,s1_,s2_,s3_, i64_w, i32_w]
  rfl
 refine one_ (i := 3) (N := some 23) #[T_,T_,T_,T_,F_,F_,F_,F_,F_,F_,F_] rfl rfl (one_of HT_.out (by kernel_rfl)) (by decide) (fun K hK => ?_)
 refine goes_ Tryz.func53 (by kernel_rfl) rfl #[.slice Ao18 t238.length co18] (by rfl) rfl rfl mp_ ?_
 with_reducible refine (r29_Stars.calls k _ _ t238 t242 _ ?side1 ?side2 A5.out).mono ?_
 (case side1 => repeat (exact (Kd.R_reads' HO241.out).2.2))
 (case side2 => exact (Kd.R_reads' HO241.out).2.1)
 rintro e w' ⟨rfl, ⟨nd, rfl⟩⟩
 refine ⟨_, rfl, ?_⟩
 refine hK.out _ _ ⟨(blk_cell BK237.out 0).trans rfl, (blk_cell BK237.out 1).trans rfl, (blk_cell BK237.out 2).trans rfl, (blk_cell BK237.out 3).trans rfl, (blk_cell BK237.out 4).trans rfl⟩ (fun hHeld => ?_)
 clear hK K
 refine norm_ (a' := ?_) ?_ ?_
 rotate_left
 ·show Act.put _ (some 23) _ = _
  simp only [Act.put,s1_,s2_,s3_, i64_w, i32_w]
  rfl
 refine one_ (i := 4) (N := some 24) #[T_,T_,T_,T_,T_,F_,F_,F_,F_,F_,F_] rfl rfl (one_of HT_.out (by kernel_rfl)) (by decide) (fun K hK => ?_)
 refine Kd.R_make_step Kd.string _ 9 (by rfl) (N := 24) rfl 23 _ _ rfl t242 rfl rfl Tryz.underlying23 (.string ⟨#[]⟩) 16 info9 rfl (by decide) (by omega) (⟨#[]⟩ : ByteArray) (ok := fun _ => True) (okp := fun _ => True) rfl (fun _ hk => hk) trivial (od_) (Nat.le_trans (Nat.mul_le_mul_right _ (od_ : t242.toNat ≤ 17592186044416)) (by omega)) (Below.refl _ _) (Nat.le_refl _) ?_
 intro v244 w19 ho20 hb hg_ hnew_
 clear hg_ hnew_
 (rw [← Ny243.out] at ho20)
 have n0_ := A_ (Kd.R_below (by (with_reducible repeat (apply Kd.R_drewN)); exact HO241.out) hb)
 have n1_ := A_ (Kd.R_lower ho20 (below_size (by repeat ((with_reducible first | exact HB.out | apply pw_below_drewN)))))
 have n2_ := A_ (blk_below (g := gb237) (o := .cells #[.int .i64 a0_0, .string a0_1, .string a0_2, .string a0_3, .string a0_4] 43 (0, 0)) (by (with_reducible repeat (refine blk_drewN ?_ _)); exact BK237.out) hb)
 have n3_ := A_ (below_step (by repeat ((with_reducible first | exact HB.out | apply pw_below_drewN))) hb)
 clear HO241
 clear BK237
 clear HB
 have HO241 := n0_
 have HO245 := n1_
 have BK237 := n2_
 have HB := n3_
 clear n0_ n1_ n2_ n3_
 clear hb ho20
 obtain ⟨Ao21, co21, eo21⟩ := Kd.R_slice HO245.out
 (subst eo21)
 refine hK.out _ _ ⟨(blk_cell BK237.out 0).trans rfl, (blk_cell BK237.out 1).trans rfl, (blk_cell BK237.out 2).trans rfl, (blk_cell BK237.out 3).trans rfl, (blk_cell BK237.out 4).trans rfl⟩ (fun hHeld => ?_)
 clear hK K
 refine norm_ (a' := ?_) ?_ ?_
 rotate_left
 ·show Act.put _ (some 24) _ = _
  simp only [Act.put,s1_,s2_,s3_, i64_w, i32_w]
  rfl
 refine one_ (i := 5) (N := some 25) #[T_,T_,T_,T_,T_,T_,F_,F_,F_,F_,F_] rfl rfl (one_of HT_.out (by kernel_rfl)) (by decide) (fun K hK => ?_)
 refine goes_ Tryz.func15 (by kernel_rfl) rfl #[.string a0_3, .slice Ao21 y243.length co21] (by rfl) rfl rfl mp_ ?_
 with_reducible refine (r29_Fill.calls k a0_3 _ _ y243 t246 true _ ?side1 ?side2 A8.out).mono ?_
 (case side1 => repeat (exact (Kd.R_reads' HO245.out).2.2))
 (case side2 => exact (Kd.R_reads' HO245.out).2.1)
 rintro e w' ⟨rfl, ⟨nd, rfl⟩⟩
 refine ⟨_, rfl, ?_⟩
 refine hK.out _ _ ⟨(blk_cell BK237.out 0).trans rfl, (blk_cell BK237.out 1).trans rfl, (blk_cell BK237.out 2).trans rfl, (blk_cell BK237.out 3).trans rfl, (blk_cell BK237.out 4).trans rfl⟩ (fun hHeld => ?_)
 clear hK K
 refine norm_ (a' := ?_) ?_ ?_
 rotate_left
 ·show Act.put _ (some 25) _ = _
  simp only [Act.put,s1_,s2_,s3_, i64_w, i32_w]
  rfl
 refine pu_ 6 (some 19) #[T_,T_,T_,T_,T_,T_,T_,F_,F_,F_,F_] HT_.out rfl rfl ?_
 refine pu_ 7 (some 26) #[T_,T_,T_,T_,T_,T_,T_,T_,F_,F_,F_] HT_.out rfl rfl ?_
 refine pu_ 8 (some 27) #[T_,T_,T_,T_,T_,T_,T_,T_,T_,F_,F_] HT_.out rfl rfl ?_
 refine pu_ 9 (some 5) #[T_,T_,T_,T_,T_,T_,T_,T_,T_,T_,F_] HT_.out rfl rfl ?_
 refine pu_ 10 (some 6) #[T_,T_,T_,T_,T_,T_,T_,T_,T_,T_,T_] HT_.out rfl rfl ?_
 refine done_ (done_of HT_.out (by kernel_rfl)) ?_
 have hcz22_0 : w19.cell? ⟨gb237, 0, none⟩ = some (.int .i64 a0_0) := (blk_cell BK237.out 0).trans rfl
 have hcz22_1 : w19.cell? ⟨gb237, 1, none⟩ = some (.string a0_1) := (blk_cell BK237.out 1).trans rfl
 have hcz22_2 : w19.cell? ⟨gb237, 2, none⟩ = some (.string a0_2) := (blk_cell BK237.out 2).trans rfl
 have hcz22_3 : w19.cell? ⟨gb237, 3, none⟩ = some (.string a0_3) := (blk_cell BK237.out 3).trans rfl
 have hcz22_4 : w19.cell? ⟨gb237, 4, none⟩ = some (.string a0_4) := (blk_cell BK237.out 4).trans rfl
 have hfz22_0 := blk_frozen BK237.out 0
 have hfz22_1 := blk_frozen BK237.out 1
 have hfz22_2 := blk_frozen BK237.out 2
 have hfz22_3 := blk_frozen BK237.out 3
 have hfz22_4 := blk_frozen BK237.out 4
 try go_wp2_with (first | (go_at_call 54; (with_reducible refine (r29_told.calls k a0_1 true _ A10.out).mono ?_); rintro e w' ⟨rfl, ⟨nd, rfl⟩⟩) | (go_at_call 54; (with_reducible refine (r29_told.calls k a0_4 t249 _ A12.out).mono ?_); rintro e w' ⟨rfl, ⟨nd, rfl⟩⟩))
 go_ret
 exact ⟨by rfl, by repeat ((with_reducible first | exact HB.out | apply pw_below_drewN))⟩
end Go.Proofs.YtcikjeiebpmmcaaGreat.PMch
