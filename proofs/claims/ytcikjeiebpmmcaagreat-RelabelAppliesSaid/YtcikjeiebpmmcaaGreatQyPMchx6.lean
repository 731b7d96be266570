/- Pruned. -/
import Derived.Test.YtcikjeiebpmmcaaGreatQyPMchx0
import Derived.Test.YtcikjeiebpmmcaaGreatQyPMchx4
import Derived.Test.YtcikjeiebpmmcaaGreatQyPMchx5
namespace Go.Proofs.YtcikjeiebpmmcaaGreat.PMch
open Go.RowKit Go.Proofs.YtcikjeiebpmmcaaGreatW.PrintWords Go.Proofs.YtcikjeiebpmmcaaGreatW.PrintLast Go.Proofs.YtcikjeiebpmmcaaGreatW.PrintMore
attribute [local go_sem] max2_int max_two
set_option linter.unusedVariables false
set_option linter.unusedSimpArgs false
def relabel_may.j0 : Nat → List (List (S103)) → Int → Bool → Int → ByteArray → ByteArray → ByteArray → ByteArray → Option (Bool)
 | 0, _, _, _, _, _, _, _, _ => none
 | k + 1, x3, x16, x17, x129000, x129001, x129002, x129003, x129004 => if x17 = true then ((relabel_by.f x129001).bind fun t133 => (if t133 = true then (if x129003.toList = ([] : List UInt8) then (some (x129004.toList == ([] : List UInt8))) else (some false)) else (some false))) else (if x16 = 3 then (if 0 ≤ (wrap64 ((x3.length : Int) - 1)) then (if (wrap64 ((x3.length : Int) - 1) : Int).toNat ≤ 17592186044416 then ((relabel_Fill.f x129003 (List.replicate (wrap64 ((x3.length : Int) - 1) : Int).toNat (⟨#[]⟩ : ByteArray))).bind fun bt137 => ((relabel_by.f x129001).bind fun t139 => (if t139 = true then ((relabel_by.f x129004).bind fun t140 => (if t140 = true then (some bt137.2) else (some false))) else (some false)))) else (none)) else (none)) else (if x16 = 4 then (if x129001.toList = ([] : List UInt8) then (if x129003.toList = ([] : List UInt8) then (some (x129004.toList == ([] : List UInt8))) else (some false)) else (some false)) else (some false)))
def relabel_may.f (k : Nat) (a0_0 : Int) (a0_1 : ByteArray) (a0_2 : ByteArray) (a0_3 : ByteArray) (a0_4 : ByteArray) : Option (Bool) := (relabel_pieces.f k a0_2).bind fun bt129 => (if bt129.2 = true then (if a0_0 = 1 then (relabel_may.j0 k bt129.1 a0_0 (a0_0 == 1) a0_0 a0_1 a0_2 a0_3 a0_4) else (relabel_may.j0 k bt129.1 a0_0 (a0_0 == 2) a0_0 a0_1 a0_2 a0_3 a0_4)) else (some false))
theorem relabel_may.mono_l : ∀ k, (∀ y0 y1 y2 y3 y4 y5 y6 y7, LeO (relabel_may.j0 k y0 y1 y2 y3 y4 y5 y6 y7) (relabel_may.j0 (k + 1) y0 y1 y2 y3 y4 y5 y6 y7))
 | 0 => fun _ _ _ _ _ _ _ _ r h => by simp [relabel_may.j0] at h
 | k + 1 => by
  have ih0 := relabel_may.mono_l k
  ·intro y0 y1 y2 y3 y4 y5 y6 y7
   unfold relabel_may.j0
   repeat' first
   | (with_reducible first | exact ih0 _ _ _ _ _ _ _ _ | exact relabel_pieces.mono _ _ | exact LeO.refl _ | exact LeO.none _ | refine LeO.ite ?_ ?_ | refine LeO.bind ?_ (fun _ => ?_))
theorem relabel_may.mono : ∀ a0 a1 a2 a3 a4 k, LeO (relabel_may.f k a0 a1 a2 a3 a4) (relabel_may.f (k + 1) a0 a1 a2 a3 a4) := by
 intro a0 a1 a2 a3 a4 k
 have ih0 := relabel_may.mono_l k
 unfold relabel_may.f
 repeat' first
  | (with_reducible first | exact ih0 _ _ _ _ _ _ _ _ | exact relabel_pieces.mono _ _ | exact LeO.refl _ | exact LeO.none _ | refine LeO.ite ?_ ?_ | refine LeO.bind ?_ (fun _ => ?_))
def relabel_may.T9 : Bool × List (List Nat × List Nat) := (true, [([], []), ([0], [0]), ([], []), ([2], [2]), ([3], [3]), ([4, 4], [4]), ([1, 5], [1, 5]), ([6], [6]), ([7], [7]), ([7], [7]), ([8, 6, 0, 1, 2, 3, 4, 5, 6, 7, 8], [8]), ([9, 10, 0, 1, 2, 3, 4, 5, 6, 7, 8, 9, 10], [9])])
def relabel_may.B9 : List Nat := [0, 1, 0, 4, 12, 28, 63, 127, 255, 255, 511, 2047]
theorem relabel_may.tab9 : rtab .any (opsOf Tryz.f35 9) = relabel_may.T9 := by kernel_rfl
theorem relabel_may.bits9 : waitsOk relabel_may.T9.2 relabel_may.B9 = true := by kernel_rfl
set_option maxHeartbeats 8000000 in
set_option maxRecDepth 100000 in
theorem relabel_may.calls (k : Nat) (a0_0 : Int) (a0_1 : ByteArray) (a0_2 : ByteArray) (a0_3 : ByteArray) (a0_4 : ByteArray) (r : Bool) (w : World) (h : relabel_may.f k a0_0 a0_1 a0_2 a0_3 a0_4 = some r) :
 Calls Tryz.prog 35 #[.agg #[.int .i64 a0_0, .string a0_1, .string a0_2, .string a0_3, .string a0_4]] w fun e w' => e = .returned (.bool r) ∧ Below w.heap.size w w' := by
 have hu43 := Tryz.underlying43
 have HB := A_ (Below.refl w.heap.size w)
 have H : ((relabel_pieces.f k a0_2).bind fun bt129 => (if bt129.2 = true then (if a0_0 = 1 then (relabel_may.j0 k bt129.1 a0_0 (a0_0 == 1) a0_0 a0_1 a0_2 a0_3 a0_4) else (relabel_may.j0 k bt129.1 a0_0 (a0_0 == 2) a0_0 a0_1 a0_2 a0_3 a0_4)) else (some false))) = some r := h
 clear h
 replace H := Option.bind_eq_some_iff.mp H
 obtain ⟨⟨t129, t130⟩, A20, H⟩ := H
 replace H : (if t130 = true then (if a0_0 = 1 then (relabel_may.j0 k t129 a0_0 (a0_0 == 1) a0_0 a0_1 a0_2 a0_3 a0_4) else (relabel_may.j0 k t129 a0_0 (a0_0 == 2) a0_0 a0_1 a0_2 a0_3 a0_4)) else (some false)) = some r := H
 have A2 := A_ A20
 clear A20
 by_cases c3 : t130 = true
 rotate_left
 ·replace c3 := Bool.eq_false_iff.mpr c3
  subst c3
  have H1 : (some false) = some r := by rw [if_neg (show ¬ (false = true) by decide)] at H; exact H
  clear H
  have H := H1
  clear H1
  obtain rfl := Option.some.inj H
  go_enter Tryz.func35, Tryz.ntmps35
  go_wp2_with (first | ((with_reducible refine gate_dst (N := 1) rfl ?_); refine box_event ?hg (N := 1) ?hd (cs := #[.int .i64 a0_0, .string a0_1, .string a0_2, .string a0_3, .string a0_4]) (t := 43) ?hr ?_; (case hd => rfl); (case hg => rfl); (case hr => (go_simp; done)); intro gb128 hg w53 hbox hb; have n0_ := A_ (below_step HB.out hb); have n1_ := A_ (hbox); have n2_ := A_ ((by rw [hg]; exact (below_size HB.out) : w.heap.size ≤ gb128)); have n3_ := A_ ((by rw [hg]; exact (below_size HB.out) : w.heap.size ≤ gb128)); clear HB; have HB := n0_; have BK128 := n1_; have GW128 := n2_; have GE128 := n3_; clear n0_ n1_ n2_ n3_; clear hb hbox hg; have hcz54_0 : w53.cell? ⟨gb128, 0, none⟩ = some (.int .i64 a0_0) := (blk_cell BK128.out 0).trans rfl; have hcz54_1 : w53.cell? ⟨gb128, 1, none⟩ = some (.string a0_1) := (blk_cell BK128.out 1).trans rfl; have hcz54_2 : w53.cell? ⟨gb128, 2, none⟩ = some (.string a0_2) := (blk_cell BK128.out 2).trans rfl; have hcz54_3 : w53.cell? ⟨gb128, 3, none⟩ = some (.string a0_3) := (blk_cell BK128.out 3).trans rfl; have hcz54_4 : w53.cell? ⟨gb128, 4, none⟩ = some (.string a0_4) := (blk_cell BK128.out 4).trans rfl; have hfz54_0 := blk_frozen BK128.out 0; have hfz54_1 := blk_frozen BK128.out 1; have hfz54_2 := blk_frozen BK128.out 2; have hfz54_3 := blk_frozen BK128.out 3; have hfz54_4 := blk_frozen BK128.out 4) | ((with_reducible refine gate_callee (f := 27) rfl ?_); refine goesL_ (some 10) rfl rfl Tryz.func27 (by kernel_rfl) rfl #[.string a0_2] rfl mp_ ?_; (with_reducible refine (relabel_pieces.calls k a0_2 t129 false _ A2.out).mono ?_); rintro e w55 ⟨v131, rfl, ho0, hb⟩; refine ⟨_, rfl, ?_⟩; have n0_ := A_ (Kd.S_lower ho0 (below_size HB.out)); have n1_ := A_ (blk_below (g := gb128) (o := .cells #[.int .i64 a0_0, .string a0_1, .string a0_2, .string a0_3, .string a0_4] 43 (0, 0)) (bk_ BK128.out) hb); have n2_ := A_ (below_step HB.out hb); clear BK128; clear HB; have HO132 := n0_; have BK128 := n1_; have HB := n2_; clear n0_ n1_ n2_; (try clear hb); (try clear hb2); (try clear hk); (try clear hi); (try clear ho0)))
  go_ret
  exact ⟨by rfl, HB.out⟩
 subst c3
 have H1 : (if a0_0 = 1 then (relabel_may.j0 k t129 a0_0 (a0_0 == 1) a0_0 a0_1 a0_2 a0_3 a0_4) else (relabel_may.j0 k t129 a0_0 (a0_0 == 2) a0_0 a0_1 a0_2 a0_3 a0_4)) = some r := by rw [if_pos rfl] at H; exact H
 clear H
 have H := H1
 clear H1
 have HC4 := A_ H
 clear H
 go_enter Tryz.func35, Tryz.ntmps35
 go_upto_if 17 with (first | ((with_reducible refine gate_dst (N := 1) rfl ?_); refine box_event ?hg (N := 1) ?hd (cs := #[.int .i64 a0_0, .string a0_1, .string a0_2, .string a0_3, .string a0_4]) (t := 43) ?hr ?_; (case hd => rfl); (case hg => rfl); (case hr => (go_simp; done)); intro gb128 hg w5 hbox hb; have n0_ := A_ (below_step HB.out hb); have n1_ := A_ (hbox); have n2_ := A_ ((by rw [hg]; exact (below_size HB.out) : w.heap.size ≤ gb128)); have n3_ := A_ ((by rw [hg]; exact (below_size HB.out) : w.heap.size ≤ gb128)); clear HB; have HB := n0_; have BK128 := n1_; have GW128 := n2_; have GE128 := n3_; clear n0_ n1_ n2_ n3_; clear hb hbox hg; have hcz6_0 : w5.cell? ⟨gb128, 0, none⟩ = some (.int .i64 a0_0) := (blk_cell BK128.out 0).trans rfl; have hcz6_1 : w5.cell? ⟨gb128, 1, none⟩ = some (.string a0_1) := (blk_cell BK128.out 1).trans rfl; have hcz6_2 : w5.cell? ⟨gb128, 2, none⟩ = some (.string a0_2) := (blk_cell BK128.out 2).trans rfl; have hcz6_3 : w5.cell? ⟨gb128, 3, none⟩ = some (.string a0_3) := (blk_cell BK128.out 3).trans rfl; have hcz6_4 : w5.cell? ⟨gb128, 4, none⟩ = some (.string a0_4) := (blk_cell BK128.out 4).trans rfl; have hfz6_0 := blk_frozen BK128.out 0; have hfz6_1 := blk_frozen BK128.out 1; have hfz6_2 := blk_frozen BK128.out 2; have hfz6_3 := blk_frozen BK128.out 3; have hfz6_4 := blk_frozen BK128.out 4) | ((with_reducible refine gate_callee (f := 27) rfl ?_); refine goesL_ (some 10) rfl rfl Tryz.func27 (by kernel_rfl) rfl #[.string a0_2] rfl mp_ ?_; (with_reducible refine (relabel_pieces.calls k a0_2 t129 true _ A2.out).mono ?_); rintro e w7 ⟨v131, rfl, ho0, hb⟩; refine ⟨_, rfl, ?_⟩; have n0_ := A_ (Kd.S_lower ho0 (below_size HB.out)); have n1_ := A_ (blk_below (g := gb128) (o := .cells #[.int .i64 a0_0, .string a0_1, .string a0_2, .string a0_3, .string a0_4] 43 (0, 0)) (bk_ BK128.out) hb); have n2_ := A_ (below_step HB.out hb); clear BK128; clear HB; have HO132 := n0_; have BK128 := n1_; have HB := n2_; clear n0_ n1_ n2_; (try clear hb); (try clear hb2); (try clear hk); (try clear hi); (try clear ho0); have hcz8_0 : w7.cell? ⟨gb128, 0, none⟩ = some (.int .i64 a0_0) := (blk_cell BK128.out 0).trans rfl; have hcz8_1 : w7.cell? ⟨gb128, 1, none⟩ = some (.string a0_1) := (blk_cell BK128.out 1).trans rfl; have hcz8_2 : w7.cell? ⟨gb128, 2, none⟩ = some (.string a0_2) := (blk_cell BK128.out 2).trans rfl; have hcz8_3 : w7.cell? ⟨gb128, 3, none⟩ = some (.string a0_3) := (blk_cell BK128.out 3).trans rfl; have hcz8_4 : w7.cell? ⟨gb128, 4, none⟩ = some (.string a0_4) := (blk_cell BK128.out 4).trans rfl; have hfz8_0 := blk_frozen BK128.out 0; have hfz8_1 := blk_frozen BK128.out 1; have hfz8_2 := blk_frozen BK128.out 2; have hfz8_3 := blk_frozen BK128.out 3; have hfz8_4 := blk_frozen BK128.out 4))
 (try simp only [Act.put,s1_,s2_,s3_])
 go_cut [17] (fun v17 wc => ∃ (kq : Nat) (x17_3 : Bool), v17 = .bool x17_3 ∧ Aside0 (relabel_may.j0 kq t129 a0_0 x17_3 a0_0 a0_1 a0_2 a0_3 a0_4 = some r) ∧ Aside0 (kq ≤ k) ∧ Aside0 (Kd.S (Kd.slice 103 k103) 63 wc w.heap.size (fun _ => True) v131 t129) ∧ Aside0 (wc.heap[gb128]? = some (.cells #[.int .i64 a0_0, .string a0_1, .string a0_2, .string a0_3, .string a0_4] 43 (0, 0))) ∧ Aside0 (Below w.heap.size w wc))
 case first =>
  have H := HC4.out
  clear HC4
  by_cases c9 : a0_0 = 1
  rotate_left
  ·rw [if_neg c9] at H
   have c9b0 : (a0_0 == 1) = false := beq_eq_false_iff_ne.mpr c9
   have c9b1 : (a0_0 != 1) = true := bne_iff_ne.mpr c9
   (rw [c9b0])
   have H' := A_ H
   clear H
   go_wp2
   go_meet
   case rel => exact ⟨_, ((a0_0 == 2)), (by rfl), H', ⟨by omega⟩, ⟨by (with_reducible repeat (first | apply Kd.S_alloc | apply Kd.S_drewN | apply Kd.S_drew)); exact HO132.out⟩, ⟨bk_ BK128.out⟩, ⟨HB.out⟩⟩
  rw [if_pos c9] at H
  have c9b0 : (a0_0 == 1) = true := beq_iff_eq.mpr c9
  have c9b1 : (a0_0 != 1) = false := bne_eq_false_iff_eq.mpr c9
  clear c9
  (rw [c9b0])
  have H' := A_ H
  clear H
  go_wp2
  go_meet
  case rel => exact ⟨_, ((a0_0 == 1)), (by (simp [*]; done)), H', ⟨by omega⟩, ⟨by (with_reducible repeat (first | apply Kd.S_alloc | apply Kd.S_drewN | apply Kd.S_drew)); exact HO132.out⟩, ⟨bk_ BK128.out⟩, ⟨HB.out⟩⟩
 case rest =>
  clear HC4
  try clear c2
  try clear p2
  try clear c3
  try clear c9
  try clear c9b0
  try clear c9b1
  try clear hcz6_0
  try clear hcz6_1
  try clear hcz6_2
  try clear hcz6_3
  try clear hcz6_4
  try clear hcz8_0
  try clear hcz8_1
  try clear hcz8_2
  try clear hcz8_3
  try clear hcz8_4
  try clear hfz6_0
  try clear hfz6_1
  try clear hfz6_2
  try clear hfz6_3
  try clear hfz6_4
  try clear hfz8_0
  try clear hfz8_1
  try clear hfz8_2
  try clear hfz8_3
  try clear hfz8_4
  obtain ⟨kq, x17_3, rfl, HA, HJ3, HO_3, BK128, HB⟩ := hcut
  cases kq with
  | zero => exact absurd HA.out (by simp [relabel_may.j0])
  | succ kj3 =>
   have H := HA.out
   clear HA
   simp only [relabel_may.j0] at H
   by_cases c10 : x17_3 = true
   ·subst c10
    have H1 : ((relabel_by.f a0_1).bind fun t133 => (if t133 = true then (if a0_3.toList = ([] : List UInt8) then (some (a0_4.toList == ([] : List UInt8))) else (some false)) else (some false))) = some r := by rw [if_pos rfl] at H; exact H
    clear H
    have H := H1
    clear H1
    replace H := Option.bind_eq_some_iff.mp H
    obtain ⟨t133, A110, H⟩ := H
    replace H : (if t133 = true then (if a0_3.toList = ([] : List UInt8) then (some (a0_4.toList == ([] : List UInt8))) else (some false)) else (some false)) = some r := H
    have A11 := A_ A110
    clear A110
    by_cases c12 : t133 = true
    rotate_left
    ·replace c12 := Bool.eq_false_iff.mpr c12
     subst c12
     have H1 : (some false) = some r := by rw [if_neg (show ¬ (false = true) by decide)] at H; exact H
     clear H
     have H := H1
     clear H1
     obtain rfl := Option.some.inj H
     have hcz16_0 : wc.cell? ⟨gb128, 0, none⟩ = some (.int .i64 a0_0) := (blk_cell BK128.out 0).trans rfl
     have hcz16_1 : wc.cell? ⟨gb128, 1, none⟩ = some (.string a0_1) := (blk_cell BK128.out 1).trans rfl
     have hcz16_2 : wc.cell? ⟨gb128, 2, none⟩ = some (.string a0_2) := (blk_cell BK128.out 2).trans rfl
     have hcz16_3 : wc.cell? ⟨gb128, 3, none⟩ = some (.string a0_3) := (blk_cell BK128.out 3).trans rfl
     have hcz16_4 : wc.cell? ⟨gb128, 4, none⟩ = some (.string a0_4) := (blk_cell BK128.out 4).trans rfl
     have hfz16_0 := blk_frozen BK128.out 0
     have hfz16_1 := blk_frozen BK128.out 1
     have hfz16_2 := blk_frozen BK128.out 2
     have hfz16_3 := blk_frozen BK128.out 3
     have hfz16_4 := blk_frozen BK128.out 4
     go_wp2_with (first | ((with_reducible refine gate_callee (f := 52) rfl ?_); refine goesL_ (some 22) rfl rfl Tryz.func52 (by kernel_rfl) rfl #[.string a0_1] rfl mp_ ?_; (with_reducible refine (relabel_by.calls a0_1 false _ A11.out).mono ?_); rintro e w' ⟨rfl, ⟨nd, rfl⟩⟩; refine ⟨_, rfl, ?_⟩))
     go_ret
     exact ⟨by rfl, by repeat ((with_reducible first | exact HB.out | apply pw_below_drewN))⟩
    subst c12
    have H1 : (if a0_3.toList = ([] : List UInt8) then (some (a0_4.toList == ([] : List UInt8))) else (some false)) = some r := by rw [if_pos rfl] at H; exact H
    clear H
    have H := H1
    clear H1
    by_cases c13 : a0_3.toList = ([] : List UInt8)
    rotate_left
    ·rw [if_neg c13] at H
     have c13b0 : (a0_3.toList == ([] : List UInt8)) = false := beq_eq_false_iff_ne.mpr c13
     have c13b1 : (a0_3.toList != ([] : List UInt8)) = true := bne_iff_ne.mpr c13
     obtain rfl := Option.some.inj H
     have hcz15_0 : wc.cell? ⟨gb128, 0, none⟩ = some (.int .i64 a0_0) := (blk_cell BK128.out 0).trans rfl
     have hcz15_1 : wc.cell? ⟨gb128, 1, none⟩ = some (.string a0_1) := (blk_cell BK128.out 1).trans rfl
     have hcz15_2 : wc.cell? ⟨gb128, 2, none⟩ = some (.string a0_2) := (blk_cell BK128.out 2).trans rfl
     have hcz15_3 : wc.cell? ⟨gb128, 3, none⟩ = some (.string a0_3) := (blk_cell BK128.out 3).trans rfl
     have hcz15_4 : wc.cell? ⟨gb128, 4, none⟩ = some (.string a0_4) := (blk_cell BK128.out 4).trans rfl
     have hfz15_0 := blk_frozen BK128.out 0
     have hfz15_1 := blk_frozen BK128.out 1
     have hfz15_2 := blk_frozen BK128.out 2
     have hfz15_3 := blk_frozen BK128.out 3
     have hfz15_4 := blk_frozen BK128.out 4
     go_wp2_with (first | ((with_reducible refine gate_callee (f := 52) rfl ?_); refine goesL_ (some 22) rfl rfl Tryz.func52 (by kernel_rfl) rfl #[.string a0_1] rfl mp_ ?_; (with_reducible refine (relabel_by.calls a0_1 true _ A11.out).mono ?_); rintro e w' ⟨rfl, ⟨nd, rfl⟩⟩; refine ⟨_, rfl, ?_⟩))
     go_ret
     exact ⟨by rfl, by repeat ((with_reducible first | exact HB.out | apply pw_below_drewN))⟩
    rw [if_pos c13] at H
    have c13b0 : (a0_3.toList == ([] : List UInt8)) = true := beq_iff_eq.mpr c13
    have c13b1 : (a0_3.toList != ([] : List UInt8)) = false := bne_eq_false_iff_eq.mpr c13
    clear c13
    obtain rfl := Option.some.inj H
    have hcz14_0 : wc.cell? ⟨gb128, 0, none⟩ = some (.int .i64 a0_0) := (blk_cell BK128.out 0).trans rfl
    have hcz14_1 : wc.cell? ⟨gb128, 1, none⟩ = some (.string a0_1) := (blk_cell BK128.out 1).trans rfl
    have hcz14_2 : wc.cell? ⟨gb128, 2, none⟩ = some (.string a0_2) := (blk_cell BK128.out 2).trans rfl
    have hcz14_3 : wc.cell? ⟨gb128, 3, none⟩ = some (.string a0_3) := (blk_cell BK128.out 3).trans rfl
    have hcz14_4 : wc.cell? ⟨gb128, 4, none⟩ = some (.string a0_4) := (blk_cell BK128.out 4).trans rfl
    have hfz14_0 := blk_frozen BK128.out 0
    have hfz14_1 := blk_frozen BK128.out 1
    have hfz14_2 := blk_frozen BK128.out 2
    have hfz14_3 := blk_frozen BK128.out 3
    have hfz14_4 := blk_frozen BK128.out 4
    go_wp2_with (first | ((with_reducible refine gate_callee (f := 52) rfl ?_); refine goesL_ (some 22) rfl rfl Tryz.func52 (by kernel_rfl) rfl #[.string a0_1] rfl mp_ ?_; (with_reducible refine (relabel_by.calls a0_1 true _ A11.out).mono ?_); rintro e w' ⟨rfl, ⟨nd, rfl⟩⟩; refine ⟨_, rfl, ?_⟩))
    go_ret
    exact ⟨by rfl, by repeat ((with_reducible first | exact HB.out | apply pw_below_drewN))⟩
   replace c10 := Bool.eq_false_iff.mpr c10
   subst c10
   have H1 : (if a0_0 = 3 then (if 0 ≤ (wrap64 ((t129.length : Int) - 1)) then (if (wrap64 ((t129.length : Int) - 1) : Int).toNat ≤ 17592186044416 then ((relabel_Fill.f a0_3 (List.replicate (wrap64 ((t129.length : Int) - 1) : Int).toNat (⟨#[]⟩ : ByteArray))).bind fun bt137 => ((relabel_by.f a0_1).bind fun t139 => (if t139 = true then ((relabel_by.f a0_4).bind fun t140 => (if t140 = true then (some bt137.2) else (some false))) else (some false)))) else (none)) else (none)) else (if a0_0 = 4 then (if a0_1.toList = ([] : List UInt8) then (if a0_3.toList = ([] : List UInt8) then (some (a0_4.toList == ([] : List UInt8))) else (some false)) else (some false)) else (some false))) = some r := by rw [if_neg (show ¬ (false = true) by decide)] at H; exact H
   clear H
   have H := H1
   clear H1
   by_cases c17 : a0_0 = 3
   rotate_left
   ·rw [if_neg c17] at H
    have c17b0 : (a0_0 == 3) = false := beq_eq_false_iff_ne.mpr c17
    have c17b1 : (a0_0 != 3) = true := bne_iff_ne.mpr c17
    by_cases c47 : a0_0 = 4
    rotate_left
    ·rw [if_neg c47] at H
     have c47b0 : (a0_0 == 4) = false := beq_eq_false_iff_ne.mpr c47
     have c47b1 : (a0_0 != 4) = true := bne_iff_ne.mpr c47
     obtain rfl := Option.some.inj H
     go_wp2
     go_ret
     exact ⟨by rfl, HB.out⟩
    rw [if_pos c47] at H
    have c47b0 : (a0_0 == 4) = true := beq_iff_eq.mpr c47
    have c47b1 : (a0_0 != 4) = false := bne_eq_false_iff_eq.mpr c47
    clear c47
    by_cases c48 : a0_1.toList = ([] : List UInt8)
    rotate_left
    ·rw [if_neg c48] at H
     have c48b0 : (a0_1.toList == ([] : List UInt8)) = false := beq_eq_false_iff_ne.mpr c48
     have c48b1 : (a0_1.toList != ([] : List UInt8)) = true := bne_iff_ne.mpr c48
     obtain rfl := Option.some.inj H
     have hcz52_0 : wc.cell? ⟨gb128, 0, none⟩ = some (.int .i64 a0_0) := (blk_cell BK128.out 0).trans rfl
     have hcz52_1 : wc.cell? ⟨gb128, 1, none⟩ = some (.string a0_1) := (blk_cell BK128.out 1).trans rfl
     have hcz52_2 : wc.cell? ⟨gb128, 2, none⟩ = some (.string a0_2) := (blk_cell BK128.out 2).trans rfl
     have hcz52_3 : wc.cell? ⟨gb128, 3, none⟩ = some (.string a0_3) := (blk_cell BK128.out 3).trans rfl
     have hcz52_4 : wc.cell? ⟨gb128, 4, none⟩ = some (.string a0_4) := (blk_cell BK128.out 4).trans rfl
     have hfz52_0 := blk_frozen BK128.out 0
     have hfz52_1 := blk_frozen BK128.out 1
     have hfz52_2 := blk_frozen BK128.out 2
     have hfz52_3 := blk_frozen BK128.out 3
     have hfz52_4 := blk_frozen BK128.out 4
     go_wp2
     go_ret
     exact ⟨by rfl, HB.out⟩
    rw [if_pos c48] at H
    have c48b0 : (a0_1.toList == ([] : List UInt8)) = true := beq_iff_eq.mpr c48
    have c48b1 : (a0_1.toList != ([] : List UInt8)) = false := bne_eq_false_iff_eq.mpr c48
    clear c48
    by_cases c49 : a0_3.toList = ([] : List UInt8)
    rotate_left
    ·rw [if_neg c49] at H
     have c49b0 : (a0_3.toList == ([] : List UInt8)) = false := beq_eq_false_iff_ne.mpr c49
     have c49b1 : (a0_3.toList != ([] : List UInt8)) = true := bne_iff_ne.mpr c49
     obtain rfl := Option.some.inj H
     have hcz51_0 : wc.cell? ⟨gb128, 0, none⟩ = some (.int .i64 a0_0) := (blk_cell BK128.out 0).trans rfl
     have hcz51_1 : wc.cell? ⟨gb128, 1, none⟩ = some (.string a0_1) := (blk_cell BK128.out 1).trans rfl
     have hcz51_2 : wc.cell? ⟨gb128, 2, none⟩ = some (.string a0_2) := (blk_cell BK128.out 2).trans rfl
     have hcz51_3 : wc.cell? ⟨gb128, 3, none⟩ = some (.string a0_3) := (blk_cell BK128.out 3).trans rfl
     have hcz51_4 : wc.cell? ⟨gb128, 4, none⟩ = some (.string a0_4) := (blk_cell BK128.out 4).trans rfl
     have hfz51_0 := blk_frozen BK128.out 0
     have hfz51_1 := blk_frozen BK128.out 1
     have hfz51_2 := blk_frozen BK128.out 2
     have hfz51_3 := blk_frozen BK128.out 3
     have hfz51_4 := blk_frozen BK128.out 4
     go_wp2
     go_ret
     exact ⟨by rfl, HB.out⟩
    rw [if_pos c49] at H
    have c49b0 : (a0_3.toList == ([] : List UInt8)) = true := beq_iff_eq.mpr c49
    have c49b1 : (a0_3.toList != ([] : List UInt8)) = false := bne_eq_false_iff_eq.mpr c49
    clear c49
    obtain rfl := Option.some.inj H
    have hcz50_0 : wc.cell? ⟨gb128, 0, none⟩ = some (.int .i64 a0_0) := (blk_cell BK128.out 0).trans rfl
    have hcz50_1 : wc.cell? ⟨gb128, 1, none⟩ = some (.string a0_1) := (blk_cell BK128.out 1).trans rfl
    have hcz50_2 : wc.cell? ⟨gb128, 2, none⟩ = some (.string a0_2) := (blk_cell BK128.out 2).trans rfl
    have hcz50_3 : wc.cell? ⟨gb128, 3, none⟩ = some (.string a0_3) := (blk_cell BK128.out 3).trans rfl
    have hcz50_4 : wc.cell? ⟨gb128, 4, none⟩ = some (.string a0_4) := (blk_cell BK128.out 4).trans rfl
    have hfz50_0 := blk_frozen BK128.out 0
    have hfz50_1 := blk_frozen BK128.out 1
    have hfz50_2 := blk_frozen BK128.out 2
    have hfz50_3 := blk_frozen BK128.out 3
    have hfz50_4 := blk_frozen BK128.out 4
    go_wp2
    go_ret
    exact ⟨by rfl, HB.out⟩
   rw [if_pos c17] at H
   have c17b0 : (a0_0 == 3) = true := beq_iff_eq.mpr c17
   have c17b1 : (a0_0 != 3) = false := bne_eq_false_iff_eq.mpr c17
   clear c17
   obtain ⟨ji18, hji18⟩ : ∃ j_ : Int, (wrap64 ((t129.length : Int) - 1)) = j_ := ⟨_, rfl⟩
   replace H : (if 0 ≤ (ji18) then (if (ji18 : Int).toNat ≤ 17592186044416 then ((relabel_Fill.f a0_3 (List.replicate (ji18 : Int).toNat (⟨#[]⟩ : ByteArray))).bind fun bt137 => ((relabel_by.f a0_1).bind fun t139 => (if t139 = true then ((relabel_by.f a0_4).bind fun t140 => (if t140 = true then (some bt137.2) else (some false))) else (some false)))) else (none)) else (none)) = some r := by (rw [hji18] at H; exact H)
   have hji18w : (IntKind.i64.wrap ((t129.length : Int) - 1)) = ji18 := (i64_w _).trans hji18
   by_cases c19 : 0 ≤ (ji18)
   rotate_left
   ·rw [if_neg c19] at H
    exact absurd H (by simp)
   rw [if_pos c19] at H
   have c19b0 := eq_true c19
   have c19b1 := decide_eq_true c19
   clear c19
   by_cases c20 : (ji18 : Int).toNat ≤ 17592186044416
   rotate_left
   ·rw [if_neg c20] at H
    exact absurd H (by simp)
   rw [if_pos c20] at H
   have c20b0 := eq_true c20
   have c20b1 := decide_eq_true c20
   clear c20
   obtain ⟨y134, hy134⟩ : ∃ y_ : List ByteArray, y_ = (List.replicate (ji18 : Int).toNat (⟨#[]⟩ : ByteArray)) := ⟨_, rfl⟩
   replace H : ((relabel_Fill.f a0_3 y134).bind fun bt137 => ((relabel_by.f a0_1).bind fun t139 => (if t139 = true then ((relabel_by.f a0_4).bind fun t140 => (if t140 = true then (some bt137.2) else (some false))) else (some false)))) = some r := by (rw [hy134]; with_reducible exact H)
   have Ny134 := A_ hy134
   clear hy134
   replace H := Option.bind_eq_some_iff.mp H
   obtain ⟨⟨t137, t138⟩, A210, H⟩ := H
   replace H : ((relabel_by.f a0_1).bind fun t139 => (if t139 = true then ((relabel_by.f a0_4).bind fun t140 => (if t140 = true then (some t138) else (some false))) else (some false))) = some r := H
   have A21 := A_ A210
   clear A210
   replace H := Option.bind_eq_some_iff.mp H
   obtain ⟨t139, A220, H⟩ := H
   replace H : (if t139 = true then ((relabel_by.f a0_4).bind fun t140 => (if t140 = true then (some t138) else (some false))) else (some false)) = some r := H
   have A22 := A_ A220
   clear A220
   by_cases c23 : t139 = true
   rotate_left
   ·replace c23 := Bool.eq_false_iff.mpr c23
    subst c23
    have H1 : (some false) = some r := by rw [if_neg (show ¬ (false = true) by decide)] at H; exact H
    clear H
    have H := H1
    clear H1
    obtain rfl := Option.some.inj H
    try go_wp2
    have n0_ := A_ (Kd.S_drew HO_3.out)
    have n1_ := A_ (blk_drew BK128.out)
    have n2_ := A_ (below_drew1 HB.out)
    clear HO_3
    clear BK128
    clear HB
    have HO_3 := n0_
    have BK128 := n1_
    have HB := n2_
    clear n0_ n1_ n2_
    obtain ⟨Ao41, co41, eo41⟩ := Kd.S_slice HO_3.out
    (subst eo41)
    refine start_ (n := 12) (S := fun w' => w'.cell? ⟨gb128, 0, none⟩ = some (.int .i64 a0_0) ∧ w'.cell? ⟨gb128, 1, none⟩ = some (.string a0_1) ∧ w'.cell? ⟨gb128, 2, none⟩ = some (.string a0_2) ∧ w'.cell? ⟨gb128, 3, none⟩ = some (.string a0_3) ∧ w'.cell? ⟨gb128, 4, none⟩ = some (.string a0_4)) (ds := []) #[F_,F_,F_,F_,F_,F_,F_,F_,F_,F_,F_,F_] (by kernel_rfl) rfl rfl ⟨(blk_cell BK128.out 0).trans rfl, (blk_cell BK128.out 1).trans rfl, (blk_cell BK128.out 2).trans rfl, (blk_cell BK128.out 3).trans rfl, (blk_cell BK128.out 4).trans rfl⟩ (fun hHeld => ?_); refine with_tabW relabel_may.tab9 relabel_may.bits9 (fun HT_ HW_ => ?_)
    generalize wc.drew = w40 at HO_3 BK128 HB hHeld ⊢
    refine pu_ 0 (some 36) #[T_,F_,F_,F_,F_,F_,F_,F_,F_,F_,F_,F_] HT_.out rfl rfl ?_
    refine pu_ 2 (some 38) #[T_,F_,T_,F_,F_,F_,F_,F_,F_,F_,F_,F_] HT_.out rfl rfl ?_
    refine pu_ 3 (some 39) #[T_,F_,T_,T_,F_,F_,F_,F_,F_,F_,F_,F_] HT_.out rfl rfl ?_
    refine pu_ 4 (some 40) #[T_,F_,T_,T_,T_,F_,F_,F_,F_,F_,F_,F_] HT_.out rfl rfl ?_
    refine take_ (i := 1) (N := some 37) (v := ?_) (a' := ?_) #[T_,T_,T_,T_,T_,F_,F_,F_,F_,F_,F_,F_] rfl rfl (take_ofW HT_.out HW_.out (by kernel_rfl)) (fun _ _ _ h => h) (Or.inl ⟨by rfl, ?_⟩) hHeld ?_ ?_
    rotate_left
    ·rintro w' ⟨s0, s1, s2, s3, s4⟩
     go_simp
     with_reducible rfl
    rotate_left
    ·simp only [Act.put,s1_,s2_,s3_, i64_w, i32_w]
     rfl
    refine one_ (i := 5) (N := some 41) #[T_,T_,T_,T_,T_,T_,F_,F_,F_,F_,F_,F_] rfl rfl (one_of HT_.out (by kernel_rfl)) (by decide) (fun K hK => ?_)
    refine Kd.R_make_step Kd.string _ 9 (by rfl) (N := 41) rfl 23 _ _ rfl ji18 rfl rfl Tryz.underlying23 (.string ⟨#[]⟩) 16 info9 rfl (by decide) (by omega) (⟨#[]⟩ : ByteArray) (ok := fun _ => True) (okp := fun _ => True) rfl (fun _ hk => hk) trivial (od_) (Nat.le_trans (Nat.mul_le_mul_right _ (od_ : ji18.toNat ≤ 17592186044416)) (by omega)) (Below.refl _ _) (Nat.le_refl _) ?_
    intro v135 w42 ho43 hb hg_ hnew_
    clear hg_ hnew_
    (rw [← Ny134.out] at ho43)
    have n0_ := A_ (Kd.S_below (by (with_reducible repeat (first | apply Kd.S_alloc | apply Kd.S_drewN | apply Kd.S_drew)); exact HO_3.out) hb)
    have n1_ := A_ (Kd.R_lower ho43 (below_size HB.out))
    have n2_ := A_ (blk_below (g := gb128) (o := .cells #[.int .i64 a0_0, .string a0_1, .string a0_2, .string a0_3, .string a0_4] 43 (0, 0)) (bk_ BK128.out) hb)
    have n3_ := A_ (below_step HB.out hb)
    clear HO_3
    clear BK128
    clear HB
    have HO_3 := n0_
    have HO136 := n1_
    have BK128 := n2_
    have HB := n3_
    clear n0_ n1_ n2_ n3_
    clear hb ho43
    obtain ⟨Ao44, co44, eo44⟩ := Kd.R_slice HO136.out
    (subst eo44)
    refine hK.out _ _ ⟨(blk_cell BK128.out 0).trans rfl, (blk_cell BK128.out 1).trans rfl, (blk_cell BK128.out 2).trans rfl, (blk_cell BK128.out 3).trans rfl, (blk_cell BK128.out 4).trans rfl⟩ (fun hHeld => ?_)
    clear hK K
    refine norm_ (a' := ?_) ?_ ?_
    rotate_left
    ·show Act.put _ (some 41) _ = _
     simp only [Act.put,s1_,s2_,s3_, i64_w, i32_w]
     rfl
    refine one_ (i := 6) (N := some 42) #[T_,T_,T_,T_,T_,T_,T_,F_,F_,F_,F_,F_] rfl rfl (one_of HT_.out (by kernel_rfl)) (by decide) (fun K hK => ?_)
    refine goes_ Tryz.func14 (by kernel_rfl) rfl #[.string a0_3, .slice Ao44 y134.length co44] (by rfl) rfl rfl mp_ ?_
    with_reducible refine (relabel_Fill.calls a0_3 _ _ y134 t137 t138 _ ?side1 ?side2 A21.out).mono ?_
    (case side1 => repeat (exact (Kd.R_reads' HO136.out).2.2))
    (case side2 => exact (Kd.R_reads' HO136.out).2.1)
    rintro e w45 ⟨rfl, hb⟩
    refine ⟨_, rfl, ?_⟩
    have n0_ := A_ (Kd.S_below (by (with_reducible repeat (first | apply Kd.S_alloc | apply Kd.S_drewN | apply Kd.S_drew)); exact HO_3.out) hb)
    have n1_ := A_ (Kd.R_below (rr_ HO136.out) hb)
    have n2_ := A_ (blk_below (g := gb128) (o := .cells #[.int .i64 a0_0, .string a0_1, .string a0_2, .string a0_3, .string a0_4] 43 (0, 0)) (bk_ BK128.out) hb)
    have n3_ := A_ (below_step HB.out hb)
    clear HO_3
    clear HO136
    clear BK128
    clear HB
    have HO_3 := n0_
    have HO136 := n1_
    have BK128 := n2_
    have HB := n3_
    clear n0_ n1_ n2_ n3_
    (try clear hb)
    (try clear hb2)
    (try clear hk)
    (try clear hi)
    refine hK.out _ _ ⟨(blk_cell BK128.out 0).trans rfl, (blk_cell BK128.out 1).trans rfl, (blk_cell BK128.out 2).trans rfl, (blk_cell BK128.out 3).trans rfl, (blk_cell BK128.out 4).trans rfl⟩ (fun hHeld => ?_)
    clear hK K
    refine norm_ (a' := ?_) ?_ ?_
    rotate_left
    ·show Act.put _ (some 42) _ = _
     simp only [Act.put,s1_,s2_,s3_, i64_w, i32_w]
     rfl
    refine pu_ 7 (some 35) #[T_,T_,T_,T_,T_,T_,T_,T_,F_,F_,F_,F_] HT_.out rfl rfl ?_
    refine pu_ 8 (some 43) #[T_,T_,T_,T_,T_,T_,T_,T_,T_,F_,F_,F_] HT_.out rfl rfl ?_
    refine pu_ 9 (some 44) #[T_,T_,T_,T_,T_,T_,T_,T_,T_,T_,F_,F_] HT_.out rfl rfl ?_
    refine pu_ 10 (some 5) #[T_,T_,T_,T_,T_,T_,T_,T_,T_,T_,T_,F_] HT_.out rfl rfl ?_
    refine pu_ 11 (some 6) #[T_,T_,T_,T_,T_,T_,T_,T_,T_,T_,T_,T_] HT_.out rfl rfl ?_
    refine done_ (done_of HT_.out (by kernel_rfl)) ?_
    have hcz46_0 : w45.cell? ⟨gb128, 0, none⟩ = some (.int .i64 a0_0) := (blk_cell BK128.out 0).trans rfl
    have hcz46_1 : w45.cell? ⟨gb128, 1, none⟩ = some (.string a0_1) := (blk_cell BK128.out 1).trans rfl
    have hcz46_2 : w45.cell? ⟨gb128, 2, none⟩ = some (.string a0_2) := (blk_cell BK128.out 2).trans rfl
    have hcz46_3 : w45.cell? ⟨gb128, 3, none⟩ = some (.string a0_3) := (blk_cell BK128.out 3).trans rfl
    have hcz46_4 : w45.cell? ⟨gb128, 4, none⟩ = some (.string a0_4) := (blk_cell BK128.out 4).trans rfl
    have hfz46_0 := blk_frozen BK128.out 0
    have hfz46_1 := blk_frozen BK128.out 1
    have hfz46_2 := blk_frozen BK128.out 2
    have hfz46_3 := blk_frozen BK128.out 3
    have hfz46_4 := blk_frozen BK128.out 4
    try go_wp2_with (first | ((with_reducible refine gate_callee (f := 52) rfl ?_); refine goesL_ (some 47) rfl rfl Tryz.func52 (by kernel_rfl) rfl #[.string a0_1] rfl mp_ ?_; (with_reducible refine (relabel_by.calls a0_1 false _ A22.out).mono ?_); rintro e w' ⟨rfl, ⟨nd, rfl⟩⟩; refine ⟨_, rfl, ?_⟩))
    go_ret
    exact ⟨by rfl, by repeat ((with_reducible first | exact HB.out | apply pw_below_drewN))⟩
   subst c23
   have H1 : ((relabel_by.f a0_4).bind fun t140 => (if t140 = true then (some t138) else (some false))) = some r := by rw [if_pos rfl] at H; exact H
   clear H
   have H := H1
   clear H1
   replace H := Option.bind_eq_some_iff.mp H
   obtain ⟨t140, A240, H⟩ := H
   replace H : (if t140 = true then (some t138) else (some false)) = some r := H
   have A24 := A_ A240
   clear A240
   by_cases c25 : t140 = true
   ·subst c25
    have H1 : (some t138) = some r := by rw [if_pos rfl] at H; exact H
    clear H
    have H := H1
    clear H1
    obtain rfl := Option.some.inj H
    try go_wp2
    have n0_ := A_ (Kd.S_drew HO_3.out)
    have n1_ := A_ (blk_drew BK128.out)
    have n2_ := A_ (below_drew1 HB.out)
    clear HO_3
    clear BK128
    clear HB
    have HO_3 := n0_
    have BK128 := n1_
    have HB := n2_
    clear n0_ n1_ n2_
    obtain ⟨Ao27, co27, eo27⟩ := Kd.S_slice HO_3.out
    (subst eo27)
    refine start_ (n := 12) (S := fun w' => w'.cell? ⟨gb128, 0, none⟩ = some (.int .i64 a0_0) ∧ w'.cell? ⟨gb128, 1, none⟩ = some (.string a0_1) ∧ w'.cell? ⟨gb128, 2, none⟩ = some (.string a0_2) ∧ w'.cell? ⟨gb128, 3, none⟩ = some (.string a0_3) ∧ w'.cell? ⟨gb128, 4, none⟩ = some (.string a0_4)) (ds := []) #[F_,F_,F_,F_,F_,F_,F_,F_,F_,F_,F_,F_] (by kernel_rfl) rfl rfl ⟨(blk_cell BK128.out 0).trans rfl, (blk_cell BK128.out 1).trans rfl, (blk_cell BK128.out 2).trans rfl, (blk_cell BK128.out 3).trans rfl, (blk_cell BK128.out 4).trans rfl⟩ (fun hHeld => ?_); refine with_tabW relabel_may.tab9 relabel_may.bits9 (fun HT_ HW_ => ?_)
    generalize wc.drew = w26 at HO_3 BK128 HB hHeld ⊢
    refine pu_ 0 (some 36) #[T_,F_,F_,F_,F_,F_,F_,F_,F_,F_,F_,F_] HT_.out rfl rfl ?_
    refine pu_ 2 (some 38) #[T_,F_,T_,F_,F_,F_,F_,F_,F_,F_,F_,F_] HT_.out rfl rfl ?_
    refine pu_ 3 (some 39) #[T_,F_,T_,T_,F_,F_,F_,F_,F_,F_,F_,F_] HT_.out rfl rfl ?_
    refine pu_ 4 (some 40) #[T_,F_,T_,T_,T_,F_,F_,F_,F_,F_,F_,F_] HT_.out rfl rfl ?_
    refine take_ (i := 1) (N := some 37) (v := ?_) (a' := ?_) #[T_,T_,T_,T_,T_,F_,F_,F_,F_,F_,F_,F_] rfl rfl (take_ofW HT_.out HW_.out (by kernel_rfl)) (fun _ _ _ h => h) (Or.inl ⟨by rfl, ?_⟩) hHeld ?_ ?_
    rotate_left
    ·rintro w' ⟨s0, s1, s2, s3, s4⟩
     go_simp
     with_reducible rfl
    rotate_left
    ·simp only [Act.put,s1_,s2_,s3_, i64_w, i32_w]
     rfl
    refine one_ (i := 5) (N := some 41) #[T_,T_,T_,T_,T_,T_,F_,F_,F_,F_,F_,F_] rfl rfl (one_of HT_.out (by kernel_rfl)) (by decide) (fun K hK => ?_)
    refine Kd.R_make_step Kd.string _ 9 (by rfl) (N := 41) rfl 23 _ _ rfl ji18 rfl rfl Tryz.underlying23 (.string ⟨#[]⟩) 16 info9 rfl (by decide) (by omega) (⟨#[]⟩ : ByteArray) (ok := fun _ => True) (okp := fun _ => True) rfl (fun _ hk => hk) trivial (od_) (Nat.le_trans (Nat.mul_le_mul_right _ (od_ : ji18.toNat ≤ 17592186044416)) (by omega)) (Below.refl _ _) (Nat.le_refl _) ?_
    intro v135 w28 ho29 hb hg_ hnew_
    clear hg_ hnew_
    (rw [← Ny134.out] at ho29)
    have n0_ := A_ (Kd.S_below (by (with_reducible repeat (first | apply Kd.S_alloc | apply Kd.S_drewN | apply Kd.S_drew)); exact HO_3.out) hb)
    have n1_ := A_ (Kd.R_lower ho29 (below_size HB.out))
    have n2_ := A_ (blk_below (g := gb128) (o := .cells #[.int .i64 a0_0, .string a0_1, .string a0_2, .string a0_3, .string a0_4] 43 (0, 0)) (bk_ BK128.out) hb)
    have n3_ := A_ (below_step HB.out hb)
    clear HO_3
    clear BK128
    clear HB
    have HO_3 := n0_
    have HO136 := n1_
    have BK128 := n2_
    have HB := n3_
    clear n0_ n1_ n2_ n3_
    clear hb ho29
    obtain ⟨Ao30, co30, eo30⟩ := Kd.R_slice HO136.out
    (subst eo30)
    refine hK.out _ _ ⟨(blk_cell BK128.out 0).trans rfl, (blk_cell BK128.out 1).trans rfl, (blk_cell BK128.out 2).trans rfl, (blk_cell BK128.out 3).trans rfl, (blk_cell BK128.out 4).trans rfl⟩ (fun hHeld => ?_)
    clear hK K
    refine norm_ (a' := ?_) ?_ ?_
    rotate_left
    ·show Act.put _ (some 41) _ = _
     simp only [Act.put,s1_,s2_,s3_, i64_w, i32_w]
     rfl
    refine one_ (i := 6) (N := some 42) #[T_,T_,T_,T_,T_,T_,T_,F_,F_,F_,F_,F_] rfl rfl (one_of HT_.out (by kernel_rfl)) (by decide) (fun K hK => ?_)
    refine goes_ Tryz.func14 (by kernel_rfl) rfl #[.string a0_3, .slice Ao30 y134.length co30] (by rfl) rfl rfl mp_ ?_
    with_reducible refine (relabel_Fill.calls a0_3 _ _ y134 t137 t138 _ ?side1 ?side2 A21.out).mono ?_
    (case side1 => repeat (exact (Kd.R_reads' HO136.out).2.2))
    (case side2 => exact (Kd.R_reads' HO136.out).2.1)
    rintro e w31 ⟨rfl, hb⟩
    refine ⟨_, rfl, ?_⟩
    have n0_ := A_ (Kd.S_below (by (with_reducible repeat (first | apply Kd.S_alloc | apply Kd.S_drewN | apply Kd.S_drew)); exact HO_3.out) hb)
    have n1_ := A_ (Kd.R_below (rr_ HO136.out) hb)
    have n2_ := A_ (blk_below (g := gb128) (o := .cells #[.int .i64 a0_0, .string a0_1, .string a0_2, .string a0_3, .string a0_4] 43 (0, 0)) (bk_ BK128.out) hb)
    have n3_ := A_ (below_step HB.out hb)
    clear HO_3
    clear HO136
    clear BK128
    clear HB
    have HO_3 := n0_
    have HO136 := n1_
    have BK128 := n2_
    have HB := n3_
    clear n0_ n1_ n2_ n3_
    (try clear hb)
    (try clear hb2)
    (try clear hk)
    (try clear hi)
    refine hK.out _ _ ⟨(blk_cell BK128.out 0).trans rfl, (blk_cell BK128.out 1).trans rfl, (blk_cell BK128.out 2).trans rfl, (blk_cell BK128.out 3).trans rfl, (blk_cell BK128.out 4).trans rfl⟩ (fun hHeld => ?_)
    clear hK K
    refine norm_ (a' := ?_) ?_ ?_
    rotate_left
    ·show Act.put _ (some 42) _ = _
     simp only [Act.put,s1_,s2_,s3_, i64_w, i32_w]
     rfl
    refine pu_ 7 (some 35) #[T_,T_,T_,T_,T_,T_,T_,T_,F_,F_,F_,F_] HT_.out rfl rfl ?_
    refine pu_ 8 (some 43) #[T_,T_,T_,T_,T_,T_,T_,T_,T_,F_,F_,F_] HT_.out rfl rfl ?_
    refine pu_ 9 (some 44) #[T_,T_,T_,T_,T_,T_,T_,T_,T_,T_,F_,F_] HT_.out rfl rfl ?_
    refine pu_ 10 (some 5) #[T_,T_,T_,T_,T_,T_,T_,T_,T_,T_,T_,F_] HT_.out rfl rfl ?_
    refine pu_ 11 (some 6) #[T_,T_,T_,T_,T_,T_,T_,T_,T_,T_,T_,T_] HT_.out rfl rfl ?_
    refine done_ (done_of HT_.out (by kernel_rfl)) ?_
    have hcz32_0 : w31.cell? ⟨gb128, 0, none⟩ = some (.int .i64 a0_0) := (blk_cell BK128.out 0).trans rfl
    have hcz32_1 : w31.cell? ⟨gb128, 1, none⟩ = some (.string a0_1) := (blk_cell BK128.out 1).trans rfl
    have hcz32_2 : w31.cell? ⟨gb128, 2, none⟩ = some (.string a0_2) := (blk_cell BK128.out 2).trans rfl
    have hcz32_3 : w31.cell? ⟨gb128, 3, none⟩ = some (.string a0_3) := (blk_cell BK128.out 3).trans rfl
    have hcz32_4 : w31.cell? ⟨gb128, 4, none⟩ = some (.string a0_4) := (blk_cell BK128.out 4).trans rfl
    have hfz32_0 := blk_frozen BK128.out 0
    have hfz32_1 := blk_frozen BK128.out 1
    have hfz32_2 := blk_frozen BK128.out 2
    have hfz32_3 := blk_frozen BK128.out 3
    have hfz32_4 := blk_frozen BK128.out 4
    try go_wp2_with (first | ((with_reducible refine gate_callee (f := 52) rfl ?_); refine goesL_ (some 47) rfl rfl Tryz.func52 (by kernel_rfl) rfl #[.string a0_1] rfl mp_ ?_; (with_reducible refine (relabel_by.calls a0_1 true _ A22.out).mono ?_); rintro e w' ⟨rfl, ⟨nd, rfl⟩⟩; refine ⟨_, rfl, ?_⟩) | (go_at_call 52; (with_reducible refine (relabel_by.calls a0_4 true _ A24.out).mono ?_); rintro e w' ⟨rfl, ⟨nd, rfl⟩⟩))
    go_ret
    exact ⟨by rfl, by repeat ((with_reducible first | exact HB.out | apply pw_below_drewN))⟩
   replace c25 := Bool.eq_false_iff.mpr c25
   subst c25
   have H1 : (some false) = some r := by rw [if_neg (show ¬ (false = true) by decide)] at H; exact H
   clear H
   have H := H1
   clear H1
   obtain rfl := Option.some.inj H
   try go_wp2
   have n0_ := A_ (Kd.S_drew HO_3.out)
   have n1_ := A_ (blk_drew BK128.out)
   have n2_ := A_ (below_drew1 HB.out)
   clear HO_3
   clear BK128
   clear HB
   have HO_3 := n0_
   have BK128 := n1_
   have HB := n2_
   clear n0_ n1_ n2_
   obtain ⟨Ao34, co34, eo34⟩ := Kd.S_slice HO_3.out
   (subst eo34)
   refine start_ (n := 12) (S := fun w' => w'.cell? ⟨gb128, 0, none⟩ = some (.int .i64 a0_0) ∧ w'.cell? ⟨gb128, 1, none⟩ = some (.string a0_1) ∧ w'.cell? ⟨gb128, 2, none⟩ = some (.string a0_2) ∧ w'.cell? ⟨gb128, 3, none⟩ = some (.string a0_3) ∧ w'.cell? ⟨gb128, 4, none⟩ = some (.string a0_4)) (ds := []) #[F_,F_,F_,F_,F_,F_,F_,F_,F_,F_,F_,F_] (by kernel_rfl) rfl rfl ⟨(blk_cell BK128.out 0).trans rfl, (blk_cell BK128.out 1).trans rfl, (blk_cell BK128.out 2).trans rfl, (blk_cell BK128.out 3).trans rfl, (blk_cell BK128.out 4).trans rfl⟩ (fun hHeld => ?_); refine with_tabW relabel_may.tab9 relabel_may.bits9 (fun HT_ HW_ => ?_)
   generalize wc.drew = w33 at HO_3 BK128 HB hHeld ⊢
   refine pu_ 0 (some 36) #[T_,F_,F_,F_,F_,F_,F_,F_,F_,F_,F_,F_] HT_.out rfl rfl ?_
   refine pu_ 2 (some 38) #[T_,F_,T_,F_,F_,F_,F_,F_,F_,F_,F_,F_] HT_.out rfl rfl ?_
   refine pu_ 3 (some 39) #[T_,F_,T_,T_,F_,F_,F_,F_,F_,F_,F_,F_] HT_.out rfl rfl ?_
   refine pu_ 4 (some 40) #[T_,F_,T_,T_,T_,F_,F_,F_,F_,F_,F_,F_] HT_.out rfl rfl ?_
   refine take_ (i := 1) (N := some 37) (v := ?_) (a' := ?_) #[T_,T_,T_,T_,T_,F_,F_,F_,F_,F_,F_,F_] rfl rfl (take_ofW HT_.out HW_.out (by kernel_rfl)) (fun _ _ _ h => h) (Or.inl ⟨by rfl, ?_⟩) hHeld ?_ ?_
   rotate_left
   ·rintro w' ⟨s0, s1, s2, s3, s4⟩
    go_simp
    with_reducible rfl
   rotate_left
   ·simp only [Act.put,s1_,s2_,s3_, i64_w, i32_w]
    rfl
   refine one_ (i := 5) (N := some 41) #[T_,T_,T_,T_,T_,T_,F_,F_,F_,F_,F_,F_] rfl rfl (one_of HT_.out (by kernel_rfl)) (by decide) (fun K hK => ?_)
   refine Kd.R_make_step Kd.string _ 9 (by rfl) (N := 41) rfl 23 _ _ rfl ji18 rfl rfl Tryz.underlying23 (.string ⟨#[]⟩) 16 info9 rfl (by decide) (by omega) (⟨#[]⟩ : ByteArray) (ok := fun _ => True) (okp := fun _ => True) rfl (fun _ hk => hk) trivial (od_) (Nat.le_trans (Nat.mul_le_mul_right _ (od_ : ji18.toNat ≤ 17592186044416)) (by omega)) (Below.refl _ _) (Nat.le_refl _) ?_
   intro v135 w35 ho36 hb hg_ hnew_
   clear hg_ hnew_
   (rw [← Ny134.out] at ho36)
   have n0_ := A_ (Kd.S_below (by (with_reducible repeat (first | apply Kd.S_alloc | apply Kd.S_drewN | apply Kd.S_drew)); exact HO_3.out) hb)
   have n1_ := A_ (Kd.R_lower ho36 (below_size HB.out))
   have n2_ := A_ (blk_below (g := gb128) (o := .cells #[.int .i64 a0_0, .string a0_1, .string a0_2, .string a0_3, .string a0_4] 43 (0, 0)) (bk_ BK128.out) hb)
   have n3_ := A_ (below_step HB.out hb)
   clear HO_3
   clear BK128
   clear HB
   have HO_3 := n0_
   have HO136 := n1_
   have BK128 := n2_
   have HB := n3_
   clear n0_ n1_ n2_ n3_
   clear hb ho36
   obtain ⟨Ao37, co37, eo37⟩ := Kd.R_slice HO136.out
   (subst eo37)
   refine hK.out _ _ ⟨(blk_cell BK128.out 0).trans rfl, (blk_cell BK128.out 1).trans rfl, (blk_cell BK128.out 2).trans rfl, (blk_cell BK128.out 3).trans rfl, (blk_cell BK128.out 4).trans rfl⟩ (fun hHeld => ?_)
   clear hK K
   refine norm_ (a' := ?_) ?_ ?_
   rotate_left
   ·show Act.put _ (some 41) _ = _
    simp only [Act.put,s1_,s2_,s3_, i64_w, i32_w]
    rfl
   refine one_ (i := 6) (N := some 42) #[T_,T_,T_,T_,T_,T_,T_,F_,F_,F_,F_,F_] rfl rfl (one_of HT_.out (by kernel_rfl)) (by decide) (fun K hK => ?_)
   refine goes_ Tryz.func14 (by kernel_rfl) rfl #[.string a0_3, .slice Ao37 y134.length co37] (by rfl) rfl rfl mp_ ?_
   with_reducible refine (relabel_Fill.calls a0_3 _ _ y134 t137 t138 _ ?side1 ?side2 A21.out).mono ?_
   (case side1 => repeat (exact (Kd.R_reads' HO136.out).2.2))
   (case side2 => exact (Kd.R_reads' HO136.out).2.1)
   rintro e w38 ⟨rfl, hb⟩
   refine ⟨_, rfl, ?_⟩
   have n0_ := A_ (Kd.S_below (by (with_reducible repeat (first | apply Kd.S_alloc | apply Kd.S_drewN | apply Kd.S_drew)); exact HO_3.out) hb)
   have n1_ := A_ (Kd.R_below (rr_ HO136.out) hb)
   have n2_ := A_ (blk_below (g := gb128) (o := .cells #[.int .i64 a0_0, .string a0_1, .string a0_2, .string a0_3, .string a0_4] 43 (0, 0)) (bk_ BK128.out) hb)
   have n3_ := A_ (below_step HB.out hb)
   clear HO_3
   clear HO136
   clear BK128
   clear HB
   have HO_3 := n0_
   have HO136 := n1_
   have BK128 := n2_
   have HB := n3_
   clear n0_ n1_ n2_ n3_
   (try clear hb)
   (try clear hb2)
   (try clear hk)
   (try clear hi)
   refine hK.out _ _ ⟨(blk_cell BK128.out 0).trans rfl, (blk_cell BK128.out 1).trans rfl, (blk_cell BK128.out 2).trans rfl, (blk_cell BK128.out 3).trans rfl, (blk_cell BK128.out 4).trans rfl⟩ (fun hHeld => ?_)
   clear hK K
   refine norm_ (a' := ?_) ?_ ?_
   rotate_left
   ·show Act.put _ (some 42) _ = _
    simp only [Act.put,s1_,s2_,s3_, i64_w, i32_w]
    rfl
   refine pu_ 7 (some 35) #[T_,T_,T_,T_,T_,T_,T_,T_,F_,F_,F_,F_] HT_.out rfl rfl ?_
   refine pu_ 8 (some 43) #[T_,T_,T_,T_,T_,T_,T_,T_,T_,F_,F_,F_] HT_.out rfl rfl ?_
   refine pu_ 9 (some 44) #[T_,T_,T_,T_,T_,T_,T_,T_,T_,T_,F_,F_] HT_.out rfl rfl ?_
   refine pu_ 10 (some 5) #[T_,T_,T_,T_,T_,T_,T_,T_,T_,T_,T_,F_] HT_.out rfl rfl ?_
   refine pu_ 11 (some 6) #[T_,T_,T_,T_,T_,T_,T_,T_,T_,T_,T_,T_] HT_.out rfl rfl ?_
   refine done_ (done_of HT_.out (by kernel_rfl)) ?_
   have hcz39_0 : w38.cell? ⟨gb128, 0, none⟩ = some (.int .i64 a0_0) := (blk_cell BK128.out 0).trans rfl
   have hcz39_1 : w38.cell? ⟨gb128, 1, none⟩ = some (.string a0_1) := (blk_cell BK128.out 1).trans rfl
   have hcz39_2 : w38.cell? ⟨gb128, 2, none⟩ = some (.string a0_2) := (blk_cell BK128.out 2).trans rfl
   have hcz39_3 : w38.cell? ⟨gb128, 3, none⟩ = some (.string a0_3) := (blk_cell BK128.out 3).trans rfl
   have hcz39_4 : w38.cell? ⟨gb128, 4, none⟩ = some (.string a0_4) := (blk_cell BK128.out 4).trans rfl
   have hfz39_0 := blk_frozen BK128.out 0
   have hfz39_1 := blk_frozen BK128.out 1
   have hfz39_2 := blk_frozen BK128.out 2
   have hfz39_3 := blk_frozen BK128.out 3
   have hfz39_4 := blk_frozen BK128.out 4
   try go_wp2_with (first | ((with_reducible refine gate_callee (f := 52) rfl ?_); refine goesL_ (some 47) rfl rfl Tryz.func52 (by kernel_rfl) rfl #[.string a0_1] rfl mp_ ?_; (with_reducible refine (relabel_by.calls a0_1 true _ A22.out).mono ?_); rintro e w' ⟨rfl, ⟨nd, rfl⟩⟩; refine ⟨_, rfl, ?_⟩) | (go_at_call 52; (with_reducible refine (relabel_by.calls a0_4 false _ A24.out).mono ?_); rintro e w' ⟨rfl, ⟨nd, rfl⟩⟩))
   go_ret
   exact ⟨by rfl, by repeat ((with_reducible first | exact HB.out | apply pw_below_drewN))⟩
def relabel_May.f (k : Nat) (l0 : List S43) : Option Bool := allF (fun x => relabel_may.f k x.f0 x.f1 x.f2 x.f3 x.f4) l0
theorem relabel_May.mono : ∀ a0 k, LeO (relabel_May.f k a0) (relabel_May.f (k + 1) a0) := by
 intro a0 k r h
 exact allF_mono (fun x r hr => relabel_may.mono x.f0 x.f1 x.f2 x.f3 x.f4 k r hr) a0 r h
theorem relabel_May.calls (k : Nat) (A0 : Option Addr) (c0 : Nat) (l0 : List S43) (r : Bool) (w : World) (hr0 : Kd.C k43 w A0 l0.length l0) (hc0 : l0.length ≤ c0) (h : relabel_May.f k l0 = some r) :
 Calls Tryz.prog 17 #[.slice A0 l0.length c0] w fun e w' => e = .returned (.bool r) ∧ Below w.heap.size w w' := by
 obtain ⟨hp, rfl⟩ := allF_at h
 exact mays_calls k43 (fun x => x.f0) (fun x => x.f1) (fun x => x.f2) (fun x => x.f3) (fun x => x.f4) rfl k43_open _ A0 c0 l0 w hr0 fun x hx W2 => relabel_may.calls k x.f0 x.f1 x.f2 x.f3 x.f4 _ W2 (hp x hx)
def label_IsMetric.f (a0 : ByteArray) : Option (Bool) := (label_named.f a0 58).bind fun t141 => (some t141)
set_option maxHeartbeats 8000000 in
set_option maxRecDepth 100000 in
theorem label_IsMetric.calls (a0 : ByteArray) (r : Bool) (w : World) (h : label_IsMetric.f a0 = some r) :
 Calls Tryz.prog 89 #[.string a0] w fun e w' => e = .returned (.bool r) ∧ Drawn0 w w' := by
 have H : ((label_named.f a0 58).bind fun t141 => (some t141)) = some r := h
 clear h
 replace H := Option.bind_eq_some_iff.mp H
 obtain ⟨t141, A20, H⟩ := H
 replace H : (some t141) = some r := H
 have A2 := A_ A20
 clear A20
 obtain rfl := Option.some.inj H
 go_enter Tryz.func89, Tryz.ntmps89
 go_wp2_with (first | ((with_reducible refine gate_callee (f := 97) rfl ?_); refine goesL_ (some 4) rfl rfl Tryz.func97 (by kernel_rfl) rfl #[.string a0, .int .u8 58] rfl mp_ ?_; (with_reducible refine (label_named.calls a0 58 t141 _ A2.out).mono ?_); rintro e w' ⟨rfl, ⟨nd, rfl⟩⟩; refine ⟨_, rfl, ?_⟩))
 go_ret
 exact ⟨by rfl, by repeat (first | exact Drawn0.refl _ | apply Drawn0.step)⟩
def label_series.f (a0 : ByteArray) (l1 : List S96) : Option (List S96 × Option Int) :=
 if a0.size ≤ 1099511627776 ∧ l1.length ≤ 1099511627776 ∧ ∀ x ∈ l1, x.f0.size ≤ 1099511627776 then some (seriesF (fun x => x.f0) (fun x => x.f1) (fun s => namedB s 95) (fun s => namedB s 58) a0 l1) else none
theorem label_series.calls (a0 : ByteArray) (A1 : Option Addr) (c1 : Nat) (l1 : List S96) (r1 : List S96) (r2 : Option Int) (w : World) (hr1 : Kd.C k96 w A1 l1.length l1) (hc1 : l1.length ≤ c1) (h : label_series.f a0 l1 = some (r1, r2)) :
 Calls Tryz.prog 64 #[.string a0, .slice A1 l1.length c1] w fun e w' => ∃ v0_ : Value, e = .returned (.tuple #[v0_, errW r2]) ∧ Kd.R k96 96 w' w.heap.size (fun _ => True) v0_ r1 ∧ Below w.heap.size w w' := by
 unfold label_series.f at h
 split at h
 case isFalse => cases h
 case isTrue hs =>
  have h1 : (r1, r2) = seriesF (fun x : S96 => x.f0) (fun x => x.f1) (fun s => namedB s 95) (fun s => namedB s 58) a0 l1 := (Option.some.inj h).symm
  have hr : r1 = (seriesF (fun x : S96 => x.f0) (fun x => x.f1) (fun s => namedB s 95) (fun s => namedB s 58) a0 l1).1 ∧ r2 = (seriesF (fun x : S96 => x.f0) (fun x => x.f1) (fun s => namedB s 95) (fun s => namedB s 58) a0 l1).2 := by rw [← h1]; exact ⟨rfl, rfl⟩
  rw [hr.1, hr.2]
  exact series_calls k96 (fun x => x.f0) (fun x => x.f1) rfl k96_open k96_openM (fun w base ok x => k96_mkM w base ok x) _ _ errW rfl rfl rfl rfl a0 A1 c1 l1 w hr1 hs.2.1
   (fun W => label_IsMetric.calls a0 _ W (by simp [label_IsMetric.f, label_named.f, hs.1]))
   (fun x hx W => label_IsWord.calls x.f0 _ W (by simp [label_IsWord.f, label_named.f, hs.2.2 x hx]))
end Go.Proofs.YtcikjeiebpmmcaaGreat.PMch
