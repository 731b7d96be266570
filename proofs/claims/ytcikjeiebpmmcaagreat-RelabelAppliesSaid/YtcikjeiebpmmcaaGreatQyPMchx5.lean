/- Pruned. -/
import Derived.Test.YtcikjeiebpmmcaaGreatQyPMchx0
import Derived.Test.YtcikjeiebpmmcaaGreatQyPMchx4
namespace Go.Proofs.YtcikjeiebpmmcaaGreat.PMch
open Go.RowKit Go.Proofs.YtcikjeiebpmmcaaGreatW.PrintWords Go.Proofs.YtcikjeiebpmmcaaGreatW.PrintLast Go.Proofs.YtcikjeiebpmmcaaGreatW.PrintMore
attribute [local go_sem] max2_int max_two
set_option linter.unusedVariables false
set_option linter.unusedSimpArgs false
mutual
def relabel_stands.j0 : Nat → List (S103) → ByteArray → Int → Bool → Option (Bool)
 | 0, _, _, _, _ => none
 | k + 1, x0, x1, x2, x19 => if x19 = true then (some false) else (relabel_stands.l0 k x1 x2 x0 (x0.length : Int) 0)
def relabel_stands.l0 : Nat → ByteArray → Int → List (S103) → Int → Int → Option (Bool)
 | 0, _, _, _, _, _ => none
 | k + 1, x1, x2, x20, x21, x22 => if x22 < x21 then (if 0 ≤ x22 then (if x22 < (x20.length : Int) then (if ((rd_T103 x20 x22).f0 = true) then (relabel_stands.l0 k x1 x2 x20 x21 (wrap64 (x22 + 1))) else (if 0 ≤ (wrap64 (x2 + x22)) then (if (wrap64 (x2 + x22)) < (x1.size : Int) then (if (bt x1 (wrap64 (x2 + x22))) = ((rd_T103 x20 x22).f1) then (relabel_stands.l0 k x1 x2 x20 x21 (wrap64 (x22 + 1))) else (some false)) else (none)) else (none))) else (none)) else (none)) else (some true)
end
def relabel_stands.f (k : Nat) (l0 : List (S103)) (a1 : ByteArray) (a2 : Int) : Option (Bool) := if a2 < 0 then (relabel_stands.j0 k l0 a1 a2 true) else (relabel_stands.j0 k l0 a1 a2 (decide ((wrap64 (a2 + (l0.length : Int))) > (a1.size : Int))))
theorem relabel_stands.mono_l : ∀ k, (∀ y0 y1 y2 y3, LeO (relabel_stands.j0 k y0 y1 y2 y3) (relabel_stands.j0 (k + 1) y0 y1 y2 y3)) ∧ (∀ y0 y1 y2 y3 y4, LeO (relabel_stands.l0 k y0 y1 y2 y3 y4) (relabel_stands.l0 (k + 1) y0 y1 y2 y3 y4))
 | 0 => ⟨fun _ _ _ _ r h => by simp [relabel_stands.j0] at h, fun _ _ _ _ _ r h => by simp [relabel_stands.l0] at h⟩
 | k + 1 => by
  obtain ⟨ih0, ih1⟩ := relabel_stands.mono_l k
  refine ⟨?_, ?_⟩
  rotate_left
  ·intro y0 y1 y2 y3 y4
   unfold relabel_stands.l0
   repeat' first
   | (with_reducible first | exact ih0 _ _ _ _ | exact ih1 _ _ _ _ _ | exact LeO.refl _ | exact LeO.none _ | refine LeO.ite ?_ ?_ | refine LeO.bind ?_ (fun _ => ?_))
  intro y0 y1 y2 y3
  unfold relabel_stands.j0
  repeat' first
  | (with_reducible first | exact ih0 _ _ _ _ | exact ih1 _ _ _ _ _ | exact LeO.refl _ | exact LeO.none _ | refine LeO.ite ?_ ?_ | refine LeO.bind ?_ (fun _ => ?_))
theorem relabel_stands.mono : ∀ a0 a1 a2 k, LeO (relabel_stands.f k a0 a1 a2) (relabel_stands.f (k + 1) a0 a1 a2) := by
 intro a0 a1 a2 k
 obtain ⟨ih0, ih1⟩ := relabel_stands.mono_l k
 unfold relabel_stands.f
 repeat' first
  | (with_reducible first | exact ih0 _ _ _ _ | exact ih1 _ _ _ _ _ | exact LeO.refl _ | exact LeO.none _ | refine LeO.ite ?_ ?_ | refine LeO.bind ?_ (fun _ => ?_))
set_option maxHeartbeats 8000000 in
set_option maxRecDepth 100000 in
theorem relabel_stands.calls (k : Nat) (A0 : Option Addr) (c0 : Nat) (l0 : List (S103)) (a1 : ByteArray) (a2 : Int) (r : Bool) (w : World) (hr0 : Kd.C k103 w A0 l0.length l0) (hc0 : l0.length ≤ c0) (h : relabel_stands.f k l0 a1 a2 = some r) :
 Calls Tryz.prog 28 #[.slice A0 l0.length c0, .string a1, .int .i64 a2] w fun e w' => e = .returned (.bool r) ∧ Below w.heap.size w w' := by
 have hu103 := Tryz.underlying103
 have HR0 := A_ hr0
 have HC0 := A_ hc0
 clear hr0 hc0
 have HB := A_ (Below.refl w.heap.size w)
 have H : (if a2 < 0 then (relabel_stands.j0 k l0 a1 a2 true) else (relabel_stands.j0 k l0 a1 a2 (decide ((wrap64 (a2 + (l0.length : Int))) > (a1.size : Int))))) = some r := h
 clear h
 have HC4 := A_ H
 clear H
 go_enter Tryz.func28, Tryz.ntmps28
 go_upto_region 1 with (fail)
 repeat (go_quiet (fail); go_upto_region 1 with (fail))
 go_cut [19] (fun v19 wc => ∃ (kq : Nat) (x19_3 : Bool), v19 = .bool x19_3 ∧ Aside0 (relabel_stands.j0 kq l0 a1 a2 x19_3 = some r) ∧ Aside0 (kq ≤ k) ∧ Aside0 (Below w.heap.size w wc))
 case first =>
  have H := HC4.out
  clear HC4
  by_cases c5 : a2 < 0
  rotate_left
  ·rw [if_neg c5] at H
   have c5b0 := decide_eq_false c5
   clear c5
   (skip)
   have H' := A_ H
   clear H
   go_wp2
   repeat (go_quiet (fail); try go_wp2)
   go_meet
   case rel => exact ⟨_, (decide ((wrap64 (a2 + (l0.length : Int))) > (a1.size : Int))), (by rfl), H', ⟨by omega⟩, ⟨HB.out⟩⟩
  rw [if_pos c5] at H
  have c5b0 := decide_eq_true c5
  clear c5
  (skip)
  have H' := A_ H
  clear H
  go_wp2
  repeat (go_quiet (fail); try go_wp2)
  go_meet
  case rel => exact ⟨_, (true), (by rfl), H', ⟨by omega⟩, ⟨HB.out⟩⟩
 case rest =>
  clear HC4
  try clear c2
  try clear p2
  try clear c5
  try clear c5b0
  obtain ⟨kq, x19_3, rfl, HA, HJ3, HB⟩ := hcut
  cases kq with
  | zero => exact absurd HA.out (by simp [relabel_stands.j0])
  | succ kj3 =>
   have H := HA.out
   clear HA
   simp only [relabel_stands.j0] at H
   by_cases c6 : x19_3 = true
   ·subst c6
    have H1 : (some false) = some r := by rw [if_pos rfl] at H; exact H
    clear H
    have H := H1
    clear H1
    obtain rfl := Option.some.inj H
    go_wp2
    repeat (go_quiet (fail); try go_wp2)
    go_ret
    exact ⟨by rfl, HB.out⟩
   replace c6 := Bool.eq_false_iff.mpr c6
   subst c6
   have H1 : (relabel_stands.l0 kj3 a1 a2 l0 (l0.length : Int) 0) = some r := by rw [if_neg (show ¬ (false = true) by decide)] at H; exact H
   clear H
   have H := H1
   clear H1
   have H' := A_ H
   clear H
   go_wp2
   repeat (go_quiet (fail); try go_wp2)
   go_loopg [22] kj3 (fun kq v22 w' => ∃ (x22_2 : Int), v22 = .int .i64 x22_2 ∧ Aside0 (relabel_stands.l0 kq a1 a2 l0 (l0.length : Int) x22_2 = some r) ∧ Aside0 (kq ≤ kj3) ∧ Aside0 (Below w.heap.size w w'))
   case atStart => exact ⟨(0), (by rfl), H', ⟨Nat.le_refl _⟩, ⟨HB.out⟩⟩
   case round =>
    clear H'
    try clear c2
    try clear p2
    try clear c5
    try clear c5b0
    try clear c6
    try clear p6
    try clear p2
    obtain ⟨x22_2, rfl, HA, HK2, HB⟩ := hrel
    cases gk with
    | zero => exact absurd HA.out (by simp [relabel_stands.l0])
    | succ k2 =>
     have H := HA.out
     clear HA
     simp only [relabel_stands.l0] at H
     by_cases c7 : x22_2 < (l0.length : Int)
     rotate_left
     ·rw [if_neg c7] at H
      have c7b0 := decide_eq_false c7
      clear c7
      obtain rfl := Option.some.inj H
      go_wp2
      repeat (go_quiet (fail); try go_wp2)
      go_ret
      exact ⟨by rfl, HB.out⟩
     rw [if_pos c7] at H
     have c7b0 := decide_eq_true c7
     clear c7
     by_cases c8 : 0 ≤ x22_2
     rotate_left
     ·rw [if_neg c8] at H
      exact absurd H (by simp)
     rw [if_pos c8] at H
     have c8b0 := decide_eq_true c8
     clear c8
     by_cases c9 : x22_2 < (l0.length : Int)
     rotate_left
     ·rw [if_neg c9] at H
      exact absurd H (by simp)
     rw [if_pos c9] at H
     have c9b0 := decide_eq_true c9
     clear c9
     obtain ⟨bq10, hbq10⟩ : ∃ b_ : Bool, b_ = ((rd_T103 l0 x22_2).f0) := ⟨_, rfl⟩
     replace H : (if (bq10 = true) then (relabel_stands.l0 k2 a1 a2 l0 (l0.length : Int) (wrap64 (x22_2 + 1))) else (if 0 ≤ (wrap64 (a2 + x22_2)) then (if (wrap64 (a2 + x22_2)) < (a1.size : Int) then (if (bt a1 (wrap64 (a2 + x22_2))) = ((rd_T103 l0 x22_2).f1) then (relabel_stands.l0 k2 a1 a2 l0 (l0.length : Int) (wrap64 (x22_2 + 1))) else (some false)) else (none)) else (none))) = some r := by rw [← hbq10] at H; exact H
     have Nbq10 := A_ hbq10
     clear hbq10
     by_cases c11 : (bq10 = true)
     ·subst c11
      have H1 : (relabel_stands.l0 k2 a1 a2 l0 (l0.length : Int) (wrap64 (x22_2 + 1))) = some r := by rw [if_pos rfl] at H; exact H
      clear H
      have H := H1
      clear H1
      have H' := A_ H
      clear H
      have p124 : 0 ≤ (x22_2 : Int) := od_
      have q124 : x22_2 < (l0.length : Int) := od_
      obtain ⟨ad124, e124, hx124_0, hx124_1⟩ := at_T103 HR0.out x22_2 p124 q124
      (try rw [← Nbq10.out] at hx124_0)
      cases e124
      replace hx124_0 := (HB.out.cell (World.block_lt_of_cell? w _ hx124_0)).trans hx124_0
      replace hx124_1 := (HB.out.cell (World.block_lt_of_cell? w _ hx124_1)).trans hx124_1
      replace p124 := eq_true p124
      replace q124 := eq_true q124
      go_wp2_with (first | ((with_reducible refine gate_dst (N := 8) rfl ?_); (try (refine gate_guard (by rfl) ?_; dsimp only)); refine box_event ?hg (N := 8) ?hd (cs := #[.bool false, .int .u8 0]) (t := 103) ?hr ?_; (case hd => rfl); (case hg => rfl); (case hr => (go_simp; done)); intro gb125 hg w12 hbox hb; have n0_ := A_ (below_step HB.out hb); have n1_ := A_ (hbox); have n2_ := A_ ((by rw [hg]; exact (below_size HB.out) : w.heap.size ≤ gb125)); have n3_ := A_ ((by rw [hg]; exact (below_size HB.out) : w.heap.size ≤ gb125)); clear HB; have HB := n0_; have BK125 := n1_; have GW125 := n2_; have GE125 := n3_; clear n0_ n1_ n2_ n3_; clear hb hbox hg; have hcz13_0 : w12.cell? ⟨gb125, 0, none⟩ = some (.bool false) := (blk_cell BK125.out 0).trans rfl; have hcz13_1 : w12.cell? ⟨gb125, 1, none⟩ = some (.int .u8 0) := (blk_cell BK125.out 1).trans rfl; have hfz13_0 := blk_frozen BK125.out 0; have hfz13_1 := blk_frozen BK125.out 1))
      repeat (go_quiet (first | ((with_reducible refine gate_dst (N := 8) rfl ?_); (try (refine gate_guard (by rfl) ?_; dsimp only)); refine box_event ?hg (N := 8) ?hd (cs := #[.bool false, .int .u8 0]) (t := 103) ?hr ?_; (case hd => rfl); (case hg => rfl); (case hr => first | (go_simp; done) | (go_simp; rfl)); intro gb125 hg w12 hbox hb; have n0_ := A_ (below_step (bw_ HB.out) hb); have n1_ := A_ (hbox); have n2_ := A_ ((by rw [hg]; exact (below_size (bw_ HB.out)) : w.heap.size ≤ gb125)); have n3_ := A_ ((by rw [hg]; exact (below_size (bw_ HB.out)) : w.heap.size ≤ gb125)); clear HB; have HB := n0_; have BK125 := n1_; have GW125 := n2_; have GE125 := n3_; clear n0_ n1_ n2_ n3_; clear hb hbox hg; have hcz13_0 : w12.cell? ⟨gb125, 0, none⟩ = some (.bool false) := (blk_cell BK125.out 0).trans rfl; have hcz13_1 : w12.cell? ⟨gb125, 1, none⟩ = some (.int .u8 0) := (blk_cell BK125.out 1).trans rfl; have hfz13_0 := blk_frozen BK125.out 0; have hfz13_1 := blk_frozen BK125.out 1)); try go_wp2_with (first | ((with_reducible refine gate_dst (N := 8) rfl ?_); (try (refine gate_guard (by rfl) ?_; dsimp only)); refine box_event ?hg (N := 8) ?hd (cs := #[.bool false, .int .u8 0]) (t := 103) ?hr ?_; (case hd => rfl); (case hg => rfl); (case hr => first | (go_simp; done) | (go_simp; rfl)); intro gb125 hg w12 hbox hb; have n0_ := A_ (below_step (bw_ HB.out) hb); have n1_ := A_ (hbox); have n2_ := A_ ((by rw [hg]; exact (below_size (bw_ HB.out)) : w.heap.size ≤ gb125)); have n3_ := A_ ((by rw [hg]; exact (below_size (bw_ HB.out)) : w.heap.size ≤ gb125)); clear HB; have HB := n0_; have BK125 := n1_; have GW125 := n2_; have GE125 := n3_; clear n0_ n1_ n2_ n3_; clear hb hbox hg; have hcz13_0 : w12.cell? ⟨gb125, 0, none⟩ = some (.bool false) := (blk_cell BK125.out 0).trans rfl; have hcz13_1 : w12.cell? ⟨gb125, 1, none⟩ = some (.int .u8 0) := (blk_cell BK125.out 1).trans rfl; have hfz13_0 := blk_frozen BK125.out 0; have hfz13_1 := blk_frozen BK125.out 1)))
      go_roundg k2
      case measure => have := HJ3.out; have := HK2.out; omega
      case rel => exact ⟨(wrap64 (x22_2 + 1)), (by rfl), H', ⟨by have := HJ3.out; have := HK2.out; omega⟩, ⟨by repeat ((with_reducible first | exact HB.out | apply pw_below_drewN | refine below_set ?_ GE125.out))⟩⟩
     replace c11 := Bool.eq_false_iff.mpr c11
     subst c11
     have H1 : (if 0 ≤ (wrap64 (a2 + x22_2)) then (if (wrap64 (a2 + x22_2)) < (a1.size : Int) then (if (bt a1 (wrap64 (a2 + x22_2))) = ((rd_T103 l0 x22_2).f1) then (relabel_stands.l0 k2 a1 a2 l0 (l0.length : Int) (wrap64 (x22_2 + 1))) else (some false)) else (none)) else (none)) = some r := by rw [if_neg (show ¬ (false = true) by decide)] at H; exact H
     clear H
     have H := H1
     clear H1
     obtain ⟨ji14, hji14⟩ : ∃ j_ : Int, (wrap64 (a2 + x22_2)) = j_ := ⟨_, rfl⟩
     replace H : (if 0 ≤ (ji14) then (if (ji14) < (a1.size : Int) then (if (bt a1 (ji14)) = ((rd_T103 l0 x22_2).f1) then (relabel_stands.l0 k2 a1 a2 l0 (l0.length : Int) (wrap64 (x22_2 + 1))) else (some false)) else (none)) else (none)) = some r := by (rw [hji14] at H; exact H)
     have hji14w : (IntKind.i64.wrap (a2 + x22_2)) = ji14 := (i64_w _).trans hji14
     by_cases c15 : 0 ≤ (ji14)
     rotate_left
     ·rw [if_neg c15] at H
      exact absurd H (by simp)
     rw [if_pos c15] at H
     have c15b0 := decide_eq_true c15
     clear c15
     by_cases c16 : (ji14) < (a1.size : Int)
     rotate_left
     ·rw [if_neg c16] at H
      exact absurd H (by simp)
     rw [if_pos c16] at H
     have c16b0 := decide_eq_true c16
     clear c16
     by_cases c18 : (bt a1 (ji14)) = ((rd_T103 l0 x22_2).f1)
     rotate_left
     ·rw [if_neg c18] at H
      have c18b0 : ((bt a1 (ji14)) == ((rd_T103 l0 x22_2).f1)) = false := beq_eq_false_iff_ne.mpr c18
      have c18b1 : ((bt a1 (ji14)) != ((rd_T103 l0 x22_2).f1)) = true := bne_iff_ne.mpr c18
      obtain rfl := Option.some.inj H
      have p124 : 0 ≤ (x22_2 : Int) := od_
      have q124 : x22_2 < (l0.length : Int) := od_
      obtain ⟨ad124, e124, hx124_0, hx124_1⟩ := at_T103 HR0.out x22_2 p124 q124
      (try rw [← Nbq10.out] at hx124_0)
      cases e124
      replace hx124_0 := (HB.out.cell (World.block_lt_of_cell? w _ hx124_0)).trans hx124_0
      replace hx124_1 := (HB.out.cell (World.block_lt_of_cell? w _ hx124_1)).trans hx124_1
      replace p124 := eq_true p124
      replace q124 := eq_true q124
      go_wp2_with (first | ((with_reducible refine gate_dst (N := 8) rfl ?_); (try (refine gate_guard (by rfl) ?_; dsimp only)); refine box_event ?hg (N := 8) ?hd (cs := #[.bool false, .int .u8 0]) (t := 103) ?hr ?_; (case hd => rfl); (case hg => rfl); (case hr => (go_simp; done)); intro gb125 hg w21 hbox hb; have n0_ := A_ (below_step HB.out hb); have n1_ := A_ (hbox); have n2_ := A_ ((by rw [hg]; exact (below_size HB.out) : w.heap.size ≤ gb125)); have n3_ := A_ ((by rw [hg]; exact (below_size HB.out) : w.heap.size ≤ gb125)); clear HB; have HB := n0_; have BK125 := n1_; have GW125 := n2_; have GE125 := n3_; clear n0_ n1_ n2_ n3_; clear hb hbox hg; have hcz22_0 : w21.cell? ⟨gb125, 0, none⟩ = some (.bool false) := (blk_cell BK125.out 0).trans rfl; have hcz22_1 : w21.cell? ⟨gb125, 1, none⟩ = some (.int .u8 0) := (blk_cell BK125.out 1).trans rfl; have hfz22_0 := blk_frozen BK125.out 0; have hfz22_1 := blk_frozen BK125.out 1; have p17 : 0 ≤ ((ji14) : Int) := od_; have q17 : (ji14) < (a1.size : Int) := od_; have hx17 := bt_at a1 (ji14); replace p17 := eq_true p17; replace q17 := eq_true q17))
      repeat (go_quiet (first | ((with_reducible refine gate_dst (N := 8) rfl ?_); (try (refine gate_guard (by rfl) ?_; dsimp only)); refine box_event ?hg (N := 8) ?hd (cs := #[.bool false, .int .u8 0]) (t := 103) ?hr ?_; (case hd => rfl); (case hg => rfl); (case hr => first | (go_simp; done) | (go_simp; rfl)); intro gb125 hg w21 hbox hb; have n0_ := A_ (below_step (bw_ HB.out) hb); have n1_ := A_ (hbox); have n2_ := A_ ((by rw [hg]; exact (below_size (bw_ HB.out)) : w.heap.size ≤ gb125)); have n3_ := A_ ((by rw [hg]; exact (below_size (bw_ HB.out)) : w.heap.size ≤ gb125)); clear HB; have HB := n0_; have BK125 := n1_; have GW125 := n2_; have GE125 := n3_; clear n0_ n1_ n2_ n3_; clear hb hbox hg; have hcz22_0 : w21.cell? ⟨gb125, 0, none⟩ = some (.bool false) := (blk_cell BK125.out 0).trans rfl; have hcz22_1 : w21.cell? ⟨gb125, 1, none⟩ = some (.int .u8 0) := (blk_cell BK125.out 1).trans rfl; have hfz22_0 := blk_frozen BK125.out 0; have hfz22_1 := blk_frozen BK125.out 1; have p17 : 0 ≤ ((ji14) : Int) := of_decide_eq_true (by first | (with_reducible assumption) | assumption); have q17 : (ji14) < (a1.size : Int) := of_decide_eq_true (by first | (with_reducible assumption) | assumption); have hx17 := bt_at a1 (ji14); replace p17 := eq_true p17; replace q17 := eq_true q17)); try go_wp2_with (first | ((with_reducible refine gate_dst (N := 8) rfl ?_); (try (refine gate_guard (by rfl) ?_; dsimp only)); refine box_event ?hg (N := 8) ?hd (cs := #[.bool false, .int .u8 0]) (t := 103) ?hr ?_; (case hd => rfl); (case hg => rfl); (case hr => first | (go_simp; done) | (go_simp; rfl)); intro gb125 hg w21 hbox hb; have n0_ := A_ (below_step (bw_ HB.out) hb); have n1_ := A_ (hbox); have n2_ := A_ ((by rw [hg]; exact (below_size (bw_ HB.out)) : w.heap.size ≤ gb125)); have n3_ := A_ ((by rw [hg]; exact (below_size (bw_ HB.out)) : w.heap.size ≤ gb125)); clear HB; have HB := n0_; have BK125 := n1_; have GW125 := n2_; have GE125 := n3_; clear n0_ n1_ n2_ n3_; clear hb hbox hg; have hcz22_0 : w21.cell? ⟨gb125, 0, none⟩ = some (.bool false) := (blk_cell BK125.out 0).trans rfl; have hcz22_1 : w21.cell? ⟨gb125, 1, none⟩ = some (.int .u8 0) := (blk_cell BK125.out 1).trans rfl; have hfz22_0 := blk_frozen BK125.out 0; have hfz22_1 := blk_frozen BK125.out 1; have p17 : 0 ≤ ((ji14) : Int) := of_decide_eq_true (by first | (with_reducible assumption) | assumption); have q17 : (ji14) < (a1.size : Int) := of_decide_eq_true (by first | (with_reducible assumption) | assumption); have hx17 := bt_at a1 (ji14); replace p17 := eq_true p17; replace q17 := eq_true q17)))
      go_ret
      exact ⟨by rfl, by repeat ((with_reducible first | exact HB.out | apply pw_below_drewN | refine below_set ?_ GE125.out))⟩
     rw [if_pos c18] at H
     have c18b0 : ((bt a1 (ji14)) == ((rd_T103 l0 x22_2).f1)) = true := beq_iff_eq.mpr c18
     have c18b1 : ((bt a1 (ji14)) != ((rd_T103 l0 x22_2).f1)) = false := bne_eq_false_iff_eq.mpr c18
     clear c18
     have H' := A_ H
     clear H
     have p124 : 0 ≤ (x22_2 : Int) := od_
     have q124 : x22_2 < (l0.length : Int) := od_
     obtain ⟨ad124, e124, hx124_0, hx124_1⟩ := at_T103 HR0.out x22_2 p124 q124
     (try rw [← Nbq10.out] at hx124_0)
     cases e124
     replace hx124_0 := (HB.out.cell (World.block_lt_of_cell? w _ hx124_0)).trans hx124_0
     replace hx124_1 := (HB.out.cell (World.block_lt_of_cell? w _ hx124_1)).trans hx124_1
     replace p124 := eq_true p124
     replace q124 := eq_true q124
     go_wp2_with (first | ((with_reducible refine gate_dst (N := 8) rfl ?_); (try (refine gate_guard (by rfl) ?_; dsimp only)); refine box_event ?hg (N := 8) ?hd (cs := #[.bool false, .int .u8 0]) (t := 103) ?hr ?_; (case hd => rfl); (case hg => rfl); (case hr => (go_simp; done)); intro gb125 hg w19 hbox hb; have n0_ := A_ (below_step HB.out hb); have n1_ := A_ (hbox); have n2_ := A_ ((by rw [hg]; exact (below_size HB.out) : w.heap.size ≤ gb125)); have n3_ := A_ ((by rw [hg]; exact (below_size HB.out) : w.heap.size ≤ gb125)); clear HB; have HB := n0_; have BK125 := n1_; have GW125 := n2_; have GE125 := n3_; clear n0_ n1_ n2_ n3_; clear hb hbox hg; have hcz20_0 : w19.cell? ⟨gb125, 0, none⟩ = some (.bool false) := (blk_cell BK125.out 0).trans rfl; have hcz20_1 : w19.cell? ⟨gb125, 1, none⟩ = some (.int .u8 0) := (blk_cell BK125.out 1).trans rfl; have hfz20_0 := blk_frozen BK125.out 0; have hfz20_1 := blk_frozen BK125.out 1; have p17 : 0 ≤ ((ji14) : Int) := od_; have q17 : (ji14) < (a1.size : Int) := od_; have hx17 := bt_at a1 (ji14); replace p17 := eq_true p17; replace q17 := eq_true q17))
     repeat (go_quiet (first | ((with_reducible refine gate_dst (N := 8) rfl ?_); (try (refine gate_guard (by rfl) ?_; dsimp only)); refine box_event ?hg (N := 8) ?hd (cs := #[.bool false, .int .u8 0]) (t := 103) ?hr ?_; (case hd => rfl); (case hg => rfl); (case hr => first | (go_simp; done) | (go_simp; rfl)); intro gb125 hg w19 hbox hb; have n0_ := A_ (below_step (bw_ HB.out) hb); have n1_ := A_ (hbox); have n2_ := A_ ((by rw [hg]; exact (below_size (bw_ HB.out)) : w.heap.size ≤ gb125)); have n3_ := A_ ((by rw [hg]; exact (below_size (bw_ HB.out)) : w.heap.size ≤ gb125)); clear HB; have HB := n0_; have BK125 := n1_; have GW125 := n2_; have GE125 := n3_; clear n0_ n1_ n2_ n3_; clear hb hbox hg; have hcz20_0 : w19.cell? ⟨gb125, 0, none⟩ = some (.bool false) := (blk_cell BK125.out 0).trans rfl; have hcz20_1 : w19.cell? ⟨gb125, 1, none⟩ = some (.int .u8 0) := (blk_cell BK125.out 1).trans rfl; have hfz20_0 := blk_frozen BK125.out 0; have hfz20_1 := blk_frozen BK125.out 1; have p17 : 0 ≤ ((ji14) : Int) := of_decide_eq_true (by first | (with_reducible assumption) | assumption); have q17 : (ji14) < (a1.size : Int) := of_decide_eq_true (by first | (with_reducible assumption) | assumption); have hx17 := bt_at a1 (ji14); replace p17 := eq_true p17; replace q17 := eq_true q17)); try go_wp2_with (first | ((with_reducible refine gate_dst (N := 8) rfl ?_); (try (refine gate_guard (by rfl) ?_; dsimp only)); refine box_event ?hg (N := 8) ?hd (cs := #[.bool false, .int .u8 0]) (t := 103) ?hr ?_; (case hd => rfl); (case hg => rfl); (case hr => first | (go_simp; done) | (go_simp; rfl)); intro gb125 hg w19 hbox hb; have n0_ := A_ (below_step (bw_ HB.out) hb); have n1_ := A_ (hbox); have n2_ := A_ ((by rw [hg]; exact (below_size (bw_ HB.out)) : w.heap.size ≤ gb125)); have n3_ := A_ ((by rw [hg]; exact (below_size (bw_ HB.out)) : w.heap.size ≤ gb125)); clear HB; have HB := n0_; have BK125 := n1_; have GW125 := n2_; have GE125 := n3_; clear n0_ n1_ n2_ n3_; clear hb hbox hg; have hcz20_0 : w19.cell? ⟨gb125, 0, none⟩ = some (.bool false) := (blk_cell BK125.out 0).trans rfl; have hcz20_1 : w19.cell? ⟨gb125, 1, none⟩ = some (.int .u8 0) := (blk_cell BK125.out 1).trans rfl; have hfz20_0 := blk_frozen BK125.out 0; have hfz20_1 := blk_frozen BK125.out 1; have p17 : 0 ≤ ((ji14) : Int) := of_decide_eq_true (by first | (with_reducible assumption) | assumption); have q17 : (ji14) < (a1.size : Int) := of_decide_eq_true (by first | (with_reducible assumption) | assumption); have hx17 := bt_at a1 (ji14); replace p17 := eq_true p17; replace q17 := eq_true q17)))
     go_roundg k2
     case measure => have := HJ3.out; have := HK2.out; omega
     case rel => exact ⟨(wrap64 (x22_2 + 1)), (by rfl), H', ⟨by have := HJ3.out; have := HK2.out; omega⟩, ⟨by repeat ((with_reducible first | exact HB.out | apply pw_below_drewN | refine below_set ?_ GE125.out))⟩⟩
def relabel_Match.f (k : Nat) (a0 : ByteArray) (a1 : ByteArray) : Option (List ByteArray × Bool) :=
 (relabel_pieces.f k a0).bind fun x => if a1.size ≤ 1099511627776 ∧ x.1.length ≤ 1099511627776 ∧ ∀ p ∈ x.1, p.length ≤ 1099511627776 then matchF (fun p a => relabel_stands.f k p a1 a) a1 x.1 x.2 else none
theorem relabel_Match.mono : ∀ a0 a1 k, LeO (relabel_Match.f k a0 a1) (relabel_Match.f (k + 1) a0 a1) := by
 intro a0 a1 k r h
 unfold relabel_Match.f at h ⊢
 obtain ⟨x, hx, h⟩ := Option.bind_eq_some_iff.1 h
 rw [relabel_pieces.mono a0 k x hx, Option.bind_some]
 split
 ·rename_i hc
  rw [if_pos hc] at h
  exact matchF_mono (fun p a r hr => relabel_stands.mono p a1 a k r hr) a1 x.1 x.2 r h
 rename_i hc
 rw [if_neg hc] at h
 cases h
theorem relabel_Match.calls (k : Nat) (a0 : ByteArray) (a1 : ByteArray) (r1 : List ByteArray) (r2 : Bool) (w : World) (h : relabel_Match.f k a0 a1 = some (r1, r2)) :
 Calls Tryz.prog 11 #[.string a0, .string a1] w fun e w' => ∃ v0_ : Value, e = .returned (.tuple #[v0_, .bool r2]) ∧ Kd.R Kd.string 9 w' w.heap.size (fun _ => True) v0_ r1 ∧ Below w.heap.size w w' := by
 unfold relabel_Match.f at h
 obtain ⟨⟨ps, ok⟩, hx, h⟩ := Option.bind_eq_some_iff.1 h
 split at h
 case isFalse => cases h
 case isTrue hc =>
  refine match_calls k103 (fun p a => relabel_stands.f k p a1 a) a0 a1 ps ok w (fun W => ?_) (fun p a b W A c hs hC hle => relabel_stands.calls k A c p a1 a b W hC hle hs) hc.1 hc.2.2 hc.2.1 r1 r2 h
  refine (relabel_pieces.calls k a0 ps ok W hx).mono ?_
  rintro e w' ⟨v, rfl, hS, hB⟩
  obtain ⟨A, c, rfl, hle, hC⟩ := Kd.R_reads (Kd.S_R hS)
  exact ⟨A, c, rfl, hle, hC, hB⟩
def relabel_Fill.f (a0 : ByteArray) (l1 : List ByteArray) : Option (ByteArray × Bool) :=
 if a0.size ≤ 100000 ∧ ∀ x ∈ l1, x.size ≤ 100000 then some (fillR l1 a0) else none
theorem relabel_Fill.calls (a0 : ByteArray) (A1 : Option Addr) (c1 : Nat) (l1 : List ByteArray) (r1 : ByteArray) (r2 : Bool) (w : World) (hr1 : Kd.C Kd.string w A1 l1.length l1) (hc1 : l1.length ≤ c1) (h : relabel_Fill.f a0 l1 = some (r1, r2)) :
 Calls Tryz.prog 14 #[.string a0, .slice A1 l1.length c1] w fun e w' => e = .returned (.tuple #[.string r1, .bool r2]) ∧ Below w.heap.size w w' := by
 unfold relabel_Fill.f at h
 split at h
 case isFalse => cases h
 case isTrue hc =>
  have h1 := Option.some.inj h
  have e1 : (fillR l1 a0).1 = r1 := congrArg Prod.fst h1
  have e2 : (fillR l1 a0).2 = r2 := congrArg Prod.snd h1
  refine (fill_calls a0 A1 c1 l1 w hr1 hc.1 hc.2).mono ?_
  rintro e w' ⟨he, hb⟩
  rw [e1, e2] at he
  exact ⟨he, hb⟩
def label_named.f (a0 : ByteArray) (a1 : Int) : Option (Bool) := if a0.size ≤ 1099511627776 then some (namedB a0 a1) else none
theorem label_named.calls (a0 : ByteArray) (a1 : Int) (r : Bool) (w : World) (h : label_named.f a0 a1 = some r) :
 Calls Tryz.prog 97 #[.string a0, .int .u8 a1] w fun e w' => e = .returned (.bool r) ∧ Drawn0 w w' := by
 unfold label_named.f at h
 split at h
 case isTrue hs => cases h; exact named_calls a0 a1 w hs
 case isFalse => cases h
def label_IsWord.f (a0 : ByteArray) : Option (Bool) := (label_named.f a0 95).bind fun t126 => (some t126)
set_option maxHeartbeats 8000000 in
set_option maxRecDepth 100000 in
theorem label_IsWord.calls (a0 : ByteArray) (r : Bool) (w : World) (h : label_IsWord.f a0 = some r) :
 Calls Tryz.prog 77 #[.string a0] w fun e w' => e = .returned (.bool r) ∧ Drawn0 w w' := by
 have H : ((label_named.f a0 95).bind fun t126 => (some t126)) = some r := h
 clear h
 replace H := Option.bind_eq_some_iff.mp H
 obtain ⟨t126, A20, H⟩ := H
 replace H : (some t126) = some r := H
 have A2 := A_ A20
 clear A20
 obtain rfl := Option.some.inj H
 go_enter Tryz.func77, Tryz.ntmps77
 go_wp2_with (first | ((with_reducible refine gate_callee (f := 97) rfl ?_); refine goesL_ (some 4) rfl rfl Tryz.func97 (by kernel_rfl) rfl #[.string a0, .int .u8 95] rfl mp_ ?_; (with_reducible refine (label_named.calls a0 95 t126 _ A2.out).mono ?_); rintro e w' ⟨rfl, ⟨nd, rfl⟩⟩; refine ⟨_, rfl, ?_⟩))
 go_ret
 exact ⟨by rfl, by repeat (first | exact Drawn0.refl _ | apply Drawn0.step)⟩
def relabel_by.f (a0 : ByteArray) : Option (Bool) := if a0.toList = ([95, 95, 110, 97, 109, 101, 95, 95] : List UInt8) then (some true) else ((label_IsWord.f a0).bind fun t127 => (some t127))
set_option maxHeartbeats 8000000 in
set_option maxRecDepth 100000 in
theorem relabel_by.calls (a0 : ByteArray) (r : Bool) (w : World) (h : relabel_by.f a0 = some r) :
 Calls Tryz.prog 52 #[.string a0] w fun e w' => e = .returned (.bool r) ∧ Drawn0 w w' := by
 have H : (if a0.toList = ([95, 95, 110, 97, 109, 101, 95, 95] : List UInt8) then (some true) else ((label_IsWord.f a0).bind fun t127 => (some t127))) = some r := h
 clear h
 by_cases c2 : a0.toList = ([95, 95, 110, 97, 109, 101, 95, 95] : List UInt8)
 ·rw [if_pos c2] at H
  have c2b0 : (a0.toList == ([95, 95, 110, 97, 109, 101, 95, 95] : List UInt8)) = true := beq_iff_eq.mpr c2
  have c2b1 : (a0.toList != ([95, 95, 110, 97, 109, 101, 95, 95] : List UInt8)) = false := bne_eq_false_iff_eq.mpr c2
  clear c2
  obtain rfl := Option.some.inj H
  go_enter Tryz.func52, Tryz.ntmps52
  go_wp2
  go_ret
  exact ⟨by rfl, by repeat (exact Drawn0.refl _)⟩
 rw [if_neg c2] at H
 have c2b0 : (a0.toList == ([95, 95, 110, 97, 109, 101, 95, 95] : List UInt8)) = false := beq_eq_false_iff_ne.mpr c2
 have c2b1 : (a0.toList != ([95, 95, 110, 97, 109, 101, 95, 95] : List UInt8)) = true := bne_iff_ne.mpr c2
 replace H := Option.bind_eq_some_iff.mp H
 obtain ⟨t127, A30, H⟩ := H
 replace H : (some t127) = some r := H
 have A3 := A_ A30
 clear A30
 obtain rfl := Option.some.inj H
 go_enter Tryz.func52, Tryz.ntmps52
 go_wp2_with (first | (go_at_call 77; (with_reducible refine (label_IsWord.calls a0 t127 _ A3.out).mono ?_); rintro e w' ⟨rfl, ⟨nd, rfl⟩⟩))
 go_ret
 exact ⟨by rfl, by repeat (first | exact Drawn0.refl _ | apply Drawn0.step)⟩
end Go.Proofs.YtcikjeiebpmmcaaGreat.PMch
