/- Pruned. -/
import Derived.Test.YtcikjeiebpmmcaaGreatQyPMchx0
import Derived.Test.YtcikjeiebpmmcaaGreatQyPMchx3
namespace Go.Proofs.YtcikjeiebpmmcaaGreat.PMch
open Go.RowKit Go.Proofs.YtcikjeiebpmmcaaGreatW.PrintWords Go.Proofs.YtcikjeiebpmmcaaGreatW.PrintLast Go.Proofs.YtcikjeiebpmmcaaGreatW.PrintMore
attribute [local go_sem] max2_int max_two
set_option linter.unusedVariables false
set_option linter.unusedSimpArgs false
def relabel_pieces.l0 : Nat → ByteArray → List (List (S103)) → Int → Option ((List (List (S103))) × Bool)
 | 0, _, _, _ => none
 | k + 1, x0, x4, x5 => if x5 < (x0.size : Int) then (if 0 ≤ x5 then (if (bt x0 x5) = 42 then (if x4.length < 5864062014805 then (relabel_pieces.l0 k x0 (x4 ++ [[]]) (wrap64 (x5 + 1))) else (none)) else (if (bt x0 x5) = 63 then (if 0 ≤ (wrap64 ((x4.length : Int) - 1)) then (if (wrap64 ((x4.length : Int) - 1)) < (x4.length : Int) then (if (rd_L3 x4 (wrap64 ((x4.length : Int) - 1))).length < 70368744177664 then (relabel_pieces.l0 k x0 (x4.set ((wrap64 ((x4.length : Int) - 1)) : Int).toNat ((rd_L3 x4 (wrap64 ((x4.length : Int) - 1))) ++ [(⟨true, bt x0 x5⟩ : S103)])) (wrap64 (x5 + 1))) else (none)) else (none)) else (none)) else (if (bt x0 x5) = 92 then (if (wrap64 (x5 + 1)) = (x0.size : Int) then (some (([] : List (List (S103))), false)) else (if 0 ≤ (wrap64 (x5 + 1)) then (if (wrap64 (x5 + 1)) < (x0.size : Int) then ((strings_IndexByte.f (⟨#[42, 63, 92]⟩ : ByteArray) (bt x0 (wrap64 (x5 + 1)))).bind fun t113 => (if t113 < 0 then (some (([] : List (List (S103))), false)) else (if 0 ≤ (wrap64 ((x4.length : Int) - 1)) then (if (wrap64 ((x4.length : Int) - 1)) < (x4.length : Int) then (if (rd_L3 x4 (wrap64 ((x4.length : Int) - 1))).length < 70368744177664 then (relabel_pieces.l0 k x0 (x4.set ((wrap64 ((x4.length : Int) - 1)) : Int).toNat ((rd_L3 x4 (wrap64 ((x4.length : Int) - 1))) ++ [(⟨false, bt x0 (wrap64 (x5 + 1))⟩ : S103)])) (wrap64 ((wrap64 (x5 + 1)) + 1))) else (none)) else (none)) else (none)))) else (none)) else (none))) else (if 0 ≤ (wrap64 ((x4.length : Int) - 1)) then (if (wrap64 ((x4.length : Int) - 1)) < (x4.length : Int) then (if (rd_L3 x4 (wrap64 ((x4.length : Int) - 1))).length < 70368744177664 then (relabel_pieces.l0 k x0 (x4.set ((wrap64 ((x4.length : Int) - 1)) : Int).toNat ((rd_L3 x4 (wrap64 ((x4.length : Int) - 1))) ++ [(⟨false, bt x0 x5⟩ : S103)])) (wrap64 (x5 + 1))) else (none)) else (none)) else (none))))) else (none)) else (if (x4.length : Int) ≤ 10 then (some (x4, decide ((x0.size : Int) ≤ 1024))) else (some (x4, false)))
def relabel_pieces.f (k : Nat) (a0 : ByteArray) : Option ((List (List (S103))) × Bool) := relabel_pieces.l0 k a0 (([[]] : List (List (S103)))) 0
theorem relabel_pieces.mono_l : ∀ k, (∀ y0 y1 y2, LeO (relabel_pieces.l0 k y0 y1 y2) (relabel_pieces.l0 (k + 1) y0 y1 y2))
 | 0 => fun _ _ _ r h => by simp [relabel_pieces.l0] at h
 | k + 1 => by
  have ih0 := relabel_pieces.mono_l k
  ·intro y0 y1 y2
   unfold relabel_pieces.l0
   repeat' first
   | (with_reducible first | exact ih0 _ _ _ | exact LeO.refl _ | exact LeO.none _ | refine LeO.ite ?_ ?_ | refine LeO.bind ?_ (fun _ => ?_))
theorem relabel_pieces.mono : ∀ a0 k, LeO (relabel_pieces.f k a0) (relabel_pieces.f (k + 1) a0) := by
 intro a0 k
 have ih0 := relabel_pieces.mono_l k
 unfold relabel_pieces.f
 repeat' first
  | (with_reducible first | exact ih0 _ _ _ | exact LeO.refl _ | exact LeO.none _ | refine LeO.ite ?_ ?_ | refine LeO.bind ?_ (fun _ => ?_))
def relabel_pieces.T16 : Bool × List (List Nat × List Nat) := (true, [([], []), ([], []), ([1], [1]), ([2], [2]), ([], []), ([], []), ([5], [5]), ([6], [6]), ([4, 7], [4, 7]), ([8], [8]), ([], []), ([10], [10]), ([9, 11], [9, 11]), ([0, 3, 0, 1, 2, 3, 4, 5, 6, 7, 8, 9, 10, 11, 12], [0, 3]), ([13, 12, 12, 0, 1, 2, 3, 4, 5, 6, 7, 8, 9, 10, 11, 12], [12, 13])])
def relabel_pieces.B16 : List Nat := [0, 0, 2, 6, 0, 0, 32, 96, 240, 496, 0, 1024, 4080, 8191, 16383]
theorem relabel_pieces.tab16 : rtab .any (opsOf Tryz.f27 16) = relabel_pieces.T16 := by kernel_rfl
theorem relabel_pieces.bits16 : waitsOk relabel_pieces.T16.2 relabel_pieces.B16 = true := by kernel_rfl
set_option maxHeartbeats 8000000 in
set_option maxRecDepth 100000 in
theorem relabel_pieces.calls (k : Nat) (a0 : ByteArray) (r1 : List (List (S103))) (r2 : Bool) (w : World) (h : relabel_pieces.f k a0 = some (r1, r2)) :
 Calls Tryz.prog 27 #[.string a0] w fun e w' => ∃ v0_ : Value, e = .returned (.tuple #[v0_, .bool r2]) ∧ Kd.S (Kd.slice 103 k103) 63 w' w.heap.size (fun _ => True) v0_ r1 ∧ Below w.heap.size w w' := by
 have hu103 := Tryz.underlying103
 have HB := A_ (Below.refl w.heap.size w)
 have H : (relabel_pieces.l0 k a0 (([[]] : List (List (S103)))) 0) = some (r1, r2) := h
 clear h
 obtain ⟨y101, hy101⟩ : ∃ y_ : List (List (S103)), y_ = (([[]] : List (List (S103)))) := ⟨_, rfl⟩
 replace H : (relabel_pieces.l0 k a0 y101 0) = some (r1, r2) := by (rw [hy101]; with_reducible exact H)
 have Ny101 := A_ hy101
 clear hy101
 have H' := A_ H
 clear H
 go_enter Tryz.func27, Tryz.ntmps27
 go_wp2_with (first | ((with_reducible refine gate_dst (N := 7) rfl ?_); (try (refine gate_guard (by rfl) ?_; dsimp only)); refine Kd.S_lit (Kd.slice 103 k103) _ 63 ?hg (N := 7) ?hd (xs := ([[]] : List (List (S103)))) (inner := [.slice none 0 0]) (ok := fun _ => True) (okp := fun _ => True) ?hr ?hp (fun _ hk => hk) trivial (Below.refl _ _) (Nat.le_refl _) (by simp) ?_; (case hd => rfl); (case hg => rfl); (case hr => (go_simp; done)); (case hp => exact (Reps.one (show Kd.M (Kd.slice 103 k103) _ _ _ [] [.slice none 0 0] from ⟨_, rfl, Kd.R_nil _ _ _ _ _⟩) (Reps.none _ _))); intro v102 w2 ho3 hb hg_ hnew_; clear hg_ hnew_; (rw [← Ny101.out] at ho3); have n0_ := A_ (Kd.S_lower ho3 (below_size HB.out)); have n1_ := A_ (below_step HB.out hb); clear HB; have HO103 := n0_; have HB := n1_; clear n0_ n1_; clear hb ho3))
 go_loopg [4, 5] k (fun kq v4 v5 w' => ∃ (x4_1 : List (List (S103))) (x5_1 : Int), v5 = .int .i64 x5_1 ∧ Aside0 (relabel_pieces.l0 kq a0 x4_1 x5_1 = some (r1, r2)) ∧ Aside0 (kq ≤ k) ∧ Aside0 (Kd.S (Kd.slice 103 k103) 63 w' w.heap.size (fun _ => True) v4 x4_1) ∧ Aside0 (Below w.heap.size w w'))
 case atStart => exact ⟨(y101), (0), (by rfl), H', ⟨Nat.le_refl _⟩, ⟨by (with_reducible repeat (first | apply Kd.S_alloc | apply Kd.S_drewN | apply Kd.S_drew)); exact HO103.out⟩, ⟨HB.out⟩⟩
 case round =>
  clear H'
  try clear c2
  try clear p2
  obtain ⟨x4_1, x5_1, rfl, HA, HK1, HO_4, HB⟩ := hrel
  cases gk with
  | zero => exact absurd HA.out (by simp [relabel_pieces.l0])
  | succ k1 =>
   have H := HA.out
   clear HA
   simp only [relabel_pieces.l0] at H
   by_cases c4 : x5_1 < (a0.size : Int)
   rotate_left
   ·rw [if_neg c4] at H
    have c4b0 := decide_eq_false c4
    clear c4
    by_cases c72 : (x4_1.length : Int) ≤ 10
    rotate_left
    ·rw [if_neg c72] at H
     have c72b0 := decide_eq_false c72
     have c72b1 : decide (x4_1.length ≤ 10) = false := decide_eq_false (by omega)
     clear c72
     simp only [Option.some.injEq, Prod.mk.injEq] at H
     obtain ⟨rfl, rfl⟩ := H
     obtain ⟨Ao74, co74, eo74⟩ := Kd.S_slice HO_4.out
     subst eo74
     go_wp2
     go_ret2
     exact ⟨_, by rfl, by (with_reducible repeat (first | apply Kd.S_alloc | apply Kd.S_drewN | apply Kd.S_drew)); exact HO_4.out, HB.out⟩
    rw [if_pos c72] at H
    have c72b0 := decide_eq_true c72
    have c72b1 : decide (x4_1.length ≤ 10) = true := decide_eq_true (by omega)
    clear c72
    simp only [Option.some.injEq, Prod.mk.injEq] at H
    obtain ⟨rfl, rfl⟩ := H
    obtain ⟨Ao73, co73, eo73⟩ := Kd.S_slice HO_4.out
    subst eo73
    go_wp2
    go_ret2
    exact ⟨_, by rfl, by (with_reducible repeat (first | apply Kd.S_alloc | apply Kd.S_drewN | apply Kd.S_drew)); exact HO_4.out, HB.out⟩
   rw [if_pos c4] at H
   have c4b0 := decide_eq_true c4
   clear c4
   by_cases c5 : 0 ≤ x5_1
   rotate_left
   ·rw [if_neg c5] at H
    exact absurd H (by simp)
   rw [if_pos c5] at H
   have c5b0 := decide_eq_true c5
   clear c5
   by_cases c8 : (bt a0 x5_1) = 42
   ·rw [if_pos c8] at H
    have c8b0 : ((bt a0 x5_1) == 42) = true := beq_iff_eq.mpr c8
    have c8b1 : ((bt a0 x5_1) != 42) = false := bne_eq_false_iff_eq.mpr c8
    clear c8
    by_cases c9 : x4_1.length < 5864062014805
    rotate_left
    ·rw [if_neg c9] at H
     exact absurd H (by simp)
    rw [if_pos c9] at H
    have LMc9 := A_ c9
    clear c9
    obtain ⟨y105, hy105⟩ : ∃ y_ : List (List (S103)), y_ = (x4_1 ++ [[]]) := ⟨_, rfl⟩
    replace H : (relabel_pieces.l0 k1 a0 y105 (wrap64 (x5_1 + 1))) = some (r1, r2) := by (rw [hy105]; with_reducible exact H)
    have Ny105 := A_ hy105
    clear hy105
    have H' := A_ H
    clear H
    have p6 : 0 ≤ (x5_1 : Int) := od_
    have q6 : x5_1 < (a0.size : Int) := od_
    have hx6 := bt_at a0 x5_1
    replace p6 := eq_true p6
    replace q6 := eq_true q6
    go_wp2_with (first | ((with_reducible refine gate_dst (N := 6) rfl ?_); (try (refine gate_guard (by rfl) ?_; dsimp only)); refine box_event ?hg (N := 6) ?hd (cs := #[.bool false, .int .u8 0]) (t := 103) ?hr ?_; (case hd => rfl); (case hg => rfl); (case hr => (go_simp; done)); intro gb104 hg w10 hbox hb; have n0_ := A_ (Kd.S_below (Kd.S_elderB (by (with_reducible repeat (first | apply Kd.S_alloc | apply Kd.S_drewN | apply Kd.S_drew)); exact HO_4.out) gb104 (Nat.le_of_eq hg.symm)) hb); have n1_ := A_ (below_step HB.out hb); have n2_ := A_ (hbox); have n3_ := A_ ((by rw [hg]; exact (below_size HB.out) : w.heap.size ≤ gb104)); have n4_ := A_ ((by rw [hg]; exact (below_size HB.out) : w.heap.size ≤ gb104)); clear HO_4; clear HB; have HO_4 := n0_; have HB := n1_; have BK104 := n2_; have GW104 := n3_; have GE104 := n4_; clear n0_ n1_ n2_ n3_ n4_; clear hb hbox hg; have hcz11_0 : w10.cell? ⟨gb104, 0, none⟩ = some (.bool false) := (blk_cell BK104.out 0).trans rfl; have hcz11_1 : w10.cell? ⟨gb104, 1, none⟩ = some (.int .u8 0) := (blk_cell BK104.out 1).trans rfl; have hfz11_0 := blk_frozen BK104.out 0; have hfz11_1 := blk_frozen BK104.out 1; have p7 : 0 ≤ (x5_1 : Int) := od_; have q7 : x5_1 < (a0.size : Int) := od_; have hx7 := bt_at a0 x5_1; replace p7 := eq_true p7; replace q7 := eq_true q7) | ((with_reducible refine gate_builtin (b := .append) (xs := #[.tmp 23, .tmp 24]) rfl ?_); (try (refine gate_guard (by rfl) ?_; dsimp only)); at_builtin; refine Kd.S_append (Kd.slice 103 k103) (w0 := w) w.heap.size rfl (.tmp 23) (.tmp 24) 59 63 (.slice none 0 0) 24 rfl Tryz.underlying59 info63 rfl (by decide) (by omega) u4 x4_1 [] [.slice none 0 0] (fun k_ => k_ ≠ gb104) (fun _ => False) rfl (by (go_simp; done)) ?aP (fun _ hk => hk.elim) ?aF ?aO ?aB ?aS ?aL ?_; (case aP => exact ⟨_, rfl, Kd.R_nil _ _ _ _ _⟩); (case aB => exact (by repeat ((with_reducible first | exact HB.out | refine below_set ?_ GE104.out)))); (case aF => exact (fun k_ hk => Kd.freshB (g := gb104) (o := .cells #[.bool false, .int .u8 (bt a0 x5_1)] 103 (0, 0)) (by (with_reducible repeat (first | refine blk_drewN ?_ _ | refine blk_drew ?_ | refine blk_alloc ?_ _)); refine blk_put (cs := #[.bool false, .int .u8 0]) ?_ 1 _ rfl; (with_reducible repeat (first | refine blk_drewN ?_ _ | refine blk_drew ?_ | refine blk_alloc ?_ _)); refine blk_put (cs := #[.bool false, .int .u8 0]) ?_ 0 _ rfl; (with_reducible repeat (first | refine blk_drewN ?_ _ | refine blk_drew ?_ | refine blk_alloc ?_ _)); exact BK104.out) k_ hk)); (case aO => exact (by (with_reducible repeat (first | apply Kd.S_alloc | apply Kd.S_drewN | apply Kd.S_drew)); exact Kd.S_mono (Kd.S_far (p := ⟨gb104, 1, none⟩) (Kd.S_far (p := ⟨gb104, 0, none⟩) (Kd.S_mono HO_4.out (fun k_ hk => (⟨hk, hk.2⟩ : _ ∧ k_ ≠ gb104))) (fun _ hk => hk.2) (.bool false)) (fun _ hk => hk.2) (.int .u8 (bt a0 x5_1))) (fun k_ hk => ⟨hk.1.2, fun e_ => e_⟩))); (case aS => exact (below_size (by repeat ((with_reducible first | exact HB.out | refine below_set ?_ GE104.out))))); (case aL => have := LMc9.out; omega); intro v106 w12 ho hb hg hat; rw [← Ny105.out] at ho; have n0_ := A_ (blk_grown (g := gb104) (o := .cells #[.bool false, .int .u8 (bt a0 x5_1)] 103 (0, 0)) (by (with_reducible repeat (first | refine blk_drewN ?_ _ | refine blk_drew ?_ | refine blk_alloc ?_ _)); refine blk_put (cs := #[.bool false, .int .u8 0]) ?_ 1 _ rfl; (with_reducible repeat (first | refine blk_drewN ?_ _ | refine blk_drew ?_ | refine blk_alloc ?_ _)); refine blk_put (cs := #[.bool false, .int .u8 0]) ?_ 0 _ rfl; (with_reducible repeat (first | refine blk_drewN ?_ _ | refine blk_drew ?_ | refine blk_alloc ?_ _)); exact BK104.out) hg (Kd.S_ne HO_4.out BK104.out (by decide))); have n1_ := A_ (hb); have n2_ := A_ (ho); clear BK104; clear HB; clear HO_4; have BK104 := n0_; have HB := n1_; have HO107 := n2_; clear n0_ n1_ n2_; clear ho hb hg hat))
    go_roundg k1
    case measure => have := HK1.out; omega
    case rel => exact ⟨(y105), (wrap64 (x5_1 + 1)), (by rfl), H', ⟨by have := HK1.out; omega⟩, ⟨by (with_reducible repeat (first | apply Kd.S_alloc | apply Kd.S_drewN | apply Kd.S_drew)); exact Kd.S_mono HO107.out (fun _ hk => trivial)⟩, ⟨HB.out⟩⟩
   rw [if_neg c8] at H
   have c8b0 : ((bt a0 x5_1) == 42) = false := beq_eq_false_iff_ne.mpr c8
   have c8b1 : ((bt a0 x5_1) != 42) = true := bne_iff_ne.mpr c8
   by_cases c13 : (bt a0 x5_1) = 63
   ·rw [if_pos c13] at H
    have c13b0 : ((bt a0 x5_1) == 63) = true := beq_iff_eq.mpr c13
    have c13b1 : ((bt a0 x5_1) != 63) = false := bne_eq_false_iff_eq.mpr c13
    clear c13
    obtain ⟨ji14, hji14⟩ : ∃ j_ : Int, (wrap64 ((x4_1.length : Int) - 1)) = j_ := ⟨_, rfl⟩
    replace H : (if 0 ≤ (ji14) then (if (ji14) < (x4_1.length : Int) then (if (rd_L3 x4_1 (ji14)).length < 70368744177664 then (relabel_pieces.l0 k1 a0 (x4_1.set ((ji14) : Int).toNat ((rd_L3 x4_1 (ji14)) ++ [(⟨true, bt a0 x5_1⟩ : S103)])) (wrap64 (x5_1 + 1))) else (none)) else (none)) else (none)) = some (r1, r2) := by (rw [hji14] at H; exact H)
    have hji14w : (IntKind.i64.wrap ((x4_1.length : Int) - 1)) = ji14 := (i64_w _).trans hji14
    by_cases c15 : 0 ≤ (ji14)
    rotate_left
    ·rw [if_neg c15] at H
     exact absurd H (by simp)
    rw [if_pos c15] at H
    have c15b0 := decide_eq_true c15
    clear c15
    by_cases c16 : (ji14) < (x4_1.length : Int)
    rotate_left
    ·rw [if_neg c16] at H
     exact absurd H (by simp)
    rw [if_pos c16] at H
    have c16b0 := decide_eq_true c16
    clear c16
    by_cases c17 : (rd_L3 x4_1 (ji14)).length < 70368744177664
    rotate_left
    ·rw [if_neg c17] at H
     exact absurd H (by simp)
    rw [if_pos c17] at H
    have LMc17 := A_ c17
    clear c17
    obtain ⟨y109, hy109⟩ : ∃ y_ : List (S103), y_ = ((rd_L3 x4_1 (ji14)) ++ [(⟨true, bt a0 x5_1⟩ : S103)]) := ⟨_, rfl⟩
    replace H : (relabel_pieces.l0 k1 a0 (x4_1.set ((ji14) : Int).toNat y109) (wrap64 (x5_1 + 1))) = some (r1, r2) := by (rw [hy109]; with_reducible exact H)
    have Ny109 := A_ hy109
    clear hy109
    obtain ⟨y112, hy112⟩ : ∃ y_ : List (List (S103)), y_ = (x4_1.set ((ji14) : Int).toNat y109) := ⟨_, rfl⟩
    replace H : (relabel_pieces.l0 k1 a0 y112 (wrap64 (x5_1 + 1))) = some (r1, r2) := by (rw [hy112]; with_reducible exact H)
    have Ny112 := A_ hy112
    clear hy112
    have H' := A_ H
    clear H
    have p6 : 0 ≤ (x5_1 : Int) := od_
    have q6 : x5_1 < (a0.size : Int) := od_
    have hx6 := bt_at a0 x5_1
    replace p6 := eq_true p6
    replace q6 := eq_true q6
    try go_wp2_with (first | ((with_reducible refine gate_dst (N := 6) rfl ?_); (try (refine gate_guard (by rfl) ?_; dsimp only)); refine box_event ?hg (N := 6) ?hd (cs := #[.bool false, .int .u8 0]) (t := 103) ?hr ?_; (case hd => rfl); (case hg => rfl); (case hr => (go_simp; done)); intro gb104 hg w19 hbox hb; have n0_ := A_ (Kd.S_below (Kd.S_elderB (by (with_reducible repeat (first | apply Kd.S_alloc | apply Kd.S_drewN | apply Kd.S_drew)); exact HO_4.out) gb104 (Nat.le_of_eq hg.symm)) hb); have n1_ := A_ (below_step HB.out hb); have n2_ := A_ (hbox); have n3_ := A_ ((by rw [hg]; exact (below_size HB.out) : w.heap.size ≤ gb104)); have n4_ := A_ ((by rw [hg]; exact (below_size HB.out) : w.heap.size ≤ gb104)); clear HO_4; clear HB; have HO_4 := n0_; have HB := n1_; have BK104 := n2_; have GW104 := n3_; have GE104 := n4_; clear n0_ n1_ n2_ n3_ n4_; clear hb hbox hg; have hcz20_0 : w19.cell? ⟨gb104, 0, none⟩ = some (.bool false) := (blk_cell BK104.out 0).trans rfl; have hcz20_1 : w19.cell? ⟨gb104, 1, none⟩ = some (.int .u8 0) := (blk_cell BK104.out 1).trans rfl; have hfz20_0 := blk_frozen BK104.out 0; have hfz20_1 := blk_frozen BK104.out 1; have p7 : 0 ≤ (x5_1 : Int) := od_; have q7 : x5_1 < (a0.size : Int) := od_; have hx7 := bt_at a0 x5_1; replace p7 := eq_true p7; replace q7 := eq_true q7))
    have n0_ : Aside0 (Kd.S (Kd.slice 103 k103) 63 (((w19.setCell ⟨gb104, 0, none⟩ (.bool false)).setCell ⟨gb104, 1, none⟩ (.int .u8 (bt a0 x5_1))).setCell ⟨gb104, 0, none⟩ (.bool true)) w.heap.size (fun k_ => k_ ≠ gb104) u4 x4_1) := ⟨by (with_reducible repeat (first | apply Kd.S_alloc | apply Kd.S_drewN | apply Kd.S_drew)); exact Kd.S_mono (Kd.S_far (p := ⟨gb104, 0, none⟩) (Kd.S_far (p := ⟨gb104, 1, none⟩) (Kd.S_far (p := ⟨gb104, 0, none⟩) (Kd.S_mono HO_4.out (fun k_ hk => (⟨hk, hk.2⟩ : _ ∧ k_ ≠ gb104))) (fun _ hk => hk.2) (.bool false)) (fun _ hk => hk.2) (.int .u8 (bt a0 x5_1))) (fun _ hk => hk.2) (.bool true)) (fun _ hk => hk.1.2)⟩
    have n1_ : Aside0 ((((w19.setCell ⟨gb104, 0, none⟩ (.bool false)).setCell ⟨gb104, 1, none⟩ (.int .u8 (bt a0 x5_1))).setCell ⟨gb104, 0, none⟩ (.bool true)).heap[gb104]? = some (.cells #[.bool true, .int .u8 (bt a0 x5_1)] 103 (0, 0))) := ⟨by (with_reducible repeat (first | refine blk_drewN ?_ _ | refine blk_drew ?_ | refine blk_alloc ?_ _)); refine blk_put (cs := #[.bool false, .int .u8 (bt a0 x5_1)]) ?_ 0 _ rfl; (with_reducible repeat (first | refine blk_drewN ?_ _ | refine blk_drew ?_ | refine blk_alloc ?_ _)); refine blk_put (cs := #[.bool false, .int .u8 0]) ?_ 1 _ rfl; (with_reducible repeat (first | refine blk_drewN ?_ _ | refine blk_drew ?_ | refine blk_alloc ?_ _)); refine blk_put (cs := #[.bool false, .int .u8 0]) ?_ 0 _ rfl; (with_reducible repeat (first | refine blk_drewN ?_ _ | refine blk_drew ?_ | refine blk_alloc ?_ _)); exact BK104.out⟩
    have n2_ : Aside0 (Below w.heap.size w (((w19.setCell ⟨gb104, 0, none⟩ (.bool false)).setCell ⟨gb104, 1, none⟩ (.int .u8 (bt a0 x5_1))).setCell ⟨gb104, 0, none⟩ (.bool true))) := ⟨by repeat ((with_reducible first | exact HB.out | refine below_set ?_ GE104.out))⟩
    (try clear HO_4)
    (try clear BK104)
    (try clear HB)
    (try simp only [setCell_drewN_at])
    generalize (((w19.setCell ⟨gb104, 0, none⟩ (.bool false)).setCell ⟨gb104, 1, none⟩ (.int .u8 (bt a0 x5_1))).setCell ⟨gb104, 0, none⟩ (.bool true)) = w21 at n0_ n1_ n2_ ⊢
    have HO_4 := n0_
    have BK104 := n1_
    have HB := n2_
    clear n0_ n1_ n2_
    have n0_ := A_ (Kd.S_drew HO_4.out)
    have n1_ := A_ (blk_drew BK104.out)
    have n2_ := A_ (below_drew1 HB.out)
    clear HO_4
    clear BK104
    clear HB
    have HO_4 := n0_
    have BK104 := n1_
    have HB := n2_
    clear n0_ n1_ n2_
    obtain ⟨Ao23, co23, eo23⟩ := Kd.S_slice HO_4.out
    (subst eo23)
    have p108 : 0 ≤ ((ji14) : Int) := od_
    have q108 : (ji14) < (x4_1.length : Int) := od_
    obtain ⟨ad108, A108_0, c108_0, e108, hx108_0, hl108_0, hi108_0⟩ := at_L3 (Kd.S_reads' HO_4.out).2.2 (ji14) p108 q108
    cases e108
    obtain ⟨ce108, hce108, hMe108, hcc108⟩ := Kd.S_get HO_4.out [] (ji14) p108 (by exact q108)
    obtain ⟨ve108_0, rfl, ge108_0⟩ := hMe108
    have hv108_0 := hcc108 0 _ rfl
    rw [Nat.add_zero, show ((Kd.slice 103 k103)).sz = 1 from rfl, Nat.mul_one] at hv108_0
    replace hv108_0 := Option.some.inj (hv108_0.symm.trans hx108_0)
    rw [hv108_0] at ge108_0
    have HL108_0 := A_ (show Kd.R k103 103 _ _ _ _ (rd_L3 x4_1 (ji14)) from ge108_0)
    clear hv108_0 ge108_0
    have HX108_0 := A_ hx108_0
    clear hcc108 hce108
    have HR108_0 := A_ hi108_0
    have HC108_0 := A_ hl108_0
    clear hi108_0 hl108_0
    replace p108 := eq_true p108
    replace q108 := eq_true q108
    obtain ⟨go24, co24, eo24, gb24, gl24, cl24, HG24⟩ := Kd.S_form HO_4.out (by have h_ : ((ji14) : Int) < ((x4_1.length : Int) : Int) := od_; have h2_ : 0 ≤ ((ji14) : Int) := (od_); omega)
    (cases eo24)
    have GB24 := A_ gb24
    have GG24 := A_ HG24
    clear gb24 gl24 HG24
    (simp only [add_plain] at hx108_0)
    obtain ⟨oki24, ce24, hcl24, hM24, hcc24, _, _, hH24⟩ := Kd.S_elem HO_4.out [] ((ji14) : Int) (od_) (by have h_ : ((ji14) : Int) < ((x4_1.length : Int) : Int) := od_; exact h_)
    obtain ⟨ve24_0, rfl, ge24_0⟩ := hM24
    have hv24 := hcc24 0 _ rfl
    have hX24 := HX108_0.out
    (try simp only [add_plain] at hX24)
    (try simp only [Nat.add_zero] at hv24)
    (try rw [show ((Kd.slice 103 k103)).sz = 1 from rfl, Nat.mul_one] at hv24)
    replace hv24 := Option.some.inj (hv24.symm.trans hX24)
    subst hv24
    clear hX24 hcc24 hcl24
    have UU24 := A_ (show Kd.R k103 103 _ w.heap.size oki24 (.slice A108_0 (rd_L3 x4_1 (ji14)).length c108_0) (rd_L3 x4_1 (ji14)) from ge24_0)
    have HH24 := A_ hH24
    have HN24 := A_ (Kd.S_reads' HO_4.out).1
    clear hH24 ge24_0
    refine start_ (n := 15) (S := fun w' => w'.cell? ⟨gb104, 0, none⟩ = some (.bool true) ∧ w'.cell? ⟨gb104, 1, none⟩ = some (.int .u8 (bt a0 x5_1)) ∧ w'.cell? ⟨go24, ((ji14)).toNat, none⟩ = some (.slice A108_0 (rd_L3 x4_1 (ji14)).length c108_0)) (ds := [14]) #[F_,F_,F_,F_,F_,F_,F_,F_,F_,F_,F_,F_,F_,F_,F_] (by kernel_rfl) rfl rfl ⟨(blk_cell BK104.out 0).trans rfl, (blk_cell BK104.out 1).trans rfl, hx108_0⟩ (fun hHeld => ?_); refine with_tabW relabel_pieces.tab16 relabel_pieces.bits16 (fun HT_ HW_ => ?_)
    generalize w21.drew = w22 at HO_4 BK104 HB GG24 HH24 HL108_0 HR108_0 HX108_0 UU24 hx108_0 hHeld ⊢
    refine pu_ 0 (some 48) #[T_,F_,F_,F_,F_,F_,F_,F_,F_,F_,F_,F_,F_,F_,F_] HT_.out rfl rfl ?_
    refine pu_ 1 (some 49) #[T_,T_,F_,F_,F_,F_,F_,F_,F_,F_,F_,F_,F_,F_,F_] HT_.out rfl rfl ?_
    refine pu_ 2 (some 50) #[T_,T_,T_,F_,F_,F_,F_,F_,F_,F_,F_,F_,F_,F_,F_] HT_.out rfl rfl ?_
    refine pu_ 3 (some 51) #[T_,T_,T_,T_,F_,F_,F_,F_,F_,F_,F_,F_,F_,F_,F_] HT_.out rfl rfl ?_
    refine pu_ 4 (some 52) #[T_,T_,T_,T_,T_,F_,F_,F_,F_,F_,F_,F_,F_,F_,F_] HT_.out rfl rfl ?_
    refine pu_ 5 (some 53) #[T_,T_,T_,T_,T_,T_,F_,F_,F_,F_,F_,F_,F_,F_,F_] HT_.out rfl rfl ?_
    refine pu_ 6 (some 54) #[T_,T_,T_,T_,T_,T_,T_,F_,F_,F_,F_,F_,F_,F_,F_] HT_.out rfl rfl ?_
    refine pu_ 7 (some 55) #[T_,T_,T_,T_,T_,T_,T_,T_,F_,F_,F_,F_,F_,F_,F_] HT_.out rfl rfl ?_
    refine pu_ 8 (some 56) #[T_,T_,T_,T_,T_,T_,T_,T_,T_,F_,F_,F_,F_,F_,F_] HT_.out rfl rfl ?_
    refine take_ (i := 9) (N := some 57) (v := ?_) (a' := ?_) #[T_,T_,T_,T_,T_,T_,T_,T_,T_,T_,F_,F_,F_,F_,F_] rfl rfl (take_ofW HT_.out HW_.out (by kernel_rfl)) (fun _ _ _ h => h) (Or.inl ⟨by rfl, ?_⟩) hHeld ?_ ?_
    rotate_left
    ·rintro w' ⟨s0, s1, s2⟩
     go_simp
     with_reducible rfl
    rotate_left
    ·simp only [Act.put,s1_,s2_,s3_, i64_w, i32_w]
     rfl
    refine take_ (i := 10) (N := some 58) (v := ?_) (a' := ?_) #[T_,T_,T_,T_,T_,T_,T_,T_,T_,T_,T_,F_,F_,F_,F_] rfl rfl (take_ofW HT_.out HW_.out (by kernel_rfl)) (fun _ _ _ h => h) (Or.inl ⟨by rfl, ?_⟩) hHeld ?_ ?_
    rotate_left
    ·rintro w' ⟨s0, s1, s2⟩
     go_simp
     with_reducible rfl
    rotate_left
    ·simp only [Act.put,s1_,s2_,s3_, i64_w, i32_w]
     rfl
    refine one_ (i := 11) (N := some 59) #[T_,T_,T_,T_,T_,T_,T_,T_,T_,T_,T_,T_,F_,F_,F_] rfl rfl (one_of HT_.out (by kernel_rfl)) (by decide) (fun K hK => ?_)
    refine value_ (w1 := ?_) (v := ?_) (by rfl) rfl ?_ ?_
    rotate_left 2
    ·go_simp
     constructor
     ·rfl
     rfl
    refine hK.out _ _ ⟨(blk_cell (blk_alloc BK104.out _) 0).trans rfl, (blk_cell (blk_alloc BK104.out _) 1).trans rfl, (World.cell?_alloc_lt _ _ _ (World.block_lt_of_cell? _ _ (hHeld.2.2))).trans (hHeld.2.2)⟩ (fun hHeld => ?_)
    clear hK K
    refine norm_ (a' := ?_) ?_ ?_
    rotate_left
    ·show Act.put _ (some 59) _ = _
     simp only [Act.put,s1_,s2_,s3_, i64_w, i32_w]
     rfl
    refine one_ (i := 12) (N := some 60) #[T_,T_,T_,T_,T_,T_,T_,T_,T_,T_,T_,T_,T_,F_,F_] rfl rfl (one_of HT_.out (by kernel_rfl)) (by decide) (fun K hK => ?_)
    refine Kd.R_append_step k103 (w0 := w) w.heap.size (by rfl) (.tmp 57) (.tmp 59) 63 103 (.agg #[(.bool false), (.int .u8 0)]) 2 rfl Tryz.underlying63 info103 rfl (by decide) (by omega) (.slice A108_0 (rd_L3 x4_1 (ji14)).length c108_0) (rd_L3 x4_1 (ji14)) (⟨true, bt a0 x5_1⟩ : S103) [.bool true, .int .u8 (bt a0 x5_1)] (fun k_ => oki24 k_ ∨ ((fun k_ => k_ ≠ gb104)) k_ ∧ w22.heap.size ≤ k_) (fun _ => False) rfl rfl ?aP (fun _ hk => hk.elim) ?aF ?aO ?aB ?aS ?aL ?_
    (case aP => exact k103_mkM _ _ _ (⟨true, bt a0 x5_1⟩ : S103))
    (case aB => exact HB.out)
    (case aF => exact (fun k_ hk => .inr ⟨Kd.freshB (g := gb104) (o := .cells #[.bool true, .int .u8 (bt a0 x5_1)] 103 (0, 0)) (bk_ BK104.out) k_ hk, hk⟩))
    (case aO => exact (by (with_reducible repeat (first | apply Kd.R_alloc | apply Kd.R_drewN | apply Kd.R_drew)); exact Kd.R_mono UU24.out (fun _ hk => .inl hk)))
    (case aS => exact (below_size HB.out))
    (case aL => have := LMc17.out; omega)
    intro v110 w25 ho hb hg hat
    (have HS2_ := Go.Proofs.YtcikjeiebpmmcaaGreatW.PrintWords.cell_grown hg (cell_unalloc (hHeld.2.2) (by exact Kd.S_lt HO_4.out _ rfl)) (by exact (fun e_ => ((HL108_0.out.1 _ e_.symm).2) rfl)))
    rw [← Ny109.out] at ho
    have n0_ := A_ (blk_grown (g := gb104) (o := .cells #[.bool true, .int .u8 (bt a0 x5_1)] 103 (0, 0)) (bk_ BK104.out) hg (Kd.R_away HL108_0.out (fun _ hk => hk.1)))
    have n1_ := A_ (hb)
    have n2_ := A_ (Kd.H_grown (Kd.H_widen (by repeat (exact HH24.out))) hg (fun k_ e_ => .inl (UU24.out.1 k_ e_)))
    have n3_ := A_ (ho)
    clear BK104
    clear HB
    clear HH24
    clear HO_4
    clear UU24
    clear HL108_0
    have BK104 := n0_
    have HB := n1_
    have HH24 := n2_
    have HO111 := n3_
    clear n0_ n1_ n2_ n3_
    clear ho hb hg hat
    have p18 : 0 ≤ ((ji14) : Int) := od_
    have q18 : ((ji14) : Int) < ((x4_1.length : Int) : Int) := od_
    replace p18 := eq_true p18
    replace q18 := eq_true q18
    obtain ⟨Ao28, co28, eo28⟩ := Kd.R_slice HO111.out
    (subst eo28)
    obtain ⟨_, _, hraw26, _, _, hcc26, _⟩ := Kd.H_raw HH24.out (od_) (by have h_ : ((ji14) : Int) < ((x4_1.length : Int) : Int) := od_; exact h_)
    obtain ⟨_, hfr26⟩ := Kd.H_at HH24.out (od_) (by have h_ : ((ji14) : Int) < ((x4_1.length : Int) : Int) := od_; exact h_)
    have hx26_0 := hcc26 0 _ rfl
    have hf26_0 := hfr26 0
    (try simp only [Nat.add_zero] at hx26_0 hf26_0)
    (try rw [show ((Kd.slice 103 k103)).sz = 1 from rfl, Nat.mul_one] at hx26_0)
    (try rw [show ((Kd.slice 103 k103)).sz = 1 from rfl, Nat.mul_one] at hf26_0)
    have HP26 := Kd.S_seg0 HH24.out (od_) (by have h_ : ((ji14) : Int) < ((x4_1.length : Int) : Int) := od_; exact h_) (seg := [.slice Ao28 y109.length co28]) (j := 0) (show 1 ≤ 1 from by decide) (x' := y109) (Kd.M_row HO111.out) (fun _ hk => hk)
    (try simp only [show ((Kd.slice 103 k103)).sz = 1 from rfl, Nat.mul_one, Nat.add_zero] at HP26)
    clear hcc26 hfr26
    have HNB104_go24 := A_ (show gb104 ≠ go24 from by have h_ := Kd.R_ne hraw26 BK104.out (by decide); intro e_; exact h_ (by rw [e_]; rfl))
    have HS26 := HP26.1
    rw [← Ny112.out] at HS26
    have HQ26 := A_ HS26
    obtain ⟨_, hgg26⟩ := Kd.R_typed hraw26 go24 rfl
    have GG26_ := A_ hgg26
    clear HP26 HS26 hgg26
    refine hK.out _ _ ⟨(blk_cell BK104.out 0).trans rfl, (blk_cell BK104.out 1).trans rfl, HS2_⟩ (fun hHeld => ?_)
    clear hK K
    refine norm_ (a' := ?_) ?_ ?_
    rotate_left
    ·show Act.put _ (some 60) _ = _
     simp only [Act.put,s1_,s2_,s3_, i64_w, i32_w]
     rfl
    refine pu_ 13 (some 61) #[T_,T_,T_,T_,T_,T_,T_,T_,T_,T_,T_,T_,T_,T_,F_] HT_.out rfl rfl ?_
    refine last_ (i := 14) (N := none) #[T_,T_,T_,T_,T_,T_,T_,T_,T_,T_,T_,T_,T_,T_,T_] rfl rfl (one_of HT_.out (by kernel_rfl)) (by decide) (fun K hK => ?_)
    refine skip_ (w1 := ?_) (by rfl) rfl ?_ ?_
    rotate_left
    ·go_simp
     rfl
    refine hK.out _ _ ?_
    clear hK K
    refine done_ (done_of HT_.out (by kernel_rfl)) ?_
    try go_wp2
    go_roundg k1
    case measure => have := HK1.out; omega
    case rel => exact ⟨(y112), (wrap64 (x5_1 + 1)), (by rfl), H', ⟨by have := HK1.out; omega⟩, ⟨by (with_reducible repeat (first | apply Kd.S_alloc | apply Kd.S_drewN | apply Kd.S_drew)); exact Kd.S_mono HQ26.out (fun _ hk => trivial)⟩, ⟨by repeat ((with_reducible first | exact HB.out | refine below_set ?_ GB24.out))⟩⟩
   rw [if_neg c13] at H
   have c13b0 : ((bt a0 x5_1) == 63) = false := beq_eq_false_iff_ne.mpr c13
   have c13b1 : ((bt a0 x5_1) != 63) = true := bne_iff_ne.mpr c13
   by_cases c29 : (bt a0 x5_1) = 92
   rotate_left
   ·rw [if_neg c29] at H
    have c29b0 : ((bt a0 x5_1) == 92) = false := beq_eq_false_iff_ne.mpr c29
    have c29b1 : ((bt a0 x5_1) != 92) = true := bne_iff_ne.mpr c29
    obtain ⟨ji57, hji57⟩ : ∃ j_ : Int, (wrap64 ((x4_1.length : Int) - 1)) = j_ := ⟨_, rfl⟩
    replace H : (if 0 ≤ (ji57) then (if (ji57) < (x4_1.length : Int) then (if (rd_L3 x4_1 (ji57)).length < 70368744177664 then (relabel_pieces.l0 k1 a0 (x4_1.set ((ji57) : Int).toNat ((rd_L3 x4_1 (ji57)) ++ [(⟨false, bt a0 x5_1⟩ : S103)])) (wrap64 (x5_1 + 1))) else (none)) else (none)) else (none)) = some (r1, r2) := by (rw [hji57] at H; exact H)
    have hji57w : (IntKind.i64.wrap ((x4_1.length : Int) - 1)) = ji57 := (i64_w _).trans hji57
    by_cases c58 : 0 ≤ (ji57)
    rotate_left
    ·rw [if_neg c58] at H
     exact absurd H (by simp)
    rw [if_pos c58] at H
    have c58b0 := decide_eq_true c58
    clear c58
    by_cases c59 : (ji57) < (x4_1.length : Int)
    rotate_left
    ·rw [if_neg c59] at H
     exact absurd H (by simp)
    rw [if_pos c59] at H
    have c59b0 := decide_eq_true c59
    clear c59
    by_cases c60 : (rd_L3 x4_1 (ji57)).length < 70368744177664
    rotate_left
    ·rw [if_neg c60] at H
     exact absurd H (by simp)
    rw [if_pos c60] at H
    have LMc60 := A_ c60
    clear c60
    obtain ⟨y120, hy120⟩ : ∃ y_ : List (S103), y_ = ((rd_L3 x4_1 (ji57)) ++ [(⟨false, bt a0 x5_1⟩ : S103)]) := ⟨_, rfl⟩
    replace H : (relabel_pieces.l0 k1 a0 (x4_1.set ((ji57) : Int).toNat y120) (wrap64 (x5_1 + 1))) = some (r1, r2) := by (rw [hy120]; with_reducible exact H)
    have Ny120 := A_ hy120
    clear hy120
    obtain ⟨y123, hy123⟩ : ∃ y_ : List (List (S103)), y_ = (x4_1.set ((ji57) : Int).toNat y120) := ⟨_, rfl⟩
    replace H : (relabel_pieces.l0 k1 a0 y123 (wrap64 (x5_1 + 1))) = some (r1, r2) := by (rw [hy123]; with_reducible exact H)
    have Ny123 := A_ hy123
    clear hy123
    have H' := A_ H
    clear H
    have p6 : 0 ≤ (x5_1 : Int) := od_
    have q6 : x5_1 < (a0.size : Int) := od_
    have hx6 := bt_at a0 x5_1
    replace p6 := eq_true p6
    replace q6 := eq_true q6
    try go_wp2_with (first | ((with_reducible refine gate_dst (N := 6) rfl ?_); (try (refine gate_guard (by rfl) ?_; dsimp only)); refine box_event ?hg (N := 6) ?hd (cs := #[.bool false, .int .u8 0]) (t := 103) ?hr ?_; (case hd => rfl); (case hg => rfl); (case hr => (go_simp; done)); intro gb104 hg w62 hbox hb; have n0_ := A_ (Kd.S_below (Kd.S_elderB (by (with_reducible repeat (first | apply Kd.S_alloc | apply Kd.S_drewN | apply Kd.S_drew)); exact HO_4.out) gb104 (Nat.le_of_eq hg.symm)) hb); have n1_ := A_ (below_step HB.out hb); have n2_ := A_ (hbox); have n3_ := A_ ((by rw [hg]; exact (below_size HB.out) : w.heap.size ≤ gb104)); have n4_ := A_ ((by rw [hg]; exact (below_size HB.out) : w.heap.size ≤ gb104)); clear HO_4; clear HB; have HO_4 := n0_; have HB := n1_; have BK104 := n2_; have GW104 := n3_; have GE104 := n4_; clear n0_ n1_ n2_ n3_ n4_; clear hb hbox hg; have hcz63_0 : w62.cell? ⟨gb104, 0, none⟩ = some (.bool false) := (blk_cell BK104.out 0).trans rfl; have hcz63_1 : w62.cell? ⟨gb104, 1, none⟩ = some (.int .u8 0) := (blk_cell BK104.out 1).trans rfl; have hfz63_0 := blk_frozen BK104.out 0; have hfz63_1 := blk_frozen BK104.out 1; have p7 : 0 ≤ (x5_1 : Int) := od_; have q7 : x5_1 < (a0.size : Int) := od_; have hx7 := bt_at a0 x5_1; replace p7 := eq_true p7; replace q7 := eq_true q7))
    have n0_ : Aside0 (Kd.S (Kd.slice 103 k103) 63 ((w62.setCell ⟨gb104, 0, none⟩ (.bool false)).setCell ⟨gb104, 1, none⟩ (.int .u8 (bt a0 x5_1))) w.heap.size (fun k_ => k_ ≠ gb104) u4 x4_1) := ⟨by (with_reducible repeat (first | apply Kd.S_alloc | apply Kd.S_drewN | apply Kd.S_drew)); exact Kd.S_mono (Kd.S_far (p := ⟨gb104, 1, none⟩) (Kd.S_far (p := ⟨gb104, 0, none⟩) (Kd.S_mono HO_4.out (fun k_ hk => (⟨hk, hk.2⟩ : _ ∧ k_ ≠ gb104))) (fun _ hk => hk.2) (.bool false)) (fun _ hk => hk.2) (.int .u8 (bt a0 x5_1))) (fun _ hk => hk.1.2)⟩
    have n1_ : Aside0 (((w62.setCell ⟨gb104, 0, none⟩ (.bool false)).setCell ⟨gb104, 1, none⟩ (.int .u8 (bt a0 x5_1))).heap[gb104]? = some (.cells #[.bool false, .int .u8 (bt a0 x5_1)] 103 (0, 0))) := ⟨by (with_reducible repeat (first | refine blk_drewN ?_ _ | refine blk_drew ?_ | refine blk_alloc ?_ _)); refine blk_put (cs := #[.bool false, .int .u8 0]) ?_ 1 _ rfl; (with_reducible repeat (first | refine blk_drewN ?_ _ | refine blk_drew ?_ | refine blk_alloc ?_ _)); refine blk_put (cs := #[.bool false, .int .u8 0]) ?_ 0 _ rfl; (with_reducible repeat (first | refine blk_drewN ?_ _ | refine blk_drew ?_ | refine blk_alloc ?_ _)); exact BK104.out⟩
    have n2_ : Aside0 (Below w.heap.size w ((w62.setCell ⟨gb104, 0, none⟩ (.bool false)).setCell ⟨gb104, 1, none⟩ (.int .u8 (bt a0 x5_1)))) := ⟨by repeat ((with_reducible first | exact HB.out | refine below_set ?_ GE104.out))⟩
    (try clear HO_4)
    (try clear BK104)
    (try clear HB)
    (try simp only [setCell_drewN_at])
    generalize ((w62.setCell ⟨gb104, 0, none⟩ (.bool false)).setCell ⟨gb104, 1, none⟩ (.int .u8 (bt a0 x5_1))) = w64 at n0_ n1_ n2_ ⊢
    have HO_4 := n0_
    have BK104 := n1_
    have HB := n2_
    clear n0_ n1_ n2_
    have n0_ := A_ (Kd.S_drew HO_4.out)
    have n1_ := A_ (blk_drew BK104.out)
    have n2_ := A_ (below_drew1 HB.out)
    clear HO_4
    clear BK104
    clear HB
    have HO_4 := n0_
    have BK104 := n1_
    have HB := n2_
    clear n0_ n1_ n2_
    obtain ⟨Ao66, co66, eo66⟩ := Kd.S_slice HO_4.out
    (subst eo66)
    have p119 : 0 ≤ ((ji57) : Int) := od_
    have q119 : (ji57) < (x4_1.length : Int) := od_
    obtain ⟨ad119, A119_0, c119_0, e119, hx119_0, hl119_0, hi119_0⟩ := at_L3 (Kd.S_reads' HO_4.out).2.2 (ji57) p119 q119
    cases e119
    obtain ⟨ce119, hce119, hMe119, hcc119⟩ := Kd.S_get HO_4.out [] (ji57) p119 (by exact q119)
    obtain ⟨ve119_0, rfl, ge119_0⟩ := hMe119
    have hv119_0 := hcc119 0 _ rfl
    rw [Nat.add_zero, show ((Kd.slice 103 k103)).sz = 1 from rfl, Nat.mul_one] at hv119_0
    replace hv119_0 := Option.some.inj (hv119_0.symm.trans hx119_0)
    rw [hv119_0] at ge119_0
    have HL119_0 := A_ (show Kd.R k103 103 _ _ _ _ (rd_L3 x4_1 (ji57)) from ge119_0)
    clear hv119_0 ge119_0
    have HX119_0 := A_ hx119_0
    clear hcc119 hce119
    have HR119_0 := A_ hi119_0
    have HC119_0 := A_ hl119_0
    clear hi119_0 hl119_0
    replace p119 := eq_true p119
    replace q119 := eq_true q119
    obtain ⟨go67, co67, eo67, gb67, gl67, cl67, HG67⟩ := Kd.S_form HO_4.out (by have h_ : ((ji57) : Int) < ((x4_1.length : Int) : Int) := od_; have h2_ : 0 ≤ ((ji57) : Int) := (od_); omega)
    (cases eo67)
    have GB67 := A_ gb67
    have GG67 := A_ HG67
    clear gb67 gl67 HG67
    (simp only [add_plain] at hx119_0)
    obtain ⟨oki67, ce67, hcl67, hM67, hcc67, _, _, hH67⟩ := Kd.S_elem HO_4.out [] ((ji57) : Int) (od_) (by have h_ : ((ji57) : Int) < ((x4_1.length : Int) : Int) := od_; exact h_)
    obtain ⟨ve67_0, rfl, ge67_0⟩ := hM67
    have hv67 := hcc67 0 _ rfl
    have hX67 := HX119_0.out
    (try simp only [add_plain] at hX67)
    (try simp only [Nat.add_zero] at hv67)
    (try rw [show ((Kd.slice 103 k103)).sz = 1 from rfl, Nat.mul_one] at hv67)
    replace hv67 := Option.some.inj (hv67.symm.trans hX67)
    subst hv67
    clear hX67 hcc67 hcl67
    have UU67 := A_ (show Kd.R k103 103 _ w.heap.size oki67 (.slice A119_0 (rd_L3 x4_1 (ji57)).length c119_0) (rd_L3 x4_1 (ji57)) from ge67_0)
    have HH67 := A_ hH67
    have HN67 := A_ (Kd.S_reads' HO_4.out).1
    clear hH67 ge67_0
    refine start_ (n := 15) (S := fun w' => w'.cell? ⟨gb104, 0, none⟩ = some (.bool false) ∧ w'.cell? ⟨gb104, 1, none⟩ = some (.int .u8 (bt a0 x5_1)) ∧ w'.cell? ⟨go67, ((ji57)).toNat, none⟩ = some (.slice A119_0 (rd_L3 x4_1 (ji57)).length c119_0)) (ds := [14]) #[F_,F_,F_,F_,F_,F_,F_,F_,F_,F_,F_,F_,F_,F_,F_] (by kernel_rfl) rfl rfl ⟨(blk_cell BK104.out 0).trans rfl, (blk_cell BK104.out 1).trans rfl, hx119_0⟩ (fun hHeld => ?_); refine with_tabW relabel_pieces.tab16 relabel_pieces.bits16 (fun HT_ HW_ => ?_)
    generalize w64.drew = w65 at HO_4 BK104 HB GG67 HH67 HL119_0 HR119_0 HX119_0 UU67 hx119_0 hHeld ⊢
    refine pu_ 0 (some 48) #[T_,F_,F_,F_,F_,F_,F_,F_,F_,F_,F_,F_,F_,F_,F_] HT_.out rfl rfl ?_
    refine pu_ 1 (some 49) #[T_,T_,F_,F_,F_,F_,F_,F_,F_,F_,F_,F_,F_,F_,F_] HT_.out rfl rfl ?_
    refine pu_ 2 (some 50) #[T_,T_,T_,F_,F_,F_,F_,F_,F_,F_,F_,F_,F_,F_,F_] HT_.out rfl rfl ?_
    refine pu_ 3 (some 51) #[T_,T_,T_,T_,F_,F_,F_,F_,F_,F_,F_,F_,F_,F_,F_] HT_.out rfl rfl ?_
    refine pu_ 4 (some 52) #[T_,T_,T_,T_,T_,F_,F_,F_,F_,F_,F_,F_,F_,F_,F_] HT_.out rfl rfl ?_
    refine pu_ 5 (some 53) #[T_,T_,T_,T_,T_,T_,F_,F_,F_,F_,F_,F_,F_,F_,F_] HT_.out rfl rfl ?_
    refine pu_ 6 (some 54) #[T_,T_,T_,T_,T_,T_,T_,F_,F_,F_,F_,F_,F_,F_,F_] HT_.out rfl rfl ?_
    refine pu_ 7 (some 55) #[T_,T_,T_,T_,T_,T_,T_,T_,F_,F_,F_,F_,F_,F_,F_] HT_.out rfl rfl ?_
    refine pu_ 8 (some 56) #[T_,T_,T_,T_,T_,T_,T_,T_,T_,F_,F_,F_,F_,F_,F_] HT_.out rfl rfl ?_
    refine take_ (i := 9) (N := some 57) (v := ?_) (a' := ?_) #[T_,T_,T_,T_,T_,T_,T_,T_,T_,T_,F_,F_,F_,F_,F_] rfl rfl (take_ofW HT_.out HW_.out (by kernel_rfl)) (fun _ _ _ h => h) (Or.inl ⟨by rfl, ?_⟩) hHeld ?_ ?_
    rotate_left
    ·rintro w' ⟨s0, s1, s2⟩
     go_simp
     with_reducible rfl
    rotate_left
    ·simp only [Act.put,s1_,s2_,s3_, i64_w, i32_w]
     rfl
    refine take_ (i := 10) (N := some 58) (v := ?_) (a' := ?_) #[T_,T_,T_,T_,T_,T_,T_,T_,T_,T_,T_,F_,F_,F_,F_] rfl rfl (take_ofW HT_.out HW_.out (by kernel_rfl)) (fun _ _ _ h => h) (Or.inl ⟨by rfl, ?_⟩) hHeld ?_ ?_
    rotate_left
    ·rintro w' ⟨s0, s1, s2⟩
     go_simp
     with_reducible rfl
    rotate_left
    ·simp only [Act.put,s1_,s2_,s3_, i64_w, i32_w]
     rfl
    refine one_ (i := 11) (N := some 59) #[T_,T_,T_,T_,T_,T_,T_,T_,T_,T_,T_,T_,F_,F_,F_] rfl rfl (one_of HT_.out (by kernel_rfl)) (by decide) (fun K hK => ?_)
    refine value_ (w1 := ?_) (v := ?_) (by rfl) rfl ?_ ?_
    rotate_left 2
    ·go_simp
     constructor
     ·rfl
     rfl
    refine hK.out _ _ ⟨(blk_cell (blk_alloc BK104.out _) 0).trans rfl, (blk_cell (blk_alloc BK104.out _) 1).trans rfl, (World.cell?_alloc_lt _ _ _ (World.block_lt_of_cell? _ _ (hHeld.2.2))).trans (hHeld.2.2)⟩ (fun hHeld => ?_)
    clear hK K
    refine norm_ (a' := ?_) ?_ ?_
    rotate_left
    ·show Act.put _ (some 59) _ = _
     simp only [Act.put,s1_,s2_,s3_, i64_w, i32_w]
     rfl
    refine one_ (i := 12) (N := some 60) #[T_,T_,T_,T_,T_,T_,T_,T_,T_,T_,T_,T_,T_,F_,F_] rfl rfl (one_of HT_.out (by kernel_rfl)) (by decide) (fun K hK => ?_)
    refine Kd.R_append_step k103 (w0 := w) w.heap.size (by rfl) (.tmp 57) (.tmp 59) 63 103 (.agg #[(.bool false), (.int .u8 0)]) 2 rfl Tryz.underlying63 info103 rfl (by decide) (by omega) (.slice A119_0 (rd_L3 x4_1 (ji57)).length c119_0) (rd_L3 x4_1 (ji57)) (⟨false, bt a0 x5_1⟩ : S103) [.bool false, .int .u8 (bt a0 x5_1)] (fun k_ => oki67 k_ ∨ ((fun k_ => k_ ≠ gb104)) k_ ∧ w65.heap.size ≤ k_) (fun _ => False) rfl rfl ?aP (fun _ hk => hk.elim) ?aF ?aO ?aB ?aS ?aL ?_
    (case aP => exact k103_mkM _ _ _ (⟨false, bt a0 x5_1⟩ : S103))
    (case aB => exact HB.out)
    (case aF => exact (fun k_ hk => .inr ⟨Kd.freshB (g := gb104) (o := .cells #[.bool false, .int .u8 (bt a0 x5_1)] 103 (0, 0)) (bk_ BK104.out) k_ hk, hk⟩))
    (case aO => exact (by (with_reducible repeat (first | apply Kd.R_alloc | apply Kd.R_drewN | apply Kd.R_drew)); exact Kd.R_mono UU67.out (fun _ hk => .inl hk)))
    (case aS => exact (below_size HB.out))
    (case aL => have := LMc60.out; omega)
    intro v121 w68 ho hb hg hat
    (have HS2_ := Go.Proofs.YtcikjeiebpmmcaaGreatW.PrintWords.cell_grown hg (cell_unalloc (hHeld.2.2) (by exact Kd.S_lt HO_4.out _ rfl)) (by exact (fun e_ => ((HL119_0.out.1 _ e_.symm).2) rfl)))
    rw [← Ny120.out] at ho
    have n0_ := A_ (blk_grown (g := gb104) (o := .cells #[.bool false, .int .u8 (bt a0 x5_1)] 103 (0, 0)) (bk_ BK104.out) hg (Kd.R_away HL119_0.out (fun _ hk => hk.1)))
    have n1_ := A_ (hb)
    have n2_ := A_ (Kd.H_grown (Kd.H_widen (by repeat (exact HH67.out))) hg (fun k_ e_ => .inl (UU67.out.1 k_ e_)))
    have n3_ := A_ (ho)
    clear BK104
    clear HB
    clear HH67
    clear HO_4
    clear UU67
    clear HL119_0
    have BK104 := n0_
    have HB := n1_
    have HH67 := n2_
    have HO122 := n3_
    clear n0_ n1_ n2_ n3_
    clear ho hb hg hat
    have p61 : 0 ≤ ((ji57) : Int) := od_
    have q61 : ((ji57) : Int) < ((x4_1.length : Int) : Int) := od_
    replace p61 := eq_true p61
    replace q61 := eq_true q61
    obtain ⟨Ao71, co71, eo71⟩ := Kd.R_slice HO122.out
    (subst eo71)
    obtain ⟨_, _, hraw69, _, _, hcc69, _⟩ := Kd.H_raw HH67.out (od_) (by have h_ : ((ji57) : Int) < ((x4_1.length : Int) : Int) := od_; exact h_)
    obtain ⟨_, hfr69⟩ := Kd.H_at HH67.out (od_) (by have h_ : ((ji57) : Int) < ((x4_1.length : Int) : Int) := od_; exact h_)
    have hx69_0 := hcc69 0 _ rfl
    have hf69_0 := hfr69 0
    (try simp only [Nat.add_zero] at hx69_0 hf69_0)
    (try rw [show ((Kd.slice 103 k103)).sz = 1 from rfl, Nat.mul_one] at hx69_0)
    (try rw [show ((Kd.slice 103 k103)).sz = 1 from rfl, Nat.mul_one] at hf69_0)
    have HP69 := Kd.S_seg0 HH67.out (od_) (by have h_ : ((ji57) : Int) < ((x4_1.length : Int) : Int) := od_; exact h_) (seg := [.slice Ao71 y120.length co71]) (j := 0) (show 1 ≤ 1 from by decide) (x' := y120) (Kd.M_row HO122.out) (fun _ hk => hk)
    (try simp only [show ((Kd.slice 103 k103)).sz = 1 from rfl, Nat.mul_one, Nat.add_zero] at HP69)
    clear hcc69 hfr69
    have HNB104_go67 := A_ (show gb104 ≠ go67 from by have h_ := Kd.R_ne hraw69 BK104.out (by decide); intro e_; exact h_ (by rw [e_]; rfl))
    have HS69 := HP69.1
    rw [← Ny123.out] at HS69
    have HQ69 := A_ HS69
    obtain ⟨_, hgg69⟩ := Kd.R_typed hraw69 go67 rfl
    have GG69_ := A_ hgg69
    clear HP69 HS69 hgg69
    refine hK.out _ _ ⟨(blk_cell BK104.out 0).trans rfl, (blk_cell BK104.out 1).trans rfl, HS2_⟩ (fun hHeld => ?_)
    clear hK K
    refine norm_ (a' := ?_) ?_ ?_
    rotate_left
    ·show Act.put _ (some 60) _ = _
     simp only [Act.put,s1_,s2_,s3_, i64_w, i32_w]
     rfl
    refine pu_ 13 (some 61) #[T_,T_,T_,T_,T_,T_,T_,T_,T_,T_,T_,T_,T_,T_,F_] HT_.out rfl rfl ?_
    refine last_ (i := 14) (N := none) #[T_,T_,T_,T_,T_,T_,T_,T_,T_,T_,T_,T_,T_,T_,T_] rfl rfl (one_of HT_.out (by kernel_rfl)) (by decide) (fun K hK => ?_)
    refine skip_ (w1 := ?_) (by rfl) rfl ?_ ?_
    rotate_left
    ·go_simp
     rfl
    refine hK.out _ _ ?_
    clear hK K
    refine done_ (done_of HT_.out (by kernel_rfl)) ?_
    try go_wp2
    go_roundg k1
    case measure => have := HK1.out; omega
    case rel => exact ⟨(y123), (wrap64 (x5_1 + 1)), (by rfl), H', ⟨by have := HK1.out; omega⟩, ⟨by (with_reducible repeat (first | apply Kd.S_alloc | apply Kd.S_drewN | apply Kd.S_drew)); exact Kd.S_mono HQ69.out (fun _ hk => trivial)⟩, ⟨by repeat ((with_reducible first | exact HB.out | refine below_set ?_ GB67.out))⟩⟩
   rw [if_pos c29] at H
   have c29b0 : ((bt a0 x5_1) == 92) = true := beq_iff_eq.mpr c29
   have c29b1 : ((bt a0 x5_1) != 92) = false := bne_eq_false_iff_eq.mpr c29
   clear c29
   by_cases c30 : (wrap64 (x5_1 + 1)) = (a0.size : Int)
   ·rw [if_pos c30] at H
    have c30b0 : ((wrap64 (x5_1 + 1)) == (a0.size : Int)) = true := beq_iff_eq.mpr c30
    have c30b1 : ((wrap64 (x5_1 + 1)) != (a0.size : Int)) = false := bne_eq_false_iff_eq.mpr c30
    clear c30
    simp only [Option.some.injEq, Prod.mk.injEq] at H
    obtain ⟨rfl, rfl⟩ := H
    have p6 : 0 ≤ (x5_1 : Int) := od_
    have q6 : x5_1 < (a0.size : Int) := od_
    have hx6 := bt_at a0 x5_1
    replace p6 := eq_true p6
    replace q6 := eq_true q6
    go_wp2_with (first | ((with_reducible refine gate_dst (N := 6) rfl ?_); (try (refine gate_guard (by rfl) ?_; dsimp only)); refine box_event ?hg (N := 6) ?hd (cs := #[.bool false, .int .u8 0]) (t := 103) ?hr ?_; (case hd => rfl); (case hg => rfl); (case hr => (go_simp; done)); intro gb104 hg w31 hbox hb; have n0_ := A_ (Kd.S_below (Kd.S_elderB (by (with_reducible repeat (first | apply Kd.S_alloc | apply Kd.S_drewN | apply Kd.S_drew)); exact HO_4.out) gb104 (Nat.le_of_eq hg.symm)) hb); have n1_ := A_ (below_step HB.out hb); have n2_ := A_ (hbox); have n3_ := A_ ((by rw [hg]; exact (below_size HB.out) : w.heap.size ≤ gb104)); have n4_ := A_ ((by rw [hg]; exact (below_size HB.out) : w.heap.size ≤ gb104)); clear HO_4; clear HB; have HO_4 := n0_; have HB := n1_; have BK104 := n2_; have GW104 := n3_; have GE104 := n4_; clear n0_ n1_ n2_ n3_ n4_; clear hb hbox hg; have hcz32_0 : w31.cell? ⟨gb104, 0, none⟩ = some (.bool false) := (blk_cell BK104.out 0).trans rfl; have hcz32_1 : w31.cell? ⟨gb104, 1, none⟩ = some (.int .u8 0) := (blk_cell BK104.out 1).trans rfl; have hfz32_0 := blk_frozen BK104.out 0; have hfz32_1 := blk_frozen BK104.out 1; have p7 : 0 ≤ (x5_1 : Int) := od_; have q7 : x5_1 < (a0.size : Int) := od_; have hx7 := bt_at a0 x5_1; replace p7 := eq_true p7; replace q7 := eq_true q7))
    go_ret2
    exact ⟨_, by rfl, by exact Kd.S_nil _ _ _ _ _, by repeat ((with_reducible first | exact HB.out | refine below_set ?_ GE104.out))⟩
   rw [if_neg c30] at H
   have c30b0 : ((wrap64 (x5_1 + 1)) == (a0.size : Int)) = false := beq_eq_false_iff_ne.mpr c30
   have c30b1 : ((wrap64 (x5_1 + 1)) != (a0.size : Int)) = true := bne_iff_ne.mpr c30
   obtain ⟨ji33, hji33⟩ : ∃ j_ : Int, (wrap64 (x5_1 + 1)) = j_ := ⟨_, rfl⟩
   replace H : (if 0 ≤ (ji33) then (if (ji33) < (a0.size : Int) then ((strings_IndexByte.f (⟨#[42, 63, 92]⟩ : ByteArray) (bt a0 (ji33))).bind fun t113 => (if t113 < 0 then (some (([] : List (List (S103))), false)) else (if 0 ≤ (wrap64 ((x4_1.length : Int) - 1)) then (if (wrap64 ((x4_1.length : Int) - 1)) < (x4_1.length : Int) then (if (rd_L3 x4_1 (wrap64 ((x4_1.length : Int) - 1))).length < 70368744177664 then (relabel_pieces.l0 k1 a0 (x4_1.set ((wrap64 ((x4_1.length : Int) - 1)) : Int).toNat ((rd_L3 x4_1 (wrap64 ((x4_1.length : Int) - 1))) ++ [(⟨false, bt a0 (ji33)⟩ : S103)])) (wrap64 ((ji33) + 1))) else (none)) else (none)) else (none)))) else (none)) else (none)) = some (r1, r2) := by (rw [hji33] at H; exact H)
   (try rw [hji33] at c30b0)
   (try rw [hji33] at c30b1)
   have hji33w : (IntKind.i64.wrap (x5_1 + 1)) = ji33 := (i64_w _).trans hji33
   by_cases c34 : 0 ≤ (ji33)
   rotate_left
   ·rw [if_neg c34] at H
    exact absurd H (by simp)
   rw [if_pos c34] at H
   have c34b0 := decide_eq_true c34
   clear c34
   by_cases c35 : (ji33) < (a0.size : Int)
   rotate_left
   ·rw [if_neg c35] at H
    exact absurd H (by simp)
   rw [if_pos c35] at H
   have c35b0 := decide_eq_true c35
   clear c35
   replace H := Option.bind_eq_some_iff.mp H
   obtain ⟨t113, A370, H⟩ := H
   replace H : (if t113 < 0 then (some (([] : List (List (S103))), false)) else (if 0 ≤ (wrap64 ((x4_1.length : Int) - 1)) then (if (wrap64 ((x4_1.length : Int) - 1)) < (x4_1.length : Int) then (if (rd_L3 x4_1 (wrap64 ((x4_1.length : Int) - 1))).length < 70368744177664 then (relabel_pieces.l0 k1 a0 (x4_1.set ((wrap64 ((x4_1.length : Int) - 1)) : Int).toNat ((rd_L3 x4_1 (wrap64 ((x4_1.length : Int) - 1))) ++ [(⟨false, bt a0 (ji33)⟩ : S103)])) (wrap64 ((ji33) + 1))) else (none)) else (none)) else (none))) = some (r1, r2) := H
   have A37 := A_ A370
   clear A370
   by_cases c38 : t113 < 0
   ·rw [if_pos c38] at H
    have c38b0 := decide_eq_true c38
    clear c38
    simp only [Option.some.injEq, Prod.mk.injEq] at H
    obtain ⟨rfl, rfl⟩ := H
    have p6 : 0 ≤ (x5_1 : Int) := od_
    have q6 : x5_1 < (a0.size : Int) := od_
    have hx6 := bt_at a0 x5_1
    replace p6 := eq_true p6
    replace q6 := eq_true q6
    go_wp2_with (first | ((with_reducible refine gate_dst (N := 6) rfl ?_); (try (refine gate_guard (by rfl) ?_; dsimp only)); refine box_event ?hg (N := 6) ?hd (cs := #[.bool false, .int .u8 0]) (t := 103) ?hr ?_; (case hd => rfl); (case hg => rfl); (case hr => (go_simp; done)); intro gb104 hg w39 hbox hb; have n0_ := A_ (Kd.S_below (Kd.S_elderB (by (with_reducible repeat (first | apply Kd.S_alloc | apply Kd.S_drewN | apply Kd.S_drew)); exact HO_4.out) gb104 (Nat.le_of_eq hg.symm)) hb); have n1_ := A_ (below_step HB.out hb); have n2_ := A_ (hbox); have n3_ := A_ ((by rw [hg]; exact (below_size HB.out) : w.heap.size ≤ gb104)); have n4_ := A_ ((by rw [hg]; exact (below_size HB.out) : w.heap.size ≤ gb104)); clear HO_4; clear HB; have HO_4 := n0_; have HB := n1_; have BK104 := n2_; have GW104 := n3_; have GE104 := n4_; clear n0_ n1_ n2_ n3_ n4_; clear hb hbox hg; have hcz40_0 : w39.cell? ⟨gb104, 0, none⟩ = some (.bool false) := (blk_cell BK104.out 0).trans rfl; have hcz40_1 : w39.cell? ⟨gb104, 1, none⟩ = some (.int .u8 0) := (blk_cell BK104.out 1).trans rfl; have hfz40_0 := blk_frozen BK104.out 0; have hfz40_1 := blk_frozen BK104.out 1; have p7 : 0 ≤ (x5_1 : Int) := od_; have q7 : x5_1 < (a0.size : Int) := od_; have hx7 := bt_at a0 x5_1; replace p7 := eq_true p7; replace q7 := eq_true q7; have p36 : 0 ≤ ((ji33) : Int) := od_; have q36 : (ji33) < (a0.size : Int) := od_; have hx36 := bt_at a0 (ji33); replace p36 := eq_true p36; replace q36 := eq_true q36) | (go_at_call 49; (with_reducible refine (strings_IndexByte.calls (⟨#[42, 63, 92]⟩ : ByteArray) (bt a0 (ji33)) t113 _ A37.out).mono ?_); rintro e w' ⟨rfl, ⟨nd, rfl⟩⟩))
    go_ret2
    exact ⟨_, by rfl, by exact Kd.S_nil _ _ _ _ _, by repeat ((with_reducible first | exact HB.out | apply pw_below_drewN | refine below_set ?_ GE104.out))⟩
   rw [if_neg c38] at H
   have c38b0 := decide_eq_false c38
   clear c38
   obtain ⟨ji42, hji42⟩ : ∃ j_ : Int, (wrap64 ((x4_1.length : Int) - 1)) = j_ := ⟨_, rfl⟩
   replace H : (if 0 ≤ (ji42) then (if (ji42) < (x4_1.length : Int) then (if (rd_L3 x4_1 (ji42)).length < 70368744177664 then (relabel_pieces.l0 k1 a0 (x4_1.set ((ji42) : Int).toNat ((rd_L3 x4_1 (ji42)) ++ [(⟨false, bt a0 (ji33)⟩ : S103)])) (wrap64 ((ji33) + 1))) else (none)) else (none)) else (none)) = some (r1, r2) := by (rw [hji42] at H; exact H)
   (try rw [hji42] at A37)
   have hji42w : (IntKind.i64.wrap ((x4_1.length : Int) - 1)) = ji42 := (i64_w _).trans hji42
   by_cases c43 : 0 ≤ (ji42)
   rotate_left
   ·rw [if_neg c43] at H
    exact absurd H (by simp)
   rw [if_pos c43] at H
   have c43b0 := decide_eq_true c43
   clear c43
   by_cases c44 : (ji42) < (x4_1.length : Int)
   rotate_left
   ·rw [if_neg c44] at H
    exact absurd H (by simp)
   rw [if_pos c44] at H
   have c44b0 := decide_eq_true c44
   clear c44
   by_cases c45 : (rd_L3 x4_1 (ji42)).length < 70368744177664
   rotate_left
   ·rw [if_neg c45] at H
    exact absurd H (by simp)
   rw [if_pos c45] at H
   have LMc45 := A_ c45
   clear c45
   obtain ⟨y115, hy115⟩ : ∃ y_ : List (S103), y_ = ((rd_L3 x4_1 (ji42)) ++ [(⟨false, bt a0 (ji33)⟩ : S103)]) := ⟨_, rfl⟩
   replace H : (relabel_pieces.l0 k1 a0 (x4_1.set ((ji42) : Int).toNat y115) (wrap64 ((ji33) + 1))) = some (r1, r2) := by (rw [hy115]; with_reducible exact H)
   have Ny115 := A_ hy115
   clear hy115
   obtain ⟨y118, hy118⟩ : ∃ y_ : List (List (S103)), y_ = (x4_1.set ((ji42) : Int).toNat y115) := ⟨_, rfl⟩
   replace H : (relabel_pieces.l0 k1 a0 y118 (wrap64 ((ji33) + 1))) = some (r1, r2) := by (rw [hy118]; with_reducible exact H)
   have Ny118 := A_ hy118
   clear hy118
   have H' := A_ H
   clear H
   have p6 : 0 ≤ (x5_1 : Int) := od_
   have q6 : x5_1 < (a0.size : Int) := od_
   have hx6 := bt_at a0 x5_1
   replace p6 := eq_true p6
   replace q6 := eq_true q6
   try go_wp2_with (first | ((with_reducible refine gate_dst (N := 6) rfl ?_); (try (refine gate_guard (by rfl) ?_; dsimp only)); refine box_event ?hg (N := 6) ?hd (cs := #[.bool false, .int .u8 0]) (t := 103) ?hr ?_; (case hd => rfl); (case hg => rfl); (case hr => (go_simp; done)); intro gb104 hg w47 hbox hb; have n0_ := A_ (Kd.S_below (Kd.S_elderB (by (with_reducible repeat (first | apply Kd.S_alloc | apply Kd.S_drewN | apply Kd.S_drew)); exact HO_4.out) gb104 (Nat.le_of_eq hg.symm)) hb); have n1_ := A_ (below_step HB.out hb); have n2_ := A_ (hbox); have n3_ := A_ ((by rw [hg]; exact (below_size HB.out) : w.heap.size ≤ gb104)); have n4_ := A_ ((by rw [hg]; exact (below_size HB.out) : w.heap.size ≤ gb104)); clear HO_4; clear HB; have HO_4 := n0_; have HB := n1_; have BK104 := n2_; have GW104 := n3_; have GE104 := n4_; clear n0_ n1_ n2_ n3_ n4_; clear hb hbox hg; have hcz48_0 : w47.cell? ⟨gb104, 0, none⟩ = some (.bool false) := (blk_cell BK104.out 0).trans rfl; have hcz48_1 : w47.cell? ⟨gb104, 1, none⟩ = some (.int .u8 0) := (blk_cell BK104.out 1).trans rfl; have hfz48_0 := blk_frozen BK104.out 0; have hfz48_1 := blk_frozen BK104.out 1; have p7 : 0 ≤ (x5_1 : Int) := od_; have q7 : x5_1 < (a0.size : Int) := od_; have hx7 := bt_at a0 x5_1; replace p7 := eq_true p7; replace q7 := eq_true q7; have p36 : 0 ≤ ((ji33) : Int) := od_; have q36 : (ji33) < (a0.size : Int) := od_; have hx36 := bt_at a0 (ji33); replace p36 := eq_true p36; replace q36 := eq_true q36) | (go_at_call 49; (with_reducible refine (strings_IndexByte.calls (⟨#[42, 63, 92]⟩ : ByteArray) (bt a0 (ji33)) t113 _ A37.out).mono ?_); rintro e w' ⟨rfl, ⟨nd, rfl⟩⟩; have p41 : 0 ≤ ((ji33) : Int) := od_; have q41 : (ji33) < (a0.size : Int) := od_; have hx41 := bt_at a0 (ji33); replace p41 := eq_true p41; replace q41 := eq_true q41))
   have n0_ : Aside0 (Kd.S (Kd.slice 103 k103) 63 (((w47.setCell ⟨gb104, 0, none⟩ (.bool false)).setCell ⟨gb104, 1, none⟩ (.int .u8 (bt a0 x5_1))).setCell ⟨gb104, 1, none⟩ (.int .u8 (bt a0 (ji33)))) w.heap.size (fun k_ => k_ ≠ gb104) u4 x4_1) := ⟨by (with_reducible repeat (first | apply Kd.S_alloc | apply Kd.S_drewN | apply Kd.S_drew)); exact Kd.S_mono (Kd.S_far (p := ⟨gb104, 1, none⟩) (Kd.S_far (p := ⟨gb104, 1, none⟩) (Kd.S_far (p := ⟨gb104, 0, none⟩) (Kd.S_mono HO_4.out (fun k_ hk => (⟨hk, hk.2⟩ : _ ∧ k_ ≠ gb104))) (fun _ hk => hk.2) (.bool false)) (fun _ hk => hk.2) (.int .u8 (bt a0 x5_1))) (fun _ hk => hk.2) (.int .u8 (bt a0 (ji33)))) (fun _ hk => hk.1.2)⟩
   have n1_ : Aside0 ((((w47.setCell ⟨gb104, 0, none⟩ (.bool false)).setCell ⟨gb104, 1, none⟩ (.int .u8 (bt a0 x5_1))).setCell ⟨gb104, 1, none⟩ (.int .u8 (bt a0 (ji33)))).heap[gb104]? = some (.cells #[.bool false, .int .u8 (bt a0 (ji33))] 103 (0, 0))) := ⟨by (with_reducible repeat (first | refine blk_drewN ?_ _ | refine blk_drew ?_ | refine blk_alloc ?_ _)); refine blk_put (cs := #[.bool false, .int .u8 (bt a0 x5_1)]) ?_ 1 _ rfl; (with_reducible repeat (first | refine blk_drewN ?_ _ | refine blk_drew ?_ | refine blk_alloc ?_ _)); refine blk_put (cs := #[.bool false, .int .u8 0]) ?_ 1 _ rfl; (with_reducible repeat (first | refine blk_drewN ?_ _ | refine blk_drew ?_ | refine blk_alloc ?_ _)); refine blk_put (cs := #[.bool false, .int .u8 0]) ?_ 0 _ rfl; (with_reducible repeat (first | refine blk_drewN ?_ _ | refine blk_drew ?_ | refine blk_alloc ?_ _)); exact BK104.out⟩
   have n2_ : Aside0 (Below w.heap.size w (((w47.setCell ⟨gb104, 0, none⟩ (.bool false)).setCell ⟨gb104, 1, none⟩ (.int .u8 (bt a0 x5_1))).setCell ⟨gb104, 1, none⟩ (.int .u8 (bt a0 (ji33))))) := ⟨by repeat ((with_reducible first | exact HB.out | refine below_set ?_ GE104.out))⟩
   (try clear HO_4)
   (try clear BK104)
   (try clear HB)
   (try simp only [setCell_drewN_at])
   generalize (((w47.setCell ⟨gb104, 0, none⟩ (.bool false)).setCell ⟨gb104, 1, none⟩ (.int .u8 (bt a0 x5_1))).setCell ⟨gb104, 1, none⟩ (.int .u8 (bt a0 (ji33)))) = w49 at n0_ n1_ n2_ ⊢
   have HO_4 := n0_
   have BK104 := n1_
   have HB := n2_
   clear n0_ n1_ n2_
   (try (rw [drewN_self w49]; generalize hq_ : World.drewN w49 _ = w49; have n0_ : Aside0 (Kd.S (Kd.slice 103 k103) 63 w49 w.heap.size (fun k_ => k_ ≠ gb104) u4 x4_1) := ⟨by rw [← hq_]; exact (by (with_reducible repeat (apply Kd.S_drewN)); exact HO_4.out)⟩; have n1_ : Aside0 (w49.heap[gb104]? = some (.cells #[.bool false, .int .u8 (bt a0 (ji33))] 103 (0, 0))) := ⟨by rw [← hq_]; exact (by (with_reducible repeat (refine blk_drewN ?_ _)); exact BK104.out)⟩; have n2_ : Aside0 (Below w.heap.size w w49) := ⟨by rw [← hq_]; exact (by repeat ((with_reducible first | exact HB.out | apply pw_below_drewN)))⟩; clear HO_4 BK104 HB hq_; have HO_4 := n0_; have BK104 := n1_; have HB := n2_; clear n0_ n1_ n2_))
   have n0_ := A_ (Kd.S_drew HO_4.out)
   have n1_ := A_ (blk_drew BK104.out)
   have n2_ := A_ (below_drew1 HB.out)
   clear HO_4
   clear BK104
   clear HB
   have HO_4 := n0_
   have BK104 := n1_
   have HB := n2_
   clear n0_ n1_ n2_
   obtain ⟨Ao51, co51, eo51⟩ := Kd.S_slice HO_4.out
   (subst eo51)
   have p114 : 0 ≤ ((ji42) : Int) := od_
   have q114 : (ji42) < (x4_1.length : Int) := od_
   obtain ⟨ad114, A114_0, c114_0, e114, hx114_0, hl114_0, hi114_0⟩ := at_L3 (Kd.S_reads' HO_4.out).2.2 (ji42) p114 q114
   cases e114
   obtain ⟨ce114, hce114, hMe114, hcc114⟩ := Kd.S_get HO_4.out [] (ji42) p114 (by exact q114)
   obtain ⟨ve114_0, rfl, ge114_0⟩ := hMe114
   have hv114_0 := hcc114 0 _ rfl
   rw [Nat.add_zero, show ((Kd.slice 103 k103)).sz = 1 from rfl, Nat.mul_one] at hv114_0
   replace hv114_0 := Option.some.inj (hv114_0.symm.trans hx114_0)
   rw [hv114_0] at ge114_0
   have HL114_0 := A_ (show Kd.R k103 103 _ _ _ _ (rd_L3 x4_1 (ji42)) from ge114_0)
   clear hv114_0 ge114_0
   have HX114_0 := A_ hx114_0
   clear hcc114 hce114
   have HR114_0 := A_ hi114_0
   have HC114_0 := A_ hl114_0
   clear hi114_0 hl114_0
   replace p114 := eq_true p114
   replace q114 := eq_true q114
   obtain ⟨go52, co52, eo52, gb52, gl52, cl52, HG52⟩ := Kd.S_form HO_4.out (by have h_ : ((ji42) : Int) < ((x4_1.length : Int) : Int) := od_; have h2_ : 0 ≤ ((ji42) : Int) := (od_); omega)
   (cases eo52)
   have GB52 := A_ gb52
   have GG52 := A_ HG52
   clear gb52 gl52 HG52
   (simp only [add_plain] at hx114_0)
   obtain ⟨oki52, ce52, hcl52, hM52, hcc52, _, _, hH52⟩ := Kd.S_elem HO_4.out [] ((ji42) : Int) (od_) (by have h_ : ((ji42) : Int) < ((x4_1.length : Int) : Int) := od_; exact h_)
   obtain ⟨ve52_0, rfl, ge52_0⟩ := hM52
   have hv52 := hcc52 0 _ rfl
   have hX52 := HX114_0.out
   (try simp only [add_plain] at hX52)
   (try simp only [Nat.add_zero] at hv52)
   (try rw [show ((Kd.slice 103 k103)).sz = 1 from rfl, Nat.mul_one] at hv52)
   replace hv52 := Option.some.inj (hv52.symm.trans hX52)
   subst hv52
   clear hX52 hcc52 hcl52
   have UU52 := A_ (show Kd.R k103 103 _ w.heap.size oki52 (.slice A114_0 (rd_L3 x4_1 (ji42)).length c114_0) (rd_L3 x4_1 (ji42)) from ge52_0)
   have HH52 := A_ hH52
   have HN52 := A_ (Kd.S_reads' HO_4.out).1
   clear hH52 ge52_0
   refine start_ (n := 15) (S := fun w' => w'.cell? ⟨gb104, 0, none⟩ = some (.bool false) ∧ w'.cell? ⟨gb104, 1, none⟩ = some (.int .u8 (bt a0 (ji33))) ∧ w'.cell? ⟨go52, ((ji42)).toNat, none⟩ = some (.slice A114_0 (rd_L3 x4_1 (ji42)).length c114_0)) (ds := [14]) #[F_,F_,F_,F_,F_,F_,F_,F_,F_,F_,F_,F_,F_,F_,F_] (by kernel_rfl) rfl rfl ⟨(blk_cell BK104.out 0).trans rfl, (blk_cell BK104.out 1).trans rfl, hx114_0⟩ (fun hHeld => ?_); refine with_tabW relabel_pieces.tab16 relabel_pieces.bits16 (fun HT_ HW_ => ?_)
   generalize w49.drew = w50 at HO_4 BK104 HB GG52 HH52 HL114_0 HR114_0 HX114_0 UU52 hx114_0 hHeld ⊢
   refine pu_ 0 (some 48) #[T_,F_,F_,F_,F_,F_,F_,F_,F_,F_,F_,F_,F_,F_,F_] HT_.out rfl rfl ?_
   refine pu_ 1 (some 49) #[T_,T_,F_,F_,F_,F_,F_,F_,F_,F_,F_,F_,F_,F_,F_] HT_.out rfl rfl ?_
   refine pu_ 2 (some 50) #[T_,T_,T_,F_,F_,F_,F_,F_,F_,F_,F_,F_,F_,F_,F_] HT_.out rfl rfl ?_
   refine pu_ 3 (some 51) #[T_,T_,T_,T_,F_,F_,F_,F_,F_,F_,F_,F_,F_,F_,F_] HT_.out rfl rfl ?_
   refine pu_ 4 (some 52) #[T_,T_,T_,T_,T_,F_,F_,F_,F_,F_,F_,F_,F_,F_,F_] HT_.out rfl rfl ?_
   refine pu_ 5 (some 53) #[T_,T_,T_,T_,T_,T_,F_,F_,F_,F_,F_,F_,F_,F_,F_] HT_.out rfl rfl ?_
   refine pu_ 6 (some 54) #[T_,T_,T_,T_,T_,T_,T_,F_,F_,F_,F_,F_,F_,F_,F_] HT_.out rfl rfl ?_
   refine pu_ 7 (some 55) #[T_,T_,T_,T_,T_,T_,T_,T_,F_,F_,F_,F_,F_,F_,F_] HT_.out rfl rfl ?_
   refine pu_ 8 (some 56) #[T_,T_,T_,T_,T_,T_,T_,T_,T_,F_,F_,F_,F_,F_,F_] HT_.out rfl rfl ?_
   refine take_ (i := 9) (N := some 57) (v := ?_) (a' := ?_) #[T_,T_,T_,T_,T_,T_,T_,T_,T_,T_,F_,F_,F_,F_,F_] rfl rfl (take_ofW HT_.out HW_.out (by kernel_rfl)) (fun _ _ _ h => h) (Or.inl ⟨by rfl, ?_⟩) hHeld ?_ ?_
   rotate_left
   ·rintro w' ⟨s0, s1, s2⟩
    go_simp
    with_reducible rfl
   rotate_left
   ·simp only [Act.put,s1_,s2_,s3_, i64_w, i32_w]
    rfl
   refine take_ (i := 10) (N := some 58) (v := ?_) (a' := ?_) #[T_,T_,T_,T_,T_,T_,T_,T_,T_,T_,T_,F_,F_,F_,F_] rfl rfl (take_ofW HT_.out HW_.out (by kernel_rfl)) (fun _ _ _ h => h) (Or.inl ⟨by rfl, ?_⟩) hHeld ?_ ?_
   rotate_left
   ·rintro w' ⟨s0, s1, s2⟩
    go_simp
    with_reducible rfl
   rotate_left
   ·simp only [Act.put,s1_,s2_,s3_, i64_w, i32_w]
    rfl
   refine one_ (i := 11) (N := some 59) #[T_,T_,T_,T_,T_,T_,T_,T_,T_,T_,T_,T_,F_,F_,F_] rfl rfl (one_of HT_.out (by kernel_rfl)) (by decide) (fun K hK => ?_)
   refine value_ (w1 := ?_) (v := ?_) (by rfl) rfl ?_ ?_
   rotate_left 2
   ·go_simp
    constructor
    ·rfl
    rfl
   refine hK.out _ _ ⟨(blk_cell (blk_alloc BK104.out _) 0).trans rfl, (blk_cell (blk_alloc BK104.out _) 1).trans rfl, (World.cell?_alloc_lt _ _ _ (World.block_lt_of_cell? _ _ (hHeld.2.2))).trans (hHeld.2.2)⟩ (fun hHeld => ?_)
   clear hK K
   refine norm_ (a' := ?_) ?_ ?_
   rotate_left
   ·show Act.put _ (some 59) _ = _
    simp only [Act.put,s1_,s2_,s3_, i64_w, i32_w]
    rfl
   refine one_ (i := 12) (N := some 60) #[T_,T_,T_,T_,T_,T_,T_,T_,T_,T_,T_,T_,T_,F_,F_] rfl rfl (one_of HT_.out (by kernel_rfl)) (by decide) (fun K hK => ?_)
   refine Kd.R_append_step k103 (w0 := w) w.heap.size (by rfl) (.tmp 57) (.tmp 59) 63 103 (.agg #[(.bool false), (.int .u8 0)]) 2 rfl Tryz.underlying63 info103 rfl (by decide) (by omega) (.slice A114_0 (rd_L3 x4_1 (ji42)).length c114_0) (rd_L3 x4_1 (ji42)) (⟨false, bt a0 (ji33)⟩ : S103) [.bool false, .int .u8 (bt a0 (ji33))] (fun k_ => oki52 k_ ∨ ((fun k_ => k_ ≠ gb104)) k_ ∧ w50.heap.size ≤ k_) (fun _ => False) rfl rfl ?aP (fun _ hk => hk.elim) ?aF ?aO ?aB ?aS ?aL ?_
   (case aP => exact k103_mkM _ _ _ (⟨false, bt a0 (ji33)⟩ : S103))
   (case aB => exact HB.out)
   (case aF => exact (fun k_ hk => .inr ⟨Kd.freshB (g := gb104) (o := .cells #[.bool false, .int .u8 (bt a0 (ji33))] 103 (0, 0)) (bk_ BK104.out) k_ hk, hk⟩))
   (case aO => exact (by (with_reducible repeat (first | apply Kd.R_alloc | apply Kd.R_drewN | apply Kd.R_drew)); exact Kd.R_mono UU52.out (fun _ hk => .inl hk)))
   (case aS => exact (below_size HB.out))
   (case aL => have := LMc45.out; omega)
   intro v116 w53 ho hb hg hat
   (have HS2_ := Go.Proofs.YtcikjeiebpmmcaaGreatW.PrintWords.cell_grown hg (cell_unalloc (hHeld.2.2) (by exact Kd.S_lt HO_4.out _ rfl)) (by exact (fun e_ => ((HL114_0.out.1 _ e_.symm).2) rfl)))
   rw [← Ny115.out] at ho
   have n0_ := A_ (blk_grown (g := gb104) (o := .cells #[.bool false, .int .u8 (bt a0 (ji33))] 103 (0, 0)) (bk_ BK104.out) hg (Kd.R_away HL114_0.out (fun _ hk => hk.1)))
   have n1_ := A_ (hb)
   have n2_ := A_ (Kd.H_grown (Kd.H_widen (by repeat (exact HH52.out))) hg (fun k_ e_ => .inl (UU52.out.1 k_ e_)))
   have n3_ := A_ (ho)
   clear BK104
   clear HB
   clear HH52
   clear HO_4
   clear UU52
   clear HL114_0
   have BK104 := n0_
   have HB := n1_
   have HH52 := n2_
   have HO117 := n3_
   clear n0_ n1_ n2_ n3_
   clear ho hb hg hat
   have p46 : 0 ≤ ((ji42) : Int) := od_
   have q46 : ((ji42) : Int) < ((x4_1.length : Int) : Int) := od_
   replace p46 := eq_true p46
   replace q46 := eq_true q46
   obtain ⟨Ao56, co56, eo56⟩ := Kd.R_slice HO117.out
   (subst eo56)
   obtain ⟨_, _, hraw54, _, _, hcc54, _⟩ := Kd.H_raw HH52.out (od_) (by have h_ : ((ji42) : Int) < ((x4_1.length : Int) : Int) := od_; exact h_)
   obtain ⟨_, hfr54⟩ := Kd.H_at HH52.out (od_) (by have h_ : ((ji42) : Int) < ((x4_1.length : Int) : Int) := od_; exact h_)
   have hx54_0 := hcc54 0 _ rfl
   have hf54_0 := hfr54 0
   (try simp only [Nat.add_zero] at hx54_0 hf54_0)
   (try rw [show ((Kd.slice 103 k103)).sz = 1 from rfl, Nat.mul_one] at hx54_0)
   (try rw [show ((Kd.slice 103 k103)).sz = 1 from rfl, Nat.mul_one] at hf54_0)
   have HP54 := Kd.S_seg0 HH52.out (od_) (by have h_ : ((ji42) : Int) < ((x4_1.length : Int) : Int) := od_; exact h_) (seg := [.slice Ao56 y115.length co56]) (j := 0) (show 1 ≤ 1 from by decide) (x' := y115) (Kd.M_row HO117.out) (fun _ hk => hk)
   (try simp only [show ((Kd.slice 103 k103)).sz = 1 from rfl, Nat.mul_one, Nat.add_zero] at HP54)
   clear hcc54 hfr54
   have HNB104_go52 := A_ (show gb104 ≠ go52 from by have h_ := Kd.R_ne hraw54 BK104.out (by decide); intro e_; exact h_ (by rw [e_]; rfl))
   have HS54 := HP54.1
   rw [← Ny118.out] at HS54
   have HQ54 := A_ HS54
   obtain ⟨_, hgg54⟩ := Kd.R_typed hraw54 go52 rfl
   have GG54_ := A_ hgg54
   clear HP54 HS54 hgg54
   refine hK.out _ _ ⟨(blk_cell BK104.out 0).trans rfl, (blk_cell BK104.out 1).trans rfl, HS2_⟩ (fun hHeld => ?_)
   clear hK K
   refine norm_ (a' := ?_) ?_ ?_
   rotate_left
   ·show Act.put _ (some 60) _ = _
    simp only [Act.put,s1_,s2_,s3_, i64_w, i32_w]
    rfl
   refine pu_ 13 (some 61) #[T_,T_,T_,T_,T_,T_,T_,T_,T_,T_,T_,T_,T_,T_,F_] HT_.out rfl rfl ?_
   refine last_ (i := 14) (N := none) #[T_,T_,T_,T_,T_,T_,T_,T_,T_,T_,T_,T_,T_,T_,T_] rfl rfl (one_of HT_.out (by kernel_rfl)) (by decide) (fun K hK => ?_)
   refine skip_ (w1 := ?_) (by rfl) rfl ?_ ?_
   rotate_left
   ·go_simp
    rfl
   refine hK.out _ _ ?_
   clear hK K
   refine done_ (done_of HT_.out (by kernel_rfl)) ?_
   try go_wp2
   go_roundg k1
   case measure => have := HK1.out; omega
   case rel => exact ⟨(y118), (wrap64 ((ji33) + 1)), (by rfl), (by exact H'), ⟨by have := HK1.out; omega⟩, ⟨by (with_reducible repeat (first | apply Kd.S_alloc | apply Kd.S_drewN | apply Kd.S_drew)); exact Kd.S_mono HQ54.out (fun _ hk => trivial)⟩, ⟨by repeat ((with_reducible first | exact HB.out | refine below_set ?_ GB52.out))⟩⟩
end Go.Proofs.YtcikjeiebpmmcaaGreat.PMch
