/- Pruned. -/
import Derived.Test.YtcikjeiebpmmcaaGreatQyPMchx0
namespace Go.Proofs.YtcikjeiebpmmcaaGreat.PMch
open Go.RowKit Go.Proofs.YtcikjeiebpmmcaaGreatW.PrintWords Go.Proofs.YtcikjeiebpmmcaaGreatW.PrintLast Go.Proofs.YtcikjeiebpmmcaaGreatW.PrintMore
attribute [local go_sem] max2_int max_two
set_option linter.unusedVariables false
set_option linter.unusedSimpArgs false
def r03_Escape.l0 : Nat → ByteArray → List Int → Int → Option (ByteArray)
 | 0, _, _, _ => none
 | k + 1, x0, x3, x4 => if x4 < (x0.size : Int) then (if 0 ≤ x4 then (if (bt x0 x4) = 10 then ((some (([92, 110] : List Int) : List Int)).bind fun y314 => (if x3.length + y314.length < 140737488355328 then (r03_Escape.l0 k x0 (x3 ++ y314) (wrap64 (x4 + 1))) else (none))) else (if (bt x0 x4) = 92 then ((some (([92, bt x0 x4] : List Int) : List Int)).bind fun y320 => (if x3.length + y320.length < 140737488355328 then (r03_Escape.l0 k x0 (x3 ++ y320) (wrap64 (x4 + 1))) else (none))) else (if (bt x0 x4) = 34 then ((some (([92, bt x0 x4] : List Int) : List Int)).bind fun y326 => (if x3.length + y326.length < 140737488355328 then (r03_Escape.l0 k x0 (x3 ++ y326) (wrap64 (x4 + 1))) else (none))) else (if x3.length < 140737488355328 then (r03_Escape.l0 k x0 (x3 ++ [bt x0 x4]) (wrap64 (x4 + 1))) else (none))))) else (none)) else (some (strOfNums x3))
def r03_Escape.f (k : Nat) (a0 : ByteArray) : Option (ByteArray) := r03_Escape.l0 k a0 ([] : List Int) 0
theorem r03_Escape.mono_l : ∀ k, (∀ y0 y1 y2, LeO (r03_Escape.l0 k y0 y1 y2) (r03_Escape.l0 (k + 1) y0 y1 y2))
 | 0 => fun _ _ _ r h => by simp [r03_Escape.l0] at h
 | k + 1 => by
  have ih0 := r03_Escape.mono_l k
  ·intro y0 y1 y2
   unfold r03_Escape.l0
   repeat' first
   | (with_reducible first | exact ih0 _ _ _ | exact LeO.refl _ | exact LeO.none _ | refine LeO.ite ?_ ?_ | refine LeO.bind ?_ (fun _ => ?_))
theorem r03_Escape.mono : ∀ a0 k, LeO (r03_Escape.f k a0) (r03_Escape.f (k + 1) a0) := by
 intro a0 k
 have ih0 := r03_Escape.mono_l k
 unfold r03_Escape.f
 repeat' first
  | (with_reducible first | exact ih0 _ _ _ | exact LeO.refl _ | exact LeO.none _ | refine LeO.ite ?_ ?_ | refine LeO.bind ?_ (fun _ => ?_))
set_option maxHeartbeats 8000000 in
set_option maxRecDepth 100000 in
theorem r03_Escape.calls (k : Nat) (a0 : ByteArray) (r : ByteArray) (w : World) (h : r03_Escape.f k a0 = some r) :
 Calls Tryz.prog 72 #[.string a0] w fun e w' => e = .returned (.string r) ∧ Below w.heap.size w w' := by
 have HB := A_ (Below.refl w.heap.size w)
 have H : (r03_Escape.l0 k a0 ([] : List Int) 0) = some r := h
 clear h
 have H' := A_ H
 clear H
 go_enter Tryz.func72, Tryz.ntmps72
 go_wp2
 go_loopg [3, 4] k (fun kq v3 v4 w' => ∃ (x3_1 : List Int) (x4_1 : Int), v4 = .int .i64 x4_1 ∧ Aside0 (r03_Escape.l0 kq a0 x3_1 x4_1 = some r) ∧ Aside0 (kq ≤ k) ∧ Aside0 (Kd.R (Kd.int .u8) 5 w' w.heap.size (fun _ => True) v3 x3_1) ∧ Aside0 (Below w.heap.size w w'))
 case atStart => exact ⟨(([] : List Int)), (0), (by rfl), H', ⟨Nat.le_refl _⟩, ⟨by exact Kd.R_nil _ _ _ _ _⟩, ⟨HB.out⟩⟩
 case round =>
  clear H'
  obtain ⟨x3_1, x4_1, rfl, HA, HK1, HO_3, HB⟩ := hrel
  cases gk with
  | zero => exact absurd HA.out (by simp [r03_Escape.l0])
  | succ k1 =>
   have H := HA.out
   clear HA
   simp only [r03_Escape.l0] at H
   by_cases c2 : x4_1 < (a0.size : Int)
   rotate_left
   ·rw [if_neg c2] at H
    have c2b0 := decide_eq_false c2
    clear c2
    obtain rfl := Option.some.inj H
    have hcv28 := own_string (P := Tryz.prog) Tryz.underlying72 Tryz.underlying5 Tryz.underlying9 (Kd.own_of_R HO_3.out)
    go_wp2
    go_ret
    exact ⟨by rfl, HB.out⟩
   rw [if_pos c2] at H
   have c2b0 := decide_eq_true c2
   clear c2
   by_cases c3 : 0 ≤ x4_1
   rotate_left
   ·rw [if_neg c3] at H
    exact absurd H (by simp)
   rw [if_pos c3] at H
   have c3b0 := decide_eq_true c3
   clear c3
   by_cases c5 : (bt a0 x4_1) = 10
   ·rw [if_pos c5] at H
    have c5b0 : ((bt a0 x4_1) == 10) = true := beq_iff_eq.mpr c5
    have c5b1 : ((bt a0 x4_1) != 10) = false := bne_eq_false_iff_eq.mpr c5
    clear c5
    obtain ⟨y314, hy314⟩ : ∃ y_ : List Int, y_ = (([92, 110] : List Int)) := ⟨_, rfl⟩
    replace H : (if x3_1.length + y314.length < 140737488355328 then (r03_Escape.l0 k1 a0 (x3_1 ++ y314) (wrap64 (x4_1 + 1))) else (none)) = some r := by (have H2_ := (Option.bind_some _ _).symm.trans H; rw [hy314]; with_reducible exact H2_)
    have Ny314 := A_ hy314
    clear hy314
    by_cases c6 : x3_1.length + y314.length < 140737488355328
    rotate_left
    ·rw [if_neg c6] at H
     exact absurd H (by simp)
    rw [if_pos c6] at H
    have LMc6 := A_ c6
    clear c6
    obtain ⟨y317, hy317⟩ : ∃ y_ : List Int, y_ = (x3_1 ++ y314) := ⟨_, rfl⟩
    replace H : (r03_Escape.l0 k1 a0 y317 (wrap64 (x4_1 + 1))) = some r := by (rw [hy317]; with_reducible exact H)
    have Ny317 := A_ hy317
    clear hy317
    have H' := A_ H
    clear H
    have p4 : 0 ≤ (x4_1 : Int) := od_
    have q4 : x4_1 < (a0.size : Int) := od_
    have hx4 := bt_at a0 x4_1
    replace p4 := eq_true p4
    replace q4 := eq_true q4
    go_wp2_with (first | ((with_reducible refine gate_dst (N := 23) rfl ?_); refine Kd.R_lit (Kd.int .u8) _ 5 ?hg (N := 23) ?hd (xs := ([92, 110] : List Int)) (inner := [.int .u8 92, .int .u8 110]) (ok := fun _ => True) (okp := fun _ => True) ?hr ?hp (fun _ hk => hk) trivial (Below.refl _ _) (Nat.le_refl _) (by simp) ?_; (case hd => rfl); (case hg => rfl); (case hr => (go_simp; done)); (case hp => exact (Reps.one (show Kd.M (Kd.int .u8) _ _ _ 92 [.int .u8 92] from rfl) (Reps.one (show Kd.M (Kd.int .u8) _ _ _ 110 [.int .u8 110] from rfl) (Reps.none _ _)))); intro v315 w7 ho8 hb hg_ hnew_; clear hg_ hnew_; (rw [← Ny314.out] at ho8); have n0_ := A_ (Kd.R_elder' (rr_ HO_3.out) (Kd.R_base ho8) hb); have n1_ := A_ (Kd.R_lower (Kd.R_new' ho8 (Kd.R_lt (rr_ HO_3.out))) (below_size HB.out)); have n2_ := A_ (below_step HB.out hb); clear HO_3; clear HB; have HO_3 := n0_; have HO316 := n1_; have HB := n2_; clear n0_ n1_ n2_; clear hb ho8; obtain ⟨Ao10, co10, eo10⟩ := Kd.R_slice HO316.out; subst eo10) | ((with_reducible refine gate_builtin (b := .append) (xs := #[.tmp 22, .tmp 23]) rfl ?_); at_builtin; refine Kd.R_append_rows (Kd.int .u8) (w0 := w) w.heap.size rfl (.tmp 22) (.tmp 23) 72 5 (.int .u8 0) 1 rfl Tryz.underlying72 info5 rfl (by decide) (by omega) u3 x3_1 y314 _ _ _ (fun k_ => some k_ ≠ (.slice Ao10 y314.length co10 : Value).ownBlock) (fun _ => False) rfl rfl ?aO ?aR (fun _ _ h => h) (fun _ h => h.elim) ?aF ?aB ?aS ?aL ?_; (case aR => repeat (exact (Kd.R_reads' HO316.out).2.2)); (case aB => exact HB.out); (case aF => exact (fun k_ hk => Kd.fresh' (Kd.R_lt (rr_ HO316.out)) k_ hk)); (case aO => exact (by (with_reducible repeat (first | apply Kd.R_alloc | apply Kd.R_drewN | apply Kd.R_drew)); exact Kd.R_mono HO_3.out (fun _ hk => hk.2))); (case aS => exact (below_size HB.out)); (case aL => have := LMc6.out; omega); intro v318 w9 ho hb hg hat; rw [← Ny317.out] at ho; have n0_ := A_ (Kd.R_after (ok := (fun _ => True)) (rr_ HO316.out) hg hat); have n1_ := A_ (hb); have n2_ := A_ (ho); clear HO316; clear HB; clear HO_3; have HO316 := n0_; have HB := n1_; have HO319 := n2_; clear n0_ n1_ n2_; clear ho hb hg hat))
    go_roundg k1
    case measure => have := HK1.out; omega
    case rel => exact ⟨(y317), (wrap64 (x4_1 + 1)), (by rfl), H', ⟨by have := HK1.out; omega⟩, ⟨by (with_reducible repeat (first | apply Kd.R_alloc | apply Kd.R_drewN | apply Kd.R_drew)); exact Kd.R_mono HO319.out (fun _ hk => trivial)⟩, ⟨HB.out⟩⟩
   rw [if_neg c5] at H
   have c5b0 : ((bt a0 x4_1) == 10) = false := beq_eq_false_iff_ne.mpr c5
   have c5b1 : ((bt a0 x4_1) != 10) = true := bne_iff_ne.mpr c5
   by_cases c11 : (bt a0 x4_1) = 92
   ·rw [if_pos c11] at H
    have c11b0 : ((bt a0 x4_1) == 92) = true := beq_iff_eq.mpr c11
    have c11b1 : ((bt a0 x4_1) != 92) = false := bne_eq_false_iff_eq.mpr c11
    clear c11
    obtain ⟨y320, hy320⟩ : ∃ y_ : List Int, y_ = (([92, bt a0 x4_1] : List Int)) := ⟨_, rfl⟩
    replace H : (if x3_1.length + y320.length < 140737488355328 then (r03_Escape.l0 k1 a0 (x3_1 ++ y320) (wrap64 (x4_1 + 1))) else (none)) = some r := by (have H2_ := (Option.bind_some _ _).symm.trans H; rw [hy320]; with_reducible exact H2_)
    have Ny320 := A_ hy320
    clear hy320
    by_cases c13 : x3_1.length + y320.length < 140737488355328
    rotate_left
    ·rw [if_neg c13] at H
     exact absurd H (by simp)
    rw [if_pos c13] at H
    have LMc13 := A_ c13
    clear c13
    obtain ⟨y323, hy323⟩ : ∃ y_ : List Int, y_ = (x3_1 ++ y320) := ⟨_, rfl⟩
    replace H : (r03_Escape.l0 k1 a0 y323 (wrap64 (x4_1 + 1))) = some r := by (rw [hy323]; with_reducible exact H)
    have Ny323 := A_ hy323
    clear hy323
    have H' := A_ H
    clear H
    have p4 : 0 ≤ (x4_1 : Int) := od_
    have q4 : x4_1 < (a0.size : Int) := od_
    have hx4 := bt_at a0 x4_1
    replace p4 := eq_true p4
    replace q4 := eq_true q4
    have p12 : 0 ≤ (x4_1 : Int) := od_
    have q12 : x4_1 < (a0.size : Int) := od_
    have hx12 := bt_at a0 x4_1
    replace p12 := eq_true p12
    replace q12 := eq_true q12
    go_wp2_with (first | ((with_reducible refine gate_dst (N := 32) rfl ?_); refine Kd.R_lit (Kd.int .u8) _ 5 ?hg (N := 32) ?hd (xs := ([92, bt a0 x4_1] : List Int)) (inner := [.int .u8 92, .int .u8 (bt a0 x4_1)]) (ok := fun _ => True) (okp := fun _ => True) ?hr ?hp (fun _ hk => hk) trivial (Below.refl _ _) (Nat.le_refl _) (by simp) ?_; (case hd => rfl); (case hg => rfl); (case hr => (go_simp; done)); (case hp => exact (Reps.one (show Kd.M (Kd.int .u8) _ _ _ 92 [.int .u8 92] from rfl) (Reps.one (show Kd.M (Kd.int .u8) _ _ _ (bt a0 x4_1) [.int .u8 (bt a0 x4_1)] from rfl) (Reps.none _ _)))); intro v321 w14 ho15 hb hg_ hnew_; clear hg_ hnew_; (rw [← Ny320.out] at ho15); have n0_ := A_ (Kd.R_elder' (rr_ HO_3.out) (Kd.R_base ho15) hb); have n1_ := A_ (Kd.R_lower (Kd.R_new' ho15 (Kd.R_lt (rr_ HO_3.out))) (below_size HB.out)); have n2_ := A_ (below_step HB.out hb); clear HO_3; clear HB; have HO_3 := n0_; have HO322 := n1_; have HB := n2_; clear n0_ n1_ n2_; clear hb ho15; obtain ⟨Ao17, co17, eo17⟩ := Kd.R_slice HO322.out; subst eo17) | ((with_reducible refine gate_builtin (b := .append) (xs := #[.tmp 28, .tmp 32]) rfl ?_); at_builtin; refine Kd.R_append_rows (Kd.int .u8) (w0 := w) w.heap.size rfl (.tmp 28) (.tmp 32) 72 5 (.int .u8 0) 1 rfl Tryz.underlying72 info5 rfl (by decide) (by omega) u3 x3_1 y320 _ _ _ (fun k_ => some k_ ≠ (.slice Ao17 y320.length co17 : Value).ownBlock) (fun _ => False) rfl rfl ?aO ?aR (fun _ _ h => h) (fun _ h => h.elim) ?aF ?aB ?aS ?aL ?_; (case aR => repeat (exact (Kd.R_reads' HO322.out).2.2)); (case aB => exact HB.out); (case aF => exact (fun k_ hk => Kd.fresh' (Kd.R_lt (rr_ HO322.out)) k_ hk)); (case aO => exact (by (with_reducible repeat (first | apply Kd.R_alloc | apply Kd.R_drewN | apply Kd.R_drew)); exact Kd.R_mono HO_3.out (fun _ hk => hk.2))); (case aS => exact (below_size HB.out)); (case aL => have := LMc13.out; omega); intro v324 w16 ho hb hg hat; rw [← Ny323.out] at ho; have n0_ := A_ (Kd.R_after (ok := (fun _ => True)) (rr_ HO322.out) hg hat); have n1_ := A_ (hb); have n2_ := A_ (ho); clear HO322; clear HB; clear HO_3; have HO322 := n0_; have HB := n1_; have HO325 := n2_; clear n0_ n1_ n2_; clear ho hb hg hat))
    go_roundg k1
    case measure => have := HK1.out; omega
    case rel => exact ⟨(y323), (wrap64 (x4_1 + 1)), (by rfl), H', ⟨by have := HK1.out; omega⟩, ⟨by (with_reducible repeat (first | apply Kd.R_alloc | apply Kd.R_drewN | apply Kd.R_drew)); exact Kd.R_mono HO325.out (fun _ hk => trivial)⟩, ⟨HB.out⟩⟩
   rw [if_neg c11] at H
   have c11b0 : ((bt a0 x4_1) == 92) = false := beq_eq_false_iff_ne.mpr c11
   have c11b1 : ((bt a0 x4_1) != 92) = true := bne_iff_ne.mpr c11
   by_cases c18 : (bt a0 x4_1) = 34
   rotate_left
   ·rw [if_neg c18] at H
    have c18b0 : ((bt a0 x4_1) == 34) = false := beq_eq_false_iff_ne.mpr c18
    have c18b1 : ((bt a0 x4_1) != 34) = true := bne_iff_ne.mpr c18
    by_cases c26 : x3_1.length < 140737488355328
    rotate_left
    ·rw [if_neg c26] at H
     exact absurd H (by simp)
    rw [if_pos c26] at H
    have LMc26 := A_ c26
    clear c26
    obtain ⟨y332, hy332⟩ : ∃ y_ : List Int, y_ = (x3_1 ++ [bt a0 x4_1]) := ⟨_, rfl⟩
    replace H : (r03_Escape.l0 k1 a0 y332 (wrap64 (x4_1 + 1))) = some r := by (rw [hy332]; with_reducible exact H)
    have Ny332 := A_ hy332
    clear hy332
    have H' := A_ H
    clear H
    have p4 : 0 ≤ (x4_1 : Int) := od_
    have q4 : x4_1 < (a0.size : Int) := od_
    have hx4 := bt_at a0 x4_1
    replace p4 := eq_true p4
    replace q4 := eq_true q4
    have p25 : 0 ≤ (x4_1 : Int) := od_
    have q25 : x4_1 < (a0.size : Int) := od_
    have hx25 := bt_at a0 x4_1
    replace p25 := eq_true p25
    replace q25 := eq_true q25
    go_wp2_with (first | ((with_reducible refine gate_builtin (b := .append) (xs := #[.tmp 14, .tmp 18]) rfl ?_); at_builtin; refine Kd.R_append (Kd.int .u8) (w0 := w) w.heap.size rfl (.tmp 14) (.tmp 18) 72 5 (.int .u8 0) 1 rfl Tryz.underlying72 info5 rfl (by decide) (by omega) u3 x3_1 (bt a0 x4_1) [.int .u8 (bt a0 x4_1)] (fun _ => True) (fun _ => False) rfl rfl ?aP (fun _ hk => hk.elim) ?aF ?aO ?aB ?aS ?aL ?_; (case aP => exact rfl); (case aB => exact HB.out); (case aF => exact (fun _ _ => trivial)); (case aO => exact (rr_ HO_3.out)); (case aS => exact (below_size HB.out)); (case aL => have := LMc26.out; omega); intro v333 w27 ho hb hg hat; rw [← Ny332.out] at ho; have n0_ := A_ (hb); have n1_ := A_ (ho); clear HB; clear HO_3; have HB := n0_; have HO334 := n1_; clear n0_ n1_; clear ho hb hg hat))
    go_roundg k1
    case measure => have := HK1.out; omega
    case rel => exact ⟨(y332), (wrap64 (x4_1 + 1)), (by rfl), H', ⟨by have := HK1.out; omega⟩, ⟨rr_ HO334.out⟩, ⟨HB.out⟩⟩
   rw [if_pos c18] at H
   have c18b0 : ((bt a0 x4_1) == 34) = true := beq_iff_eq.mpr c18
   have c18b1 : ((bt a0 x4_1) != 34) = false := bne_eq_false_iff_eq.mpr c18
   clear c18
   obtain ⟨y326, hy326⟩ : ∃ y_ : List Int, y_ = (([92, bt a0 x4_1] : List Int)) := ⟨_, rfl⟩
   replace H : (if x3_1.length + y326.length < 140737488355328 then (r03_Escape.l0 k1 a0 (x3_1 ++ y326) (wrap64 (x4_1 + 1))) else (none)) = some r := by (have H2_ := (Option.bind_some _ _).symm.trans H; rw [hy326]; with_reducible exact H2_)
   have Ny326 := A_ hy326
   clear hy326
   by_cases c20 : x3_1.length + y326.length < 140737488355328
   rotate_left
   ·rw [if_neg c20] at H
    exact absurd H (by simp)
   rw [if_pos c20] at H
   have LMc20 := A_ c20
   clear c20
   obtain ⟨y329, hy329⟩ : ∃ y_ : List Int, y_ = (x3_1 ++ y326) := ⟨_, rfl⟩
   replace H : (r03_Escape.l0 k1 a0 y329 (wrap64 (x4_1 + 1))) = some r := by (rw [hy329]; with_reducible exact H)
   have Ny329 := A_ hy329
   clear hy329
   have H' := A_ H
   clear H
   have p4 : 0 ≤ (x4_1 : Int) := od_
   have q4 : x4_1 < (a0.size : Int) := od_
   have hx4 := bt_at a0 x4_1
   replace p4 := eq_true p4
   replace q4 := eq_true q4
   have p19 : 0 ≤ (x4_1 : Int) := od_
   have q19 : x4_1 < (a0.size : Int) := od_
   have hx19 := bt_at a0 x4_1
   replace p19 := eq_true p19
   replace q19 := eq_true q19
   go_wp2_with (first | ((with_reducible refine gate_dst (N := 32) rfl ?_); refine Kd.R_lit (Kd.int .u8) _ 5 ?hg (N := 32) ?hd (xs := ([92, bt a0 x4_1] : List Int)) (inner := [.int .u8 92, .int .u8 (bt a0 x4_1)]) (ok := fun _ => True) (okp := fun _ => True) ?hr ?hp (fun _ hk => hk) trivial (Below.refl _ _) (Nat.le_refl _) (by simp) ?_; (case hd => rfl); (case hg => rfl); (case hr => (go_simp; done)); (case hp => exact (Reps.one (show Kd.M (Kd.int .u8) _ _ _ 92 [.int .u8 92] from rfl) (Reps.one (show Kd.M (Kd.int .u8) _ _ _ (bt a0 x4_1) [.int .u8 (bt a0 x4_1)] from rfl) (Reps.none _ _)))); intro v327 w21 ho22 hb hg_ hnew_; clear hg_ hnew_; (rw [← Ny326.out] at ho22); have n0_ := A_ (Kd.R_elder' (rr_ HO_3.out) (Kd.R_base ho22) hb); have n1_ := A_ (Kd.R_lower (Kd.R_new' ho22 (Kd.R_lt (rr_ HO_3.out))) (below_size HB.out)); have n2_ := A_ (below_step HB.out hb); clear HO_3; clear HB; have HO_3 := n0_; have HO328 := n1_; have HB := n2_; clear n0_ n1_ n2_; clear hb ho22; obtain ⟨Ao24, co24, eo24⟩ := Kd.R_slice HO328.out; subst eo24) | ((with_reducible refine gate_builtin (b := .append) (xs := #[.tmp 28, .tmp 32]) rfl ?_); at_builtin; refine Kd.R_append_rows (Kd.int .u8) (w0 := w) w.heap.size rfl (.tmp 28) (.tmp 32) 72 5 (.int .u8 0) 1 rfl Tryz.underlying72 info5 rfl (by decide) (by omega) u3 x3_1 y326 _ _ _ (fun k_ => some k_ ≠ (.slice Ao24 y326.length co24 : Value).ownBlock) (fun _ => False) rfl rfl ?aO ?aR (fun _ _ h => h) (fun _ h => h.elim) ?aF ?aB ?aS ?aL ?_; (case aR => repeat (exact (Kd.R_reads' HO328.out).2.2)); (case aB => exact HB.out); (case aF => exact (fun k_ hk => Kd.fresh' (Kd.R_lt (rr_ HO328.out)) k_ hk)); (case aO => exact (by (with_reducible repeat (first | apply Kd.R_alloc | apply Kd.R_drewN | apply Kd.R_drew)); exact Kd.R_mono HO_3.out (fun _ hk => hk.2))); (case aS => exact (below_size HB.out)); (case aL => have := LMc20.out; omega); intro v330 w23 ho hb hg hat; rw [← Ny329.out] at ho; have n0_ := A_ (Kd.R_after (ok := (fun _ => True)) (rr_ HO328.out) hg hat); have n1_ := A_ (hb); have n2_ := A_ (ho); clear HO328; clear HB; clear HO_3; have HO328 := n0_; have HB := n1_; have HO331 := n2_; clear n0_ n1_ n2_; clear ho hb hg hat))
   go_roundg k1
   case measure => have := HK1.out; omega
   case rel => exact ⟨(y329), (wrap64 (x4_1 + 1)), (by rfl), H', ⟨by have := HK1.out; omega⟩, ⟨by (with_reducible repeat (first | apply Kd.R_alloc | apply Kd.R_drewN | apply Kd.R_drew)); exact Kd.R_mono HO331.out (fun _ hk => trivial)⟩, ⟨HB.out⟩⟩
end Go.Proofs.YtcikjeiebpmmcaaGreat.PMch
