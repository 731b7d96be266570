/- Pruned. -/
import Derived.Test.YtcikjeiebpmmcaaGreatQyPMchx0
namespace Go.Proofs.YtcikjeiebpmmcaaGreat.PMch
open Go.RowKit Go.Proofs.YtcikjeiebpmmcaaGreatW.PrintWords Go.Proofs.YtcikjeiebpmmcaaGreatW.PrintLast Go.Proofs.YtcikjeiebpmmcaaGreatW.PrintMore
attribute [local go_sem] max2_int max_two
set_option linter.unusedVariables false
set_option linter.unusedSimpArgs false
mutual
def r03_Sorted.l0 : Nat → List (S96) → List (S96) → Int → Option ((List (S96)))
 | 0, _, _, _ => none
 | k + 1, x0, x3, x4 => if x4 < (x0.length : Int) then (r03_Sorted.l1 k x0 x3 x4 0) else (some x3)
def r03_Sorted.l1 : Nat → List (S96) → List (S96) → Int → Int → Option ((List (S96)))
 | 0, _, _, _, _ => none
 | k + 1, x0, x3, x4, x5 => if x5 < (x3.length : Int) then (if 0 ≤ x5 then (if 0 ≤ x4 then (if x4 < (x0.length : Int) then (if (Op.bytesLess (((rd_T96 x3 x5).f0).toList) (((rd_T96 x0 x4).f0).toList)) = true then (r03_Sorted.l1 k x0 x3 x4 (wrap64 (x5 + 1))) else (if x5 ≤ (x3.length : Int) then ((some (x3.take (x5 : Int).toNat : List (S96))).bind fun y272 => (if ([] : List (S96)).length + y272.length < 4398046511104 then ((some (([] : List (S96)) ++ y272 : List (S96))).bind fun y276 => ((some (([(⟨(rd_T96 x0 x4).f0, (rd_T96 x0 x4).f1⟩ : S96)] : List (S96)) : List (S96))).bind fun y280 => (if y276.length + y280.length < 4398046511104 then ((some (y276 ++ y280 : List (S96))).bind fun y283 => ((some (x3.drop (x5 : Int).toNat : List (S96))).bind fun y286 => (if y283.length + y286.length < 4398046511104 then (r03_Sorted.l0 k x0 (y283 ++ y286) (wrap64 (x4 + 1))) else (none)))) else (none)))) else (none))) else (none))) else (none)) else (none)) else (none)) else (if 0 ≤ x5 then (if x5 ≤ (x3.length : Int) then ((some (x3.take (x5 : Int).toNat : List (S96))).bind fun y293 => (if ([] : List (S96)).length + y293.length < 4398046511104 then ((some (([] : List (S96)) ++ y293 : List (S96))).bind fun y297 => (if 0 ≤ x4 then (if x4 < (x0.length : Int) then ((some (([(⟨(rd_T96 x0 x4).f0, (rd_T96 x0 x4).f1⟩ : S96)] : List (S96)) : List (S96))).bind fun y301 => (if y297.length + y301.length < 4398046511104 then ((some (y297 ++ y301 : List (S96))).bind fun y304 => ((some (x3.drop (x5 : Int).toNat : List (S96))).bind fun y307 => (if y304.length + y307.length < 4398046511104 then (r03_Sorted.l0 k x0 (y304 ++ y307) (wrap64 (x4 + 1))) else (none)))) else (none))) else (none)) else (none))) else (none))) else (none)) else (none))
end
def r03_Sorted.f (k : Nat) (l0 : List (S96)) : Option ((List (S96))) := r03_Sorted.l0 k l0 ([] : List (S96)) 0
theorem r03_Sorted.mono_l : ∀ k, (∀ y0 y1 y2, LeO (r03_Sorted.l0 k y0 y1 y2) (r03_Sorted.l0 (k + 1) y0 y1 y2)) ∧ (∀ y0 y1 y2 y3, LeO (r03_Sorted.l1 k y0 y1 y2 y3) (r03_Sorted.l1 (k + 1) y0 y1 y2 y3))
 | 0 => ⟨fun _ _ _ r h => by simp [r03_Sorted.l0] at h, fun _ _ _ _ r h => by simp [r03_Sorted.l1] at h⟩
 | k + 1 => by
  obtain ⟨ih0, ih1⟩ := r03_Sorted.mono_l k
  refine ⟨?_, ?_⟩
  rotate_left
  ·intro y0 y1 y2 y3
   unfold r03_Sorted.l1
   repeat' first
   | (with_reducible first | exact ih0 _ _ _ | exact ih1 _ _ _ _ | exact LeO.refl _ | exact LeO.none _ | refine LeO.ite ?_ ?_ | refine LeO.bind ?_ (fun _ => ?_))
  intro y0 y1 y2
  unfold r03_Sorted.l0
  repeat' first
  | (with_reducible first | exact ih0 _ _ _ | exact ih1 _ _ _ _ | exact LeO.refl _ | exact LeO.none _ | refine LeO.ite ?_ ?_ | refine LeO.bind ?_ (fun _ => ?_))
theorem r03_Sorted.mono : ∀ a0 k, LeO (r03_Sorted.f k a0) (r03_Sorted.f (k + 1) a0) := by
 intro a0 k
 obtain ⟨ih0, ih1⟩ := r03_Sorted.mono_l k
 unfold r03_Sorted.f
 repeat' first
  | (with_reducible first | exact ih0 _ _ _ | exact ih1 _ _ _ _ | exact LeO.refl _ | exact LeO.none _ | refine LeO.ite ?_ ?_ | refine LeO.bind ?_ (fun _ => ?_))
def r03_Sorted.T6 : Bool × List (List Nat × List Nat) := (true, [([], []), ([], []), ([1], [1]), ([0, 2], [0, 2]), ([3], [3]), ([4], [4]), ([4], [4]), ([5, 6, 4], [4, 5, 6]), ([7, 4], [4, 7]), ([8, 4], [4, 8]), ([4], [4]), ([4], [4]), ([10, 11, 4], [4, 10, 11]), ([12, 4], [4, 12]), ([13, 4], [4, 13]), ([9, 14, 4], [4, 9, 14]), ([4, 15], [4, 15])])
def r03_Sorted.B6 : List Nat := [0, 0, 2, 7, 15, 31, 31, 127, 255, 511, 31, 31, 3103, 7199, 15391, 32767, 65535]
theorem r03_Sorted.tab6 : rtab .any (opsOf Tryz.f71 6) = r03_Sorted.T6 := by kernel_rfl
theorem r03_Sorted.bits6 : waitsOk r03_Sorted.T6.2 r03_Sorted.B6 = true := by kernel_rfl
def r03_Sorted.T8 : Bool × List (List Nat × List Nat) := (true, [([], []), ([], []), ([0, 1], [0, 1]), ([2], [2]), ([], []), ([], []), ([4, 5], [4, 5]), ([6], [6]), ([7], [7]), ([3, 8, 3], [3, 8]), ([], []), ([], []), ([10, 11], [10, 11]), ([9, 12, 9], [9, 12]), ([13, 13, 0, 1, 2, 3, 4, 5, 6, 7, 8, 9, 10, 11, 12, 13], [0, 10, 13])])
def r03_Sorted.B8 : List Nat := [0, 0, 3, 7, 0, 0, 48, 112, 240, 511, 0, 0, 3072, 8191, 16383]
theorem r03_Sorted.tab8 : rtab .any (opsOf Tryz.f71 8) = r03_Sorted.T8 := by kernel_rfl
theorem r03_Sorted.bits8 : waitsOk r03_Sorted.T8.2 r03_Sorted.B8 = true := by kernel_rfl
set_option maxHeartbeats 8000000 in
set_option maxRecDepth 100000 in
theorem r03_Sorted.calls (k : Nat) (A0 : Option Addr) (c0 : Nat) (l0 : List (S96)) (r : List (S96)) (w : World) (hr0 : Kd.C k96 w A0 l0.length l0) (hc0 : l0.length ≤ c0) (h : r03_Sorted.f k l0 = some r) :
 Calls Tryz.prog 71 #[.slice A0 l0.length c0] w fun e w' => ∃ v0_ : Value, e = .returned (v0_) ∧ Kd.R k96 96 w' w.heap.size (fun _ => True) v0_ r ∧ Below w.heap.size w w' := by
 have hu96 := Tryz.underlying96
 have HR0 := A_ hr0
 have HC0 := A_ hc0
 clear hr0 hc0
 have HB := A_ (Below.refl w.heap.size w)
 have H : (r03_Sorted.l0 k l0 ([] : List (S96)) 0) = some r := h
 clear h
 have H' := A_ H
 clear H
 go_enter Tryz.func71, Tryz.ntmps71
 go_wp2
 go_loopg [3, 4] k (fun kq v3 v4 w' => ∃ (x3_1 : List (S96)) (x4_1 : Int), v4 = .int .i64 x4_1 ∧ Aside0 (r03_Sorted.l0 kq l0 x3_1 x4_1 = some r) ∧ Aside0 (kq ≤ k) ∧ Aside0 (Kd.R k96 96 w' w.heap.size (fun _ => True) v3 x3_1) ∧ Aside0 (Below w.heap.size w w'))
 case atStart => exact ⟨(([] : List (S96))), (0), (by rfl), H', ⟨Nat.le_refl _⟩, ⟨by exact Kd.R_nil _ _ _ _ _⟩, ⟨HB.out⟩⟩
 case round =>
  clear H'
  obtain ⟨x3_1, x4_1, rfl, HA, HK1, HO_3, HB⟩ := hrel
  cases gk with
  | zero => exact absurd HA.out (by simp [r03_Sorted.l0])
  | succ k1 =>
   have H := HA.out
   clear HA
   simp only [r03_Sorted.l0] at H
   by_cases c2 : x4_1 < (l0.length : Int)
   rotate_left
   ·rw [if_neg c2] at H
    have c2b0 := decide_eq_false c2
    clear c2
    obtain rfl := Option.some.inj H
    go_wp2
    go_ret
    exact ⟨_, by rfl, rr_ HO_3.out, HB.out⟩
   rw [if_pos c2] at H
   have c2b0 := decide_eq_true c2
   clear c2
   have H' := A_ H
   clear H
   go_wp2
   go_loopg [5] k1 (fun kq v5 w' => ∃ (x5_2 : Int), v5 = .int .i64 x5_2 ∧ Aside0 (r03_Sorted.l1 kq l0 x3_1 x4_1 x5_2 = some r) ∧ Aside0 (kq ≤ k1) ∧ Aside0 (Kd.R k96 96 w' w.heap.size (fun _ => True) u3 x3_1) ∧ Aside0 (Below w.heap.size w w'))
   case atStart => exact ⟨(0), (by rfl), H', ⟨Nat.le_refl _⟩, ⟨rr_ HO_3.out⟩, ⟨HB.out⟩⟩
   case round =>
    clear H'
    try clear c2
    try clear c2b0
    try clear p2
    obtain ⟨x5_2, rfl, HA, HK2, HO_3, HB⟩ := hrel
    cases gk with
    | zero => exact absurd HA.out (by simp [r03_Sorted.l1])
    | succ k2 =>
     have H := HA.out
     clear HA
     simp only [r03_Sorted.l1] at H
     by_cases c3 : x5_2 < (x3_1.length : Int)
     rotate_left
     ·rw [if_neg c3] at H
      have c3b0 := decide_eq_false c3
      clear c3
      by_cases c29 : 0 ≤ x5_2
      rotate_left
      ·rw [if_neg c29] at H
       exact absurd H (by simp)
      rw [if_pos c29] at H
      have c29b0 := eq_true c29
      have c29b1 := decide_eq_true c29
      clear c29
      by_cases c30 : x5_2 ≤ (x3_1.length : Int)
      rotate_left
      ·rw [if_neg c30] at H
       exact absurd H (by simp)
      rw [if_pos c30] at H
      have c30b0 := eq_true c30
      have c30b1 := decide_eq_true c30
      clear c30
      obtain ⟨y293, hy293⟩ : ∃ y_ : List (S96), y_ = (x3_1.take (x5_2 : Int).toNat) := ⟨_, rfl⟩
      replace H : (if ([] : List (S96)).length + y293.length < 4398046511104 then ((some (([] : List (S96)) ++ y293 : List (S96))).bind fun y297 => (if 0 ≤ x4_1 then (if x4_1 < (l0.length : Int) then ((some (([(⟨(rd_T96 l0 x4_1).f0, (rd_T96 l0 x4_1).f1⟩ : S96)] : List (S96)) : List (S96))).bind fun y301 => (if y297.length + y301.length < 4398046511104 then ((some (y297 ++ y301 : List (S96))).bind fun y304 => ((some (x3_1.drop (x5_2 : Int).toNat : List (S96))).bind fun y307 => (if y304.length + y307.length < 4398046511104 then (r03_Sorted.l0 k2 l0 (y304 ++ y307) (wrap64 (x4_1 + 1))) else (none)))) else (none))) else (none)) else (none))) else (none)) = some r := by (have H2_ := (Option.bind_some _ _).symm.trans H; rw [hy293]; with_reducible exact H2_)
      have Ny293 := A_ hy293
      clear hy293
      by_cases c31 : ([] : List (S96)).length + y293.length < 4398046511104
      rotate_left
      ·rw [if_neg c31] at H
       exact absurd H (by simp)
      rw [if_pos c31] at H
      have LMc31 := A_ c31
      clear c31
      obtain ⟨y297, hy297⟩ : ∃ y_ : List (S96), y_ = (([] : List (S96)) ++ y293) := ⟨_, rfl⟩
      replace H : (if 0 ≤ x4_1 then (if x4_1 < (l0.length : Int) then ((some (([(⟨(rd_T96 l0 x4_1).f0, (rd_T96 l0 x4_1).f1⟩ : S96)] : List (S96)) : List (S96))).bind fun y301 => (if y297.length + y301.length < 4398046511104 then ((some (y297 ++ y301 : List (S96))).bind fun y304 => ((some (x3_1.drop (x5_2 : Int).toNat : List (S96))).bind fun y307 => (if y304.length + y307.length < 4398046511104 then (r03_Sorted.l0 k2 l0 (y304 ++ y307) (wrap64 (x4_1 + 1))) else (none)))) else (none))) else (none)) else (none)) = some r := by (have H2_ := (Option.bind_some _ _).symm.trans H; rw [hy297]; with_reducible exact H2_)
      have Ny297 := A_ hy297
      clear hy297
      by_cases c32 : 0 ≤ x4_1
      rotate_left
      ·rw [if_neg c32] at H
       exact absurd H (by simp)
      rw [if_pos c32] at H
      have c32b0 := decide_eq_true c32
      clear c32
      by_cases c33 : x4_1 < (l0.length : Int)
      rotate_left
      ·rw [if_neg c33] at H
       exact absurd H (by simp)
      rw [if_pos c33] at H
      have c33b0 := decide_eq_true c33
      clear c33
      obtain ⟨y301, hy301⟩ : ∃ y_ : List (S96), y_ = (([(⟨(rd_T96 l0 x4_1).f0, (rd_T96 l0 x4_1).f1⟩ : S96)] : List (S96))) := ⟨_, rfl⟩
      replace H : (if y297.length + y301.length < 4398046511104 then ((some (y297 ++ y301 : List (S96))).bind fun y304 => ((some (x3_1.drop (x5_2 : Int).toNat : List (S96))).bind fun y307 => (if y304.length + y307.length < 4398046511104 then (r03_Sorted.l0 k2 l0 (y304 ++ y307) (wrap64 (x4_1 + 1))) else (none)))) else (none)) = some r := by (have H2_ := (Option.bind_some _ _).symm.trans H; rw [hy301]; with_reducible exact H2_)
      have Ny301 := A_ hy301
      clear hy301
      by_cases c34 : y297.length + y301.length < 4398046511104
      rotate_left
      ·rw [if_neg c34] at H
       exact absurd H (by simp)
      rw [if_pos c34] at H
      have LMc34 := A_ c34
      clear c34
      obtain ⟨y304, hy304⟩ : ∃ y_ : List (S96), y_ = (y297 ++ y301) := ⟨_, rfl⟩
      replace H : ((some (x3_1.drop (x5_2 : Int).toNat : List (S96))).bind fun y307 => (if y304.length + y307.length < 4398046511104 then (r03_Sorted.l0 k2 l0 (y304 ++ y307) (wrap64 (x4_1 + 1))) else (none))) = some r := by (have H2_ := (Option.bind_some _ _).symm.trans H; rw [hy304]; with_reducible exact H2_)
      have Ny304 := A_ hy304
      clear hy304
      have c35b0 := eq_true (od_ : 0 ≤ x5_2)
      have c36b0 := eq_true (od_ : x5_2 ≤ (x3_1.length : Int))
      obtain ⟨y307, hy307⟩ : ∃ y_ : List (S96), y_ = (x3_1.drop (x5_2 : Int).toNat) := ⟨_, rfl⟩
      replace H : (if y304.length + y307.length < 4398046511104 then (r03_Sorted.l0 k2 l0 (y304 ++ y307) (wrap64 (x4_1 + 1))) else (none)) = some r := by (have H2_ := (Option.bind_some _ _).symm.trans H; rw [hy307]; with_reducible exact H2_)
      have Ny307 := A_ hy307
      clear hy307
      by_cases c37 : y304.length + y307.length < 4398046511104
      rotate_left
      ·rw [if_neg c37] at H
       exact absurd H (by simp)
      rw [if_pos c37] at H
      have LMc37 := A_ c37
      clear c37
      obtain ⟨y311, hy311⟩ : ∃ y_ : List (S96), y_ = (y304 ++ y307) := ⟨_, rfl⟩
      replace H : (r03_Sorted.l0 k2 l0 y311 (wrap64 (x4_1 + 1))) = some r := by (rw [hy311]; with_reducible exact H)
      have Ny311 := A_ hy311
      clear hy311
      have H' := A_ H
      clear H
      try go_wp2
      have n0_ := A_ (Kd.R_drew HO_3.out)
      have n1_ := A_ (below_drew1 HB.out)
      clear HO_3
      clear HB
      have HO_3 := n0_
      have HB := n1_
      clear n0_ n1_
      obtain ⟨Ao39, co39, eo39⟩ := Kd.R_slice HO_3.out
      (subst eo39)
      refine start_ (n := 17) (S := fun w' => True) (ds := []) #[F_,F_,F_,F_,F_,F_,F_,F_,F_,F_,F_,F_,F_,F_,F_,F_,F_] (by kernel_rfl) rfl rfl trivial (fun hHeld => ?_); refine with_tabW r03_Sorted.tab6 r03_Sorted.bits6 (fun HT_ HW_ => ?_)
      generalize wr.drew = w38 at HO_3 HB hHeld ⊢
      refine pu_ 0 (some 12) #[T_,F_,F_,F_,F_,F_,F_,F_,F_,F_,F_,F_,F_,F_,F_,F_,F_] HT_.out rfl rfl ?_
      refine pu_ 1 (some 13) #[T_,T_,F_,F_,F_,F_,F_,F_,F_,F_,F_,F_,F_,F_,F_,F_,F_] HT_.out rfl rfl ?_
      refine pu_ 2 (some 14) #[T_,T_,T_,F_,F_,F_,F_,F_,F_,F_,F_,F_,F_,F_,F_,F_,F_] HT_.out rfl rfl ?_
      refine pu_ 3 (some 15) #[T_,T_,T_,T_,F_,F_,F_,F_,F_,F_,F_,F_,F_,F_,F_,F_,F_] HT_.out rfl rfl ?_
      refine pu_ 4 (some 16) #[T_,T_,T_,T_,T_,F_,F_,F_,F_,F_,F_,F_,F_,F_,F_,F_,F_] HT_.out rfl rfl ?_
      refine pure_ (i := 5) (N := some 17) (v := undef) (a' := ?_) #[T_,T_,T_,T_,T_,T_,F_,F_,F_,F_,F_,F_,F_,F_,F_,F_,F_] rfl rfl (any_of HT_.out (by kernel_rfl)) (fun _ _ _ h => h) (Or.inr ⟨by rfl, rfl⟩) ?_ ?_
      rotate_left
      ·simp only [Act.put,s1_,s2_,s3_, i64_w, i32_w]
       rfl
      refine pure_ (i := 6) (N := some 18) (v := undef) (a' := ?_) #[T_,T_,T_,T_,T_,T_,T_,F_,F_,F_,F_,F_,F_,F_,F_,F_,F_] rfl rfl (any_of HT_.out (by kernel_rfl)) (fun _ _ _ h => h) (Or.inr ⟨by rfl, rfl⟩) ?_ ?_
      rotate_left
      ·simp only [Act.put,s1_,s2_,s3_, i64_w, i32_w]
       rfl
      refine pure_ (i := 7) (N := some 19) (v := undef) (a' := ?_) #[T_,T_,T_,T_,T_,T_,T_,T_,F_,F_,F_,F_,F_,F_,F_,F_,F_] rfl rfl (any_of HT_.out (by kernel_rfl)) (fun _ _ _ h => h) (Or.inr ⟨by rfl, rfl⟩) ?_ ?_
      rotate_left
      ·simp only [Act.put,s1_,s2_,s3_, i64_w, i32_w]
       rfl
      refine pure_ (i := 8) (N := some 20) (v := undef) (a' := ?_) #[T_,T_,T_,T_,T_,T_,T_,T_,T_,F_,F_,F_,F_,F_,F_,F_,F_] rfl rfl (any_of HT_.out (by kernel_rfl)) (fun _ _ _ h => h) (Or.inr ⟨by rfl, rfl⟩) ?_ ?_
      rotate_left
      ·simp only [Act.put,s1_,s2_,s3_, i64_w, i32_w]
       rfl
      refine pure_ (i := 9) (N := some 21) (v := undef) (a' := ?_) #[T_,T_,T_,T_,T_,T_,T_,T_,T_,T_,F_,F_,F_,F_,F_,F_,F_] rfl rfl (any_of HT_.out (by kernel_rfl)) (fun _ _ _ h => h) (Or.inr ⟨by rfl, rfl⟩) ?_ ?_
      rotate_left
      ·simp only [Act.put,s1_,s2_,s3_, i64_w, i32_w]
       rfl
      refine pure_ (i := 10) (N := some 22) (v := undef) (a' := ?_) #[T_,T_,T_,T_,T_,T_,T_,T_,T_,T_,T_,F_,F_,F_,F_,F_,F_] rfl rfl (any_of HT_.out (by kernel_rfl)) (fun _ _ _ h => h) (Or.inr ⟨by rfl, rfl⟩) ?_ ?_
      rotate_left
      ·simp only [Act.put,s1_,s2_,s3_, i64_w, i32_w]
       rfl
      refine pure_ (i := 11) (N := some 23) (v := undef) (a' := ?_) #[T_,T_,T_,T_,T_,T_,T_,T_,T_,T_,T_,T_,F_,F_,F_,F_,F_] rfl rfl (any_of HT_.out (by kernel_rfl)) (fun _ _ _ h => h) (Or.inr ⟨by rfl, rfl⟩) ?_ ?_
      rotate_left
      ·simp only [Act.put,s1_,s2_,s3_, i64_w, i32_w]
       rfl
      refine pure_ (i := 12) (N := some 24) (v := undef) (a' := ?_) #[T_,T_,T_,T_,T_,T_,T_,T_,T_,T_,T_,T_,T_,F_,F_,F_,F_] rfl rfl (any_of HT_.out (by kernel_rfl)) (fun _ _ _ h => h) (Or.inr ⟨by rfl, rfl⟩) ?_ ?_
      rotate_left
      ·simp only [Act.put,s1_,s2_,s3_, i64_w, i32_w]
       rfl
      refine pure_ (i := 13) (N := some 25) (v := undef) (a' := ?_) #[T_,T_,T_,T_,T_,T_,T_,T_,T_,T_,T_,T_,T_,T_,F_,F_,F_] rfl rfl (any_of HT_.out (by kernel_rfl)) (fun _ _ _ h => h) (Or.inr ⟨by rfl, rfl⟩) ?_ ?_
      rotate_left
      ·simp only [Act.put,s1_,s2_,s3_, i64_w, i32_w]
       rfl
      refine pure_ (i := 14) (N := some 26) (v := undef) (a' := ?_) #[T_,T_,T_,T_,T_,T_,T_,T_,T_,T_,T_,T_,T_,T_,T_,F_,F_] rfl rfl (any_of HT_.out (by kernel_rfl)) (fun _ _ _ h => h) (Or.inr ⟨by rfl, rfl⟩) ?_ ?_
      rotate_left
      ·simp only [Act.put,s1_,s2_,s3_, i64_w, i32_w]
       rfl
      refine pure_ (i := 15) (N := some 27) (v := undef) (a' := ?_) #[T_,T_,T_,T_,T_,T_,T_,T_,T_,T_,T_,T_,T_,T_,T_,T_,F_] rfl rfl (any_of HT_.out (by kernel_rfl)) (fun _ _ _ h => h) (Or.inr ⟨by rfl, rfl⟩) ?_ ?_
      rotate_left
      ·simp only [Act.put,s1_,s2_,s3_, i64_w, i32_w]
       rfl
      refine pu_ 16 (some 28) #[T_,T_,T_,T_,T_,T_,T_,T_,T_,T_,T_,T_,T_,T_,T_,T_,T_] HT_.out rfl rfl ?_
      refine done_ (done_of HT_.out (by kernel_rfl)) ?_
      try go_wp2
      have n0_ := A_ (Kd.R_drew HO_3.out)
      have n1_ := A_ (below_drew1 HB.out)
      clear HO_3
      clear HB
      have HO_3 := n0_
      have HB := n1_
      clear n0_ n1_
      have q41 : (x5_2 : Int) ≤ ((x3_1.length : Int) : Int) := od_
      obtain ⟨i041, hi041, _, hsz41, _⟩ := info_parts info96
      have hroom41 : x3_1.length ≤ co39 := (Kd.R_reads' HO_3.out).2.1
      have hC41 : Kd.C k96 _ Ao39 x3_1.length x3_1 := (Kd.R_reads' HO_3.out).2.2
      have hcut41 := cut_to (P := Tryz.prog) 44 96 .i64 Tryz.underlying44 hi041 Ao39 x3_1.length co39 x5_2 (od_) q41 hroom41
      have hr41 := Kd.C_take (m := (x5_2 : Int).toNat) hC41 (by omega)
      have hy41 : y293.length = (x5_2 : Int).toNat := (by rw [Ny293.out, List.length_take]; omega)
      rw [← Ny293.out] at hr41
      rw [← hy41] at hcut41
      have HR296 := A_ hr41
      have HC296 := A_ (show y293.length ≤ co39 from by omega)
      clear hr41 hC41 hroom41 hi041 hsz41
      have KY41 := A_ hy41
      clear hy41
      have KL41 := A_ (show (x5_2 : Int).toNat ≤ x3_1.length from by omega)
      replace q41 := eq_true q41
      have p300 : 0 ≤ (x4_1 : Int) := od_
      have q300 : x4_1 < (l0.length : Int) := od_
      obtain ⟨ad300, e300, hx300_0, hx300_1⟩ := at_T96 HR0.out x4_1 p300 q300
      have hw300_1 := hx300_1
      have hw300_0 := hx300_0
      cases e300
      replace hx300_0 := (HB.out.cell (World.block_lt_of_cell? w _ hx300_0)).trans hx300_0
      replace hx300_1 := (HB.out.cell (World.block_lt_of_cell? w _ hx300_1)).trans hx300_1
      replace p300 := eq_true p300
      replace q300 := eq_true q300
      have q42 : (x5_2 : Int) ≤ ((x3_1.length : Int) : Int) := od_
      obtain ⟨i042, hi042, _, hsz42, _⟩ := info_parts info96
      have hroom42 : x3_1.length ≤ co39 := (Kd.R_reads' HO_3.out).2.1
      have hC42 : Kd.C k96 _ Ao39 x3_1.length x3_1 := (Kd.R_reads' HO_3.out).2.2
      have q042 : (0 : Int) ≤ (x5_2 : Int) := od_
      have hcut42 := cut_from (P := Tryz.prog) 44 96 .i64 Tryz.underlying44 hi042 2 hsz42 Ao39 x3_1.length co39 x5_2 q042 q42
      have hr42 := Kd.C_drop (m := (x5_2 : Int).toNat) (c := co39) hC42 (by omega) hroom42
      obtain ⟨A42, hA42⟩ : ∃ Abd_, Abd_ = (if co39 = (x5_2 : Int).toNat then Ao39 else (Ao39 : Option Addr).map (·.add ((x5_2 : Int).toNat * 2))) := ⟨_, rfl⟩
      obtain ⟨c42, hc42⟩ : ∃ cbd_, cbd_ = co39 - (x5_2 : Int).toNat := ⟨_, rfl⟩
      have hy42 : y307.length = x3_1.length - (x5_2 : Int).toNat := (by rw [Ny307.out, List.length_drop] <;> omega)
      rw [show (x3_1).drop (x5_2 : Int).toNat = y307 from Ny307.out.symm] at hr42
      replace hr42 : Kd.C k96 _ A42 y307.length y307 := (by rw [hA42]; exact hr42)
      rw [← hy42, ← hA42, ← hc42] at hcut42
      have HR310 := A_ hr42
      have HC310 := A_ (show y307.length ≤ c42 from by rw [hy42, hc42]; exact Nat.sub_le_sub_right hroom42 _)
      clear hr42 hC42 hroom42 hi042 hsz42 hc42
      have KY42 := A_ hy42
      have KA42 := A_ hA42
      clear hy42 hA42
      have KL42 := A_ (show (x5_2 : Int).toNat ≤ x3_1.length from by omega)
      replace q42 := eq_true q42
      refine start_ (n := 15) (S := fun w' => w'.cell? (ad300.add ((x4_1).toNat * 2)) = some (.string ((rd_T96 l0 x4_1).f0)) ∧ w'.cell? ⟨(ad300.add ((x4_1).toNat * 2)).block, (ad300.add ((x4_1).toNat * 2)).off + 1, none⟩ = some (.string ((rd_T96 l0 x4_1).f1))) (ds := []) #[F_,F_,F_,F_,F_,F_,F_,F_,F_,F_,F_,F_,F_,F_,F_] (by kernel_rfl) rfl rfl ⟨((HB.out.cell (World.block_lt_of_cell? w _ hw300_0)).trans hw300_0), ((HB.out.cell (World.block_lt_of_cell? w _ hw300_1)).trans hw300_1)⟩ (fun hHeld => ?_); refine with_tabW r03_Sorted.tab8 r03_Sorted.bits8 (fun HT_ HW_ => ?_)
      generalize w38.drew = w40 at HO_3 HB HR296 HR310 hx300_0 hx300_1 hHeld ⊢
      refine pu_ 0 (some 31) #[T_,F_,F_,F_,F_,F_,F_,F_,F_,F_,F_,F_,F_,F_,F_] HT_.out rfl rfl ?_
      refine pu_ 1 (some 32) #[T_,T_,F_,F_,F_,F_,F_,F_,F_,F_,F_,F_,F_,F_,F_] HT_.out rfl rfl ?_
      refine pu_ 2 (some 33) #[T_,T_,T_,F_,F_,F_,F_,F_,F_,F_,F_,F_,F_,F_,F_] HT_.out rfl rfl ?_
      refine pu_ 4 (some 35) #[T_,T_,T_,F_,T_,F_,F_,F_,F_,F_,F_,F_,F_,F_,F_] HT_.out rfl rfl ?_
      refine pu_ 5 (some 36) #[T_,T_,T_,F_,T_,T_,F_,F_,F_,F_,F_,F_,F_,F_,F_] HT_.out rfl rfl ?_
      refine pu_ 6 (some 37) #[T_,T_,T_,F_,T_,T_,T_,F_,F_,F_,F_,F_,F_,F_,F_] HT_.out rfl rfl ?_
      refine pu_ 10 (some 41) #[T_,T_,T_,F_,T_,T_,T_,F_,F_,F_,T_,F_,F_,F_,F_] HT_.out rfl rfl ?_
      refine pu_ 11 (some 42) #[T_,T_,T_,F_,T_,T_,T_,F_,F_,F_,T_,T_,F_,F_,F_] HT_.out rfl rfl ?_
      refine pu_ 12 (some 43) #[T_,T_,T_,F_,T_,T_,T_,F_,F_,F_,T_,T_,T_,F_,F_] HT_.out rfl rfl ?_
      refine take_ (i := 7) (N := some 38) (v := ?_) (a' := ?_) #[T_,T_,T_,F_,T_,T_,T_,T_,F_,F_,T_,T_,T_,F_,F_] rfl rfl (take_ofW HT_.out HW_.out (by kernel_rfl)) (fun _ _ _ h => h) (Or.inl ⟨by rfl, ?_⟩) hHeld ?_ ?_
      rotate_left
      ·rintro w' ⟨s0, s1⟩
       go_simp
       with_reducible rfl
      rotate_left
      ·simp only [Act.put,s1_,s2_,s3_, i64_w, i32_w]
       rfl
      refine join_ (σ := Value × Value) 3 #[T_,T_,T_,T_,T_,T_,T_,T_,T_,F_,T_,T_,T_,F_,F_] (fun s_ => [(34, s_.1), (39, s_.2)]) (fun s_ w' => (w'.cell? (ad300.add ((x4_1).toNat * 2)) = some (.string ((rd_T96 l0 x4_1).f0)) ∧ w'.cell? ⟨(ad300.add ((x4_1).toNat * 2)).block, (ad300.add ((x4_1).toNat * 2)).off + 1, none⟩ = some (.string ((rd_T96 l0 x4_1).f1))) ∧ (Kd.R k96 96 w' w.heap.size (fun k_ => some k_ ≠ (s_.2 : Value).ownBlock ∧ some k_ ≠ (.slice Ao39 x3_1.length co39 : Value).ownBlock) s_.1 y297) ∧ (Kd.R k96 96 w' w.heap.size (fun k_ => some k_ ≠ (s_.1 : Value).ownBlock ∧ some k_ ≠ (.slice Ao39 x3_1.length co39 : Value).ownBlock) s_.2 y301) ∧ (Kd.R k96 96 w' w.heap.size (fun k_ => some k_ ≠ (s_.1 : Value).ownBlock ∧ some k_ ≠ (s_.2 : Value).ownBlock) (.slice Ao39 x3_1.length co39) x3_1) ∧ (Below w.heap.size w w')) ?_ ?_
      rotate_left
      ·intro hCont
       refine two_ (i := 3) (j := 8) (Ni := some 34) (Nj := some 39) #[T_,T_,T_,T_,T_,T_,T_,T_,F_,F_,T_,T_,T_,F_,F_] #[T_,T_,T_,F_,T_,T_,T_,T_,T_,F_,T_,T_,T_,F_,F_] rfl rfl rfl rfl (two_of HT_.out (by kernel_rfl)) (by decide) (by decide) (fun K hK => ?_) (fun K hK => ?_)
       rotate_left
       ·skip
        refine Kd.R_lit_step k96 _ 96 ?hg (N := 39) ?hd (xs := ([(⟨(rd_T96 l0 x4_1).f0, (rd_T96 l0 x4_1).f1⟩ : S96)] : List (S96))) (inner := [.string ((rd_T96 l0 x4_1).f0), .string ((rd_T96 l0 x4_1).f1)]) (ok := fun _ => True) (okp := fun _ => True) ?hr ?hp (fun _ hk => hk) trivial (Below.refl _ _) (Nat.le_refl _) (by simp) ?_; (case hd => rfl); (case hg => rfl); (case hr => (go_simp; done)); (case hp => exact (Reps.c2 (show Kd.M k96 _ _ _ (⟨(rd_T96 l0 x4_1).f0, (rd_T96 l0 x4_1).f1⟩ : S96) [.string ((rd_T96 l0 x4_1).f0), .string ((rd_T96 l0 x4_1).f1)] from (k96_mkM _ _ _ (⟨(rd_T96 l0 x4_1).f0, (rd_T96 l0 x4_1).f1⟩ : S96) )) (Reps.none _ _)))
        intro v302 w43 ho44 hb hg_ hnew_
        clear hg_ hnew_
        (rw [← Ny301.out] at ho44)
        have n0_ := A_ (Kd.R_elder' (rr_ HO_3.out) (Kd.R_base ho44) hb)
        have n1_ := A_ (Kd.R_lower (Kd.R_new' ho44 (Kd.R_lt (rr_ HO_3.out))) (below_size HB.out))
        have n2_ := A_ (Kd.C_below (by repeat ((with_reducible exact HR296.out))) hb)
        have n3_ := A_ (Kd.C_below (by repeat ((with_reducible exact HR310.out))) hb)
        have n4_ := A_ (below_step HB.out hb)
        clear HO_3
        clear HR296
        clear HR310
        clear HB
        have HO_3 := n0_
        have HO303 := n1_
        have HR296 := n2_
        have HR310 := n3_
        have HB := n4_
        clear n0_ n1_ n2_ n3_ n4_
        clear hb ho44
        refine hK.out _ _ ⟨((HB.out.cell (World.block_lt_of_cell? w _ hw300_0)).trans hw300_0), ((HB.out.cell (World.block_lt_of_cell? w _ hw300_1)).trans hw300_1)⟩ (fun hHeld => ?_)
        clear hK K
        refine norm_ (a' := ?_) ?_ ?_
        rotate_left
        ·show Act.put _ (some 39) _ = _
         simp only [Act.put,s1_,s2_,s3_, i64_w, i32_w]
         rfl
        refine one_ (i := 3) (N := some 34) #[T_,T_,T_,T_,T_,T_,T_,T_,T_,F_,T_,T_,T_,F_,F_] rfl rfl (one_of HT_.out (by kernel_rfl)) (by decide) (fun K hK => ?_)
        refine Kd.R_append_rows_step k96 (w0 := w) w.heap.size (by rfl) (.const (.slice none 0 0)) (.tmp 33) 44 96 (.agg #[(.string ⟨#[]⟩), (.string ⟨#[]⟩)]) 32 rfl Tryz.underlying44 info96 rfl (by decide) (by omega) (.slice none 0 0) ([] : List (S96)) y293 _ _ _ (fun k_ => some k_ ≠ (.slice Ao39 x3_1.length co39 : Value).ownBlock ∧ some k_ ≠ (v302 : Value).ownBlock) (fun _ => False) rfl rfl ?aO ?aR (fun _ _ h => h) (fun _ h => h.elim) ?aF ?aB ?aS ?aL ?_
        (case aR => repeat (exact (by repeat (exact HR296.out))))
        (case aB => exact HB.out)
        (case aF => exact (fun k_ hk => ⟨Kd.fresh' (Kd.R_lt (rr_ HO_3.out)) k_ hk, Kd.fresh' (Kd.R_lt (rr_ HO303.out)) k_ hk⟩))
        (case aO => exact ((Kd.R_nil _ _ _ _ (fun k_ => some k_ ≠ (.slice Ao39 x3_1.length co39 : Value).ownBlock ∧ some k_ ≠ (v302 : Value).ownBlock))))
        (case aS => exact (below_size HB.out))
        (case aL => have := LMc31.out; omega)
        intro v298 w45 ho hb hg hat
        rw [← Ny297.out] at ho
        have n0_ := A_ (Kd.R_after (Kd.R_apart_nil (rr_ HO_3.out)) hg hat)
        have n1_ := A_ (Kd.R_after (Kd.R_apart_nil (rr_ HO303.out)) hg hat)
        have n2_ := A_ (hb)
        have n3_ := A_ ((show Kd.C k96 w45 Ao39 y293.length y293 from by rw [Ny293.out]; exact Kd.C_take (m := (x5_2 : Int).toNat) ((Kd.R_reads' (Kd.R_after (Kd.R_apart_nil (rr_ HO_3.out)) hg hat)).2.2) KL41.out))
        have n4_ := A_ ((show Kd.C k96 w45 A42 y307.length y307 from by rw [Ny307.out, KA42.out]; exact Kd.C_drop (m := (x5_2 : Int).toNat) (c := co39) ((Kd.R_reads' (Kd.R_after (Kd.R_apart_nil (rr_ HO_3.out)) hg hat)).2.2) KL42.out ((Kd.R_reads' (Kd.R_after (Kd.R_apart_nil (rr_ HO_3.out)) hg hat)).2.1)))
        have n5_ := A_ (ho)
        clear HO_3
        clear HO303
        clear HB
        clear HR296
        clear HR310
        have HO_3 := n0_
        have HO303 := n1_
        have HB := n2_
        have HR296 := n3_
        have HR310 := n4_
        have HO299 := n5_
        clear n0_ n1_ n2_ n3_ n4_ n5_
        clear ho hb hg hat
        refine hK.out _ _ ⟨((HB.out.cell (World.block_lt_of_cell? w _ hw300_0)).trans hw300_0), ((HB.out.cell (World.block_lt_of_cell? w _ hw300_1)).trans hw300_1)⟩ (fun hHeld => ?_)
        clear hK K
        refine norm_ (a' := ?_) ?_ ?_
        rotate_left
        ·show Act.put _ (some 34) _ = _
         simp only [Act.put,s1_,s2_,s3_, i64_w, i32_w]
         rfl
        exact norm_ (by simp only [putAll, Act.put,s1_,s2_,s3_]) (hCont (v298, v302) _ ⟨hHeld, (by (with_reducible repeat (first | apply Kd.R_alloc | apply Kd.R_drewN | apply Kd.R_drew)); exact Kd.R_mono HO299.out (fun _ hk => ⟨hk.2, hk.1⟩)), (by (with_reducible repeat (first | apply Kd.R_alloc | apply Kd.R_drewN | apply Kd.R_drew)); exact Kd.R_mono HO303.out (fun _ hk => ⟨hk.2, hk.1.2⟩)), (by (with_reducible repeat (first | apply Kd.R_alloc | apply Kd.R_drewN | apply Kd.R_drew)); exact Kd.R_mono HO_3.out (fun _ hk => ⟨hk.2, hk.1.2⟩)), HB.out⟩)
       skip
       refine Kd.R_append_rows_step k96 (w0 := w) w.heap.size (by rfl) (.const (.slice none 0 0)) (.tmp 33) 44 96 (.agg #[(.string ⟨#[]⟩), (.string ⟨#[]⟩)]) 32 rfl Tryz.underlying44 info96 rfl (by decide) (by omega) (.slice none 0 0) ([] : List (S96)) y293 _ _ _ (fun k_ => some k_ ≠ (.slice Ao39 x3_1.length co39 : Value).ownBlock) (fun _ => False) rfl rfl ?aO ?aR (fun _ _ h => h) (fun _ h => h.elim) ?aF ?aB ?aS ?aL ?_
       (case aR => repeat (exact (by repeat (exact HR296.out))))
       (case aB => exact HB.out)
       (case aF => exact (fun k_ hk => Kd.fresh' (Kd.R_lt (rr_ HO_3.out)) k_ hk))
       (case aO => exact ((Kd.R_nil _ _ _ _ (fun k_ => some k_ ≠ (.slice Ao39 x3_1.length co39 : Value).ownBlock))))
       (case aS => exact (below_size HB.out))
       (case aL => have := LMc31.out; omega)
       intro v298 w43 ho hb hg hat
       rw [← Ny297.out] at ho
       have n0_ := A_ (Kd.R_after (Kd.R_apart_nil (rr_ HO_3.out)) hg hat)
       have n1_ := A_ (hb)
       have n2_ := A_ ((show Kd.C k96 w43 Ao39 y293.length y293 from by rw [Ny293.out]; exact Kd.C_take (m := (x5_2 : Int).toNat) ((Kd.R_reads' (Kd.R_after (Kd.R_apart_nil (rr_ HO_3.out)) hg hat)).2.2) KL41.out))
       have n3_ := A_ ((show Kd.C k96 w43 A42 y307.length y307 from by rw [Ny307.out, KA42.out]; exact Kd.C_drop (m := (x5_2 : Int).toNat) (c := co39) ((Kd.R_reads' (Kd.R_after (Kd.R_apart_nil (rr_ HO_3.out)) hg hat)).2.2) KL42.out ((Kd.R_reads' (Kd.R_after (Kd.R_apart_nil (rr_ HO_3.out)) hg hat)).2.1)))
       have n4_ := A_ (ho)
       clear HO_3
       clear HB
       clear HR296
       clear HR310
       have HO_3 := n0_
       have HB := n1_
       have HR296 := n2_
       have HR310 := n3_
       have HO299 := n4_
       clear n0_ n1_ n2_ n3_ n4_
       clear ho hb hg hat
       refine hK.out _ _ ⟨((HB.out.cell (World.block_lt_of_cell? w _ hw300_0)).trans hw300_0), ((HB.out.cell (World.block_lt_of_cell? w _ hw300_1)).trans hw300_1)⟩ (fun hHeld => ?_)
       clear hK K
       refine norm_ (a' := ?_) ?_ ?_
       rotate_left
       ·show Act.put _ (some 34) _ = _
        simp only [Act.put,s1_,s2_,s3_, i64_w, i32_w]
        rfl
       refine one_ (i := 8) (N := some 39) #[T_,T_,T_,T_,T_,T_,T_,T_,T_,F_,T_,T_,T_,F_,F_] rfl rfl (one_of HT_.out (by kernel_rfl)) (by decide) (fun K hK => ?_)
       refine Kd.R_lit_step k96 _ 96 ?hg (N := 39) ?hd (xs := ([(⟨(rd_T96 l0 x4_1).f0, (rd_T96 l0 x4_1).f1⟩ : S96)] : List (S96))) (inner := [.string ((rd_T96 l0 x4_1).f0), .string ((rd_T96 l0 x4_1).f1)]) (ok := fun _ => True) (okp := fun _ => True) ?hr ?hp (fun _ hk => hk) trivial (Below.refl _ _) (Nat.le_refl _) (by simp) ?_; (case hd => rfl); (case hg => rfl); (case hr => (go_simp; done)); (case hp => exact (Reps.c2 (show Kd.M k96 _ _ _ (⟨(rd_T96 l0 x4_1).f0, (rd_T96 l0 x4_1).f1⟩ : S96) [.string ((rd_T96 l0 x4_1).f0), .string ((rd_T96 l0 x4_1).f1)] from (k96_mkM _ _ _ (⟨(rd_T96 l0 x4_1).f0, (rd_T96 l0 x4_1).f1⟩ : S96) )) (Reps.none _ _)))
       intro v302 w44 ho45 hb hg_ hnew_
       clear hg_ hnew_
       (rw [← Ny301.out] at ho45)
       have n0_ := A_ (Kd.R_elder' (rr_ HO_3.out) (Kd.R_base ho45) hb)
       have n1_ := A_ (Kd.R_elder' (rr_ HO299.out) (Kd.R_base ho45) hb)
       have n2_ := A_ (Kd.R_lower (Kd.R_new' (Kd.R_new' ho45 (Kd.R_lt (rr_ HO_3.out))) (Kd.R_lt (rr_ HO299.out))) (below_size HB.out))
       have n3_ := A_ (Kd.C_below (by repeat ((with_reducible exact HR296.out))) hb)
       have n4_ := A_ (Kd.C_below (by repeat ((with_reducible exact HR310.out))) hb)
       have n5_ := A_ (below_step HB.out hb)
       clear HO_3
       clear HO299
       clear HR296
       clear HR310
       clear HB
       have HO_3 := n0_
       have HO299 := n1_
       have HO303 := n2_
       have HR296 := n3_
       have HR310 := n4_
       have HB := n5_
       clear n0_ n1_ n2_ n3_ n4_ n5_
       clear hb ho45
       refine hK.out _ _ ⟨((HB.out.cell (World.block_lt_of_cell? w _ hw300_0)).trans hw300_0), ((HB.out.cell (World.block_lt_of_cell? w _ hw300_1)).trans hw300_1)⟩ (fun hHeld => ?_)
       clear hK K
       refine norm_ (a' := ?_) ?_ ?_
       rotate_left
       ·show Act.put _ (some 39) _ = _
        simp only [Act.put,s1_,s2_,s3_, i64_w, i32_w]
        rfl
       exact norm_ (by simp only [putAll, Act.put,s1_,s2_,s3_]) (hCont (v298, v302) _ ⟨hHeld, (by (with_reducible repeat (first | apply Kd.R_alloc | apply Kd.R_drewN | apply Kd.R_drew)); exact Kd.R_mono HO299.out (fun _ hk => ⟨hk.2, hk.1⟩)), (by (with_reducible repeat (first | apply Kd.R_alloc | apply Kd.R_drewN | apply Kd.R_drew)); exact Kd.R_mono HO303.out (fun _ hk => ⟨hk.2, hk.1.2⟩)), (by (with_reducible repeat (first | apply Kd.R_alloc | apply Kd.R_drewN | apply Kd.R_drew)); exact Kd.R_mono HO_3.out (fun _ hk => ⟨hk.1.2, hk.2⟩)), HB.out⟩)
      rintro ⟨v298, v302⟩ w46 ⟨hS_, h0_, h1_, h2_, h3_⟩
      have n0_ : Aside0 (Kd.R k96 96 w46 w.heap.size (fun k_ => some k_ ≠ (v302 : Value).ownBlock ∧ some k_ ≠ (.slice Ao39 x3_1.length co39 : Value).ownBlock) v298 y297) := ⟨h0_⟩
      have n1_ : Aside0 (Kd.R k96 96 w46 w.heap.size (fun k_ => some k_ ≠ (v298 : Value).ownBlock ∧ some k_ ≠ (.slice Ao39 x3_1.length co39 : Value).ownBlock) v302 y301) := ⟨h1_⟩
      have n2_ : Aside0 (Kd.R k96 96 w46 w.heap.size (fun k_ => some k_ ≠ (v298 : Value).ownBlock ∧ some k_ ≠ (v302 : Value).ownBlock) (.slice Ao39 x3_1.length co39) x3_1) := ⟨h2_⟩
      have n3_ : Aside0 (Below w.heap.size w w46) := ⟨h3_⟩
      clear HO_3
      clear HB
      clear h0_ h1_ h2_ h3_
      have HO299 := n0_
      have HO303 := n1_
      have HO_3 := n2_
      have HB := n3_
      clear n0_ n1_ n2_ n3_
      have hHeld : w46.cell? (ad300.add ((x4_1).toNat * 2)) = some (.string ((rd_T96 l0 x4_1).f0)) ∧ w46.cell? ⟨(ad300.add ((x4_1).toNat * 2)).block, (ad300.add ((x4_1).toNat * 2)).off + 1, none⟩ = some (.string ((rd_T96 l0 x4_1).f1)) := hS_
      (try clear HR296)
      have HR296 := A_ (show Kd.C k96 w46 Ao39 y293.length y293 from by rw [Ny293.out]; exact Kd.C_take (m := (x5_2 : Int).toNat) ((Kd.R_reads' HO_3.out).2.2) KL41.out)
      (try clear HR310)
      have HR310 := A_ (show Kd.C k96 w46 A42 y307.length y307 from by rw [Ny307.out, KA42.out]; exact Kd.C_drop (m := (x5_2 : Int).toNat) (c := co39) ((Kd.R_reads' HO_3.out).2.2) KL42.out ((Kd.R_reads' HO_3.out).2.1))
      obtain ⟨Ao48, co48, eo48⟩ := Kd.R_slice HO303.out
      (subst eo48)
      refine norm_ (a' := ?_) ?_ ?_
      rotate_left
      ·simp only [putAll, Act.put,s1_,s2_,s3_]
       rfl
      refine one_ (i := 9) (N := some 40) #[T_,T_,T_,T_,T_,T_,T_,T_,T_,T_,T_,T_,T_,F_,F_] rfl rfl (one_of HT_.out (by kernel_rfl)) (by decide) (fun K hK => ?_)
      refine Kd.R_append_rows_step k96 (w0 := w) w.heap.size (by rfl) (.tmp 34) (.tmp 39) 44 96 (.agg #[(.string ⟨#[]⟩), (.string ⟨#[]⟩)]) 32 rfl Tryz.underlying44 info96 rfl (by decide) (by omega) v298 y297 y301 _ _ _ (fun k_ => some k_ ≠ (.slice Ao39 x3_1.length co39 : Value).ownBlock ∧ some k_ ≠ (.slice Ao48 y301.length co48 : Value).ownBlock) (fun _ => False) rfl rfl ?aO ?aR (fun _ _ h => h) (fun _ h => h.elim) ?aF ?aB ?aS ?aL ?_
      (case aR => repeat (exact (Kd.R_reads' HO303.out).2.2))
      (case aB => exact HB.out)
      (case aF => exact (fun k_ hk => ⟨Kd.fresh' (Kd.R_lt (rr_ HO_3.out)) k_ hk, Kd.fresh' (Kd.R_lt (rr_ HO303.out)) k_ hk⟩))
      (case aO => exact (by (with_reducible repeat (first | apply Kd.R_alloc | apply Kd.R_drewN | apply Kd.R_drew)); exact Kd.R_mono HO299.out (fun _ hk => ⟨hk.2, hk.1⟩)))
      (case aS => exact (below_size HB.out))
      (case aL => have := LMc34.out; omega)
      intro v305 w47 ho hb hg hat
      rw [← Ny304.out] at ho
      have n0_ := A_ (Kd.R_after (ok := (fun k_ => some k_ ≠ (.slice Ao48 y301.length co48 : Value).ownBlock)) (by (with_reducible repeat (first | apply Kd.R_alloc | apply Kd.R_drewN | apply Kd.R_drew)); exact Kd.R_mono HO_3.out (fun _ hk => ⟨hk.2, hk.1⟩)) hg hat)
      have n1_ := A_ (Kd.R_after (ok := (fun k_ => some k_ ≠ (.slice Ao39 x3_1.length co39 : Value).ownBlock)) (by (with_reducible repeat (first | apply Kd.R_alloc | apply Kd.R_drewN | apply Kd.R_drew)); exact Kd.R_mono HO303.out (fun _ hk => ⟨hk.2, hk.1⟩)) hg hat)
      have n2_ := A_ (hb)
      have n3_ := A_ ((show Kd.C k96 w47 Ao39 y293.length y293 from by rw [Ny293.out]; exact Kd.C_take (m := (x5_2 : Int).toNat) ((Kd.R_reads' (Kd.R_after (ok := (fun k_ => some k_ ≠ (.slice Ao48 y301.length co48 : Value).ownBlock)) (by (with_reducible repeat (first | apply Kd.R_alloc | apply Kd.R_drewN | apply Kd.R_drew)); exact Kd.R_mono HO_3.out (fun _ hk => ⟨hk.2, hk.1⟩)) hg hat)).2.2) KL41.out))
      have n4_ := A_ ((show Kd.C k96 w47 A42 y307.length y307 from by rw [Ny307.out, KA42.out]; exact Kd.C_drop (m := (x5_2 : Int).toNat) (c := co39) ((Kd.R_reads' (Kd.R_after (ok := (fun k_ => some k_ ≠ (.slice Ao48 y301.length co48 : Value).ownBlock)) (by (with_reducible repeat (first | apply Kd.R_alloc | apply Kd.R_drewN | apply Kd.R_drew)); exact Kd.R_mono HO_3.out (fun _ hk => ⟨hk.2, hk.1⟩)) hg hat)).2.2) KL42.out ((Kd.R_reads' (Kd.R_after (ok := (fun k_ => some k_ ≠ (.slice Ao48 y301.length co48 : Value).ownBlock)) (by (with_reducible repeat (first | apply Kd.R_alloc | apply Kd.R_drewN | apply Kd.R_drew)); exact Kd.R_mono HO_3.out (fun _ hk => ⟨hk.2, hk.1⟩)) hg hat)).2.1)))
      have n5_ := A_ (ho)
      clear HO_3
      clear HO303
      clear HB
      clear HR296
      clear HR310
      clear HO299
      have HO_3 := n0_
      have HO303 := n1_
      have HB := n2_
      have HR296 := n3_
      have HR310 := n4_
      have HO306 := n5_
      clear n0_ n1_ n2_ n3_ n4_ n5_
      clear ho hb hg hat
      refine hK.out _ _ ⟨((HB.out.cell (World.block_lt_of_cell? w _ hw300_0)).trans hw300_0), ((HB.out.cell (World.block_lt_of_cell? w _ hw300_1)).trans hw300_1)⟩ (fun hHeld => ?_)
      clear hK K
      refine norm_ (a' := ?_) ?_ ?_
      rotate_left
      ·show Act.put _ (some 40) _ = _
       simp only [Act.put,s1_,s2_,s3_, i64_w, i32_w]
       rfl
      refine one_ (i := 13) (N := some 44) #[T_,T_,T_,T_,T_,T_,T_,T_,T_,T_,T_,T_,T_,T_,F_] rfl rfl (one_of HT_.out (by kernel_rfl)) (by decide) (fun K hK => ?_)
      refine Kd.R_append_rows_step k96 (w0 := w) w.heap.size (by rfl) (.tmp 40) (.tmp 43) 44 96 (.agg #[(.string ⟨#[]⟩), (.string ⟨#[]⟩)]) 32 rfl Tryz.underlying44 info96 rfl (by decide) (by omega) v305 y304 y307 _ _ _ (fun k_ => some k_ ≠ (.slice Ao39 x3_1.length co39 : Value).ownBlock ∧ some k_ ≠ (.slice Ao48 y301.length co48 : Value).ownBlock) (fun _ => False) rfl rfl ?aO ?aR (fun _ _ h => h) (fun _ h => h.elim) ?aF ?aB ?aS ?aL ?_
      (case aR => repeat (exact (by repeat (exact HR310.out))))
      (case aB => exact HB.out)
      (case aF => exact (fun k_ hk => ⟨Kd.fresh' (Kd.R_lt (rr_ HO_3.out)) k_ hk, Kd.fresh' (Kd.R_lt (rr_ HO303.out)) k_ hk⟩))
      (case aO => exact (rr_ HO306.out))
      (case aS => exact (below_size HB.out))
      (case aL => have := LMc37.out; omega)
      intro v312 w49 ho hb hg hat
      rw [← Ny311.out] at ho
      have n0_ := A_ (Kd.R_after (ok := (fun k_ => some k_ ≠ (.slice Ao48 y301.length co48 : Value).ownBlock)) (rr_ HO_3.out) hg hat)
      have n1_ := A_ (Kd.R_after (ok := (fun k_ => some k_ ≠ (.slice Ao39 x3_1.length co39 : Value).ownBlock)) (rr_ HO303.out) hg hat)
      have n2_ := A_ (hb)
      have n3_ := A_ ((show Kd.C k96 w49 Ao39 y293.length y293 from by rw [Ny293.out]; exact Kd.C_take (m := (x5_2 : Int).toNat) ((Kd.R_reads' (Kd.R_after (ok := (fun k_ => some k_ ≠ (.slice Ao48 y301.length co48 : Value).ownBlock)) (rr_ HO_3.out) hg hat)).2.2) KL41.out))
      have n4_ := A_ ((show Kd.C k96 w49 A42 y307.length y307 from by rw [Ny307.out, KA42.out]; exact Kd.C_drop (m := (x5_2 : Int).toNat) (c := co39) ((Kd.R_reads' (Kd.R_after (ok := (fun k_ => some k_ ≠ (.slice Ao48 y301.length co48 : Value).ownBlock)) (rr_ HO_3.out) hg hat)).2.2) KL42.out ((Kd.R_reads' (Kd.R_after (ok := (fun k_ => some k_ ≠ (.slice Ao48 y301.length co48 : Value).ownBlock)) (rr_ HO_3.out) hg hat)).2.1)))
      have n5_ := A_ (ho)
      clear HO_3
      clear HO303
      clear HB
      clear HR296
      clear HR310
      clear HO306
      have HO_3 := n0_
      have HO303 := n1_
      have HB := n2_
      have HR296 := n3_
      have HR310 := n4_
      have HO313 := n5_
      clear n0_ n1_ n2_ n3_ n4_ n5_
      clear ho hb hg hat
      refine hK.out _ _ ⟨((HB.out.cell (World.block_lt_of_cell? w _ hw300_0)).trans hw300_0), ((HB.out.cell (World.block_lt_of_cell? w _ hw300_1)).trans hw300_1)⟩ (fun hHeld => ?_)
      clear hK K
      refine norm_ (a' := ?_) ?_ ?_
      rotate_left
      ·show Act.put _ (some 44) _ = _
       simp only [Act.put,s1_,s2_,s3_, i64_w, i32_w]
       rfl
      refine pu_ 14 (some 3) #[T_,T_,T_,T_,T_,T_,T_,T_,T_,T_,T_,T_,T_,T_,T_] HT_.out rfl rfl ?_
      refine done_ (done_of HT_.out (by kernel_rfl)) ?_
      try go_wp2
      go_roundg k2
      case measure => have := HK1.out; have := HK2.out; omega
      case rel => exact ⟨(y311), (wrap64 (x4_1 + 1)), (by rfl), H', ⟨by have := HK1.out; have := HK2.out; omega⟩, ⟨by (with_reducible repeat (first | apply Kd.R_alloc | apply Kd.R_drewN | apply Kd.R_drew)); exact Kd.R_mono HO313.out (fun _ hk => trivial)⟩, ⟨HB.out⟩⟩
     rw [if_pos c3] at H
     have c3b0 := decide_eq_true c3
     clear c3
     by_cases c4 : 0 ≤ x5_2
     rotate_left
     ·rw [if_neg c4] at H
      exact absurd H (by simp)
     rw [if_pos c4] at H
     have c4b0 := decide_eq_true c4
     clear c4
     by_cases c5 : 0 ≤ x4_1
     rotate_left
     ·rw [if_neg c5] at H
      exact absurd H (by simp)
     rw [if_pos c5] at H
     have c5b0 := decide_eq_true c5
     clear c5
     by_cases c6 : x4_1 < (l0.length : Int)
     rotate_left
     ·rw [if_neg c6] at H
      exact absurd H (by simp)
     rw [if_pos c6] at H
     have c6b0 := decide_eq_true c6
     clear c6
     by_cases c7 : (Op.bytesLess (((rd_T96 x3_1 x5_2).f0).toList) (((rd_T96 l0 x4_1).f0).toList)) = true
     ·rw [if_pos c7] at H
      have c7b0 : (Op.bytesLess (((rd_T96 x3_1 x5_2).f0).toList) (((rd_T96 l0 x4_1).f0).toList)) = true := c7
      clear c7
      have H' := A_ H
      clear H
      try go_wp2
      have n0_ := A_ (Kd.R_drew HO_3.out)
      have n1_ := A_ (below_drew1 HB.out)
      clear HO_3
      clear HB
      have HO_3 := n0_
      have HB := n1_
      clear n0_ n1_
      obtain ⟨Ao9, co9, eo9⟩ := Kd.R_slice HO_3.out
      (subst eo9)
      have p270 : 0 ≤ (x5_2 : Int) := od_
      have q270 : x5_2 < (x3_1.length : Int) := od_
      (try (obtain ⟨Ax270_, cx270_, ex270_⟩ := Kd.R_slice HO_3.out; subst ex270_))
      obtain ⟨ad270, e270, hx270_0, hx270_1⟩ := at_T96 (Kd.R_reads' HO_3.out).2.2 x5_2 p270 q270
      cases e270
      replace p270 := eq_true p270
      replace q270 := eq_true q270
      have p271 : 0 ≤ (x4_1 : Int) := od_
      have q271 : x4_1 < (l0.length : Int) := od_
      obtain ⟨ad271, e271, hx271_0, hx271_1⟩ := at_T96 HR0.out x4_1 p271 q271
      have hw271_1 := hx271_1
      have hw271_0 := hx271_0
      cases e271
      replace hx271_0 := (HB.out.cell (World.block_lt_of_cell? w _ hx271_0)).trans hx271_0
      replace hx271_1 := (HB.out.cell (World.block_lt_of_cell? w _ hx271_1)).trans hx271_1
      replace p271 := eq_true p271
      replace q271 := eq_true q271
      refine start_ (n := 17) (S := fun w' => w'.cell? (ad270.add ((x5_2).toNat * 2)) = some (.string ((rd_T96 x3_1 x5_2).f0)) ∧ w'.cell? ⟨(ad270.add ((x5_2).toNat * 2)).block, (ad270.add ((x5_2).toNat * 2)).off + 1, none⟩ = some (.string ((rd_T96 x3_1 x5_2).f1)) ∧ w'.cell? (ad271.add ((x4_1).toNat * 2)) = some (.string ((rd_T96 l0 x4_1).f0)) ∧ w'.cell? ⟨(ad271.add ((x4_1).toNat * 2)).block, (ad271.add ((x4_1).toNat * 2)).off + 1, none⟩ = some (.string ((rd_T96 l0 x4_1).f1))) (ds := []) #[F_,F_,F_,F_,F_,F_,F_,F_,F_,F_,F_,F_,F_,F_,F_,F_,F_] (by kernel_rfl) rfl rfl ⟨hx270_0, hx270_1, ((HB.out.cell (World.block_lt_of_cell? w _ hw271_0)).trans hw271_0), ((HB.out.cell (World.block_lt_of_cell? w _ hw271_1)).trans hw271_1)⟩ (fun hHeld => ?_); refine with_tabW r03_Sorted.tab6 r03_Sorted.bits6 (fun HT_ HW_ => ?_)
      generalize wr.drew = w8 at HO_3 HB hx270_0 hx270_1 hx271_0 hx271_1 hHeld ⊢
      refine pu_ 0 (some 12) #[T_,F_,F_,F_,F_,F_,F_,F_,F_,F_,F_,F_,F_,F_,F_,F_,F_] HT_.out rfl rfl ?_
      refine pu_ 1 (some 13) #[T_,T_,F_,F_,F_,F_,F_,F_,F_,F_,F_,F_,F_,F_,F_,F_,F_] HT_.out rfl rfl ?_
      refine pu_ 2 (some 14) #[T_,T_,T_,F_,F_,F_,F_,F_,F_,F_,F_,F_,F_,F_,F_,F_,F_] HT_.out rfl rfl ?_
      refine pu_ 3 (some 15) #[T_,T_,T_,T_,F_,F_,F_,F_,F_,F_,F_,F_,F_,F_,F_,F_,F_] HT_.out rfl rfl ?_
      refine pu_ 4 (some 16) #[T_,T_,T_,T_,T_,F_,F_,F_,F_,F_,F_,F_,F_,F_,F_,F_,F_] HT_.out rfl rfl ?_
      refine pu_ 5 (some 17) #[T_,T_,T_,T_,T_,T_,F_,F_,F_,F_,F_,F_,F_,F_,F_,F_,F_] HT_.out rfl rfl ?_
      refine pu_ 6 (some 18) #[T_,T_,T_,T_,T_,T_,T_,F_,F_,F_,F_,F_,F_,F_,F_,F_,F_] HT_.out rfl rfl ?_
      refine pu_ 7 (some 19) #[T_,T_,T_,T_,T_,T_,T_,T_,F_,F_,F_,F_,F_,F_,F_,F_,F_] HT_.out rfl rfl ?_
      refine pu_ 8 (some 20) #[T_,T_,T_,T_,T_,T_,T_,T_,T_,F_,F_,F_,F_,F_,F_,F_,F_] HT_.out rfl rfl ?_
      refine pu_ 10 (some 22) #[T_,T_,T_,T_,T_,T_,T_,T_,T_,F_,T_,F_,F_,F_,F_,F_,F_] HT_.out rfl rfl ?_
      refine pu_ 11 (some 23) #[T_,T_,T_,T_,T_,T_,T_,T_,T_,F_,T_,T_,F_,F_,F_,F_,F_] HT_.out rfl rfl ?_
      refine pu_ 12 (some 24) #[T_,T_,T_,T_,T_,T_,T_,T_,T_,F_,T_,T_,T_,F_,F_,F_,F_] HT_.out rfl rfl ?_
      refine pu_ 13 (some 25) #[T_,T_,T_,T_,T_,T_,T_,T_,T_,F_,T_,T_,T_,T_,F_,F_,F_] HT_.out rfl rfl ?_
      refine take_ (i := 9) (N := some 21) (v := ?_) (a' := ?_) #[T_,T_,T_,T_,T_,T_,T_,T_,T_,T_,T_,T_,T_,T_,F_,F_,F_] rfl rfl (take_ofW HT_.out HW_.out (by kernel_rfl)) (fun _ _ _ h => h) (Or.inl ⟨by rfl, ?_⟩) hHeld ?_ ?_
      rotate_left
      ·rintro w' ⟨s0, s1, s2, s3⟩
       go_simp
       with_reducible rfl
      rotate_left
      ·simp only [Act.put,s1_,s2_,s3_, i64_w, i32_w]
       rfl
      refine take_ (i := 14) (N := some 26) (v := ?_) (a' := ?_) #[T_,T_,T_,T_,T_,T_,T_,T_,T_,T_,T_,T_,T_,T_,T_,F_,F_] rfl rfl (take_ofW HT_.out HW_.out (by kernel_rfl)) (fun _ _ _ h => h) (Or.inl ⟨by rfl, ?_⟩) hHeld ?_ ?_
      rotate_left
      ·rintro w' ⟨s0, s1, s2, s3⟩
       go_simp
       with_reducible rfl
      rotate_left
      ·simp only [Act.put,s1_,s2_,s3_, i64_w, i32_w]
       rfl
      refine pu_ 15 (some 27) #[T_,T_,T_,T_,T_,T_,T_,T_,T_,T_,T_,T_,T_,T_,T_,T_,F_] HT_.out rfl rfl ?_
      refine pu_ 16 (some 28) #[T_,T_,T_,T_,T_,T_,T_,T_,T_,T_,T_,T_,T_,T_,T_,T_,T_] HT_.out rfl rfl ?_
      refine done_ (done_of HT_.out (by kernel_rfl)) ?_
      try go_wp2
      go_roundg k2
      case measure => have := HK1.out; have := HK2.out; omega
      case rel => exact ⟨(wrap64 (x5_2 + 1)), (by rfl), H', ⟨by have := HK1.out; have := HK2.out; omega⟩, ⟨rr_ HO_3.out⟩, ⟨HB.out⟩⟩
     rw [if_neg c7] at H
     have c7b0 : (Op.bytesLess (((rd_T96 x3_1 x5_2).f0).toList) (((rd_T96 l0 x4_1).f0).toList)) = false := by simpa using c7
     clear c7
     have c10b0 := eq_true (od_ : 0 ≤ x5_2)
     by_cases c11 : x5_2 ≤ (x3_1.length : Int)
     rotate_left
     ·rw [if_neg c11] at H
      exact absurd H (by simp)
     rw [if_pos c11] at H
     have c11b0 := eq_true c11
     have c11b1 := decide_eq_true c11
     clear c11
     obtain ⟨y272, hy272⟩ : ∃ y_ : List (S96), y_ = (x3_1.take (x5_2 : Int).toNat) := ⟨_, rfl⟩
     replace H : (if ([] : List (S96)).length + y272.length < 4398046511104 then ((some (([] : List (S96)) ++ y272 : List (S96))).bind fun y276 => ((some (([(⟨(rd_T96 l0 x4_1).f0, (rd_T96 l0 x4_1).f1⟩ : S96)] : List (S96)) : List (S96))).bind fun y280 => (if y276.length + y280.length < 4398046511104 then ((some (y276 ++ y280 : List (S96))).bind fun y283 => ((some (x3_1.drop (x5_2 : Int).toNat : List (S96))).bind fun y286 => (if y283.length + y286.length < 4398046511104 then (r03_Sorted.l0 k2 l0 (y283 ++ y286) (wrap64 (x4_1 + 1))) else (none)))) else (none)))) else (none)) = some r := by (have H2_ := (Option.bind_some _ _).symm.trans H; rw [hy272]; with_reducible exact H2_)
     have Ny272 := A_ hy272
     clear hy272
     by_cases c12 : ([] : List (S96)).length + y272.length < 4398046511104
     rotate_left
     ·rw [if_neg c12] at H
      exact absurd H (by simp)
     rw [if_pos c12] at H
     have LMc12 := A_ c12
     clear c12
     obtain ⟨y276, hy276⟩ : ∃ y_ : List (S96), y_ = (([] : List (S96)) ++ y272) := ⟨_, rfl⟩
     replace H : ((some (([(⟨(rd_T96 l0 x4_1).f0, (rd_T96 l0 x4_1).f1⟩ : S96)] : List (S96)) : List (S96))).bind fun y280 => (if y276.length + y280.length < 4398046511104 then ((some (y276 ++ y280 : List (S96))).bind fun y283 => ((some (x3_1.drop (x5_2 : Int).toNat : List (S96))).bind fun y286 => (if y283.length + y286.length < 4398046511104 then (r03_Sorted.l0 k2 l0 (y283 ++ y286) (wrap64 (x4_1 + 1))) else (none)))) else (none))) = some r := by (have H2_ := (Option.bind_some _ _).symm.trans H; rw [hy276]; with_reducible exact H2_)
     have Ny276 := A_ hy276
     clear hy276
     obtain ⟨y280, hy280⟩ : ∃ y_ : List (S96), y_ = (([(⟨(rd_T96 l0 x4_1).f0, (rd_T96 l0 x4_1).f1⟩ : S96)] : List (S96))) := ⟨_, rfl⟩
     replace H : (if y276.length + y280.length < 4398046511104 then ((some (y276 ++ y280 : List (S96))).bind fun y283 => ((some (x3_1.drop (x5_2 : Int).toNat : List (S96))).bind fun y286 => (if y283.length + y286.length < 4398046511104 then (r03_Sorted.l0 k2 l0 (y283 ++ y286) (wrap64 (x4_1 + 1))) else (none)))) else (none)) = some r := by (have H2_ := (Option.bind_some _ _).symm.trans H; rw [hy280]; with_reducible exact H2_)
     have Ny280 := A_ hy280
     clear hy280
     by_cases c13 : y276.length + y280.length < 4398046511104
     rotate_left
     ·rw [if_neg c13] at H
      exact absurd H (by simp)
     rw [if_pos c13] at H
     have LMc13 := A_ c13
     clear c13
     obtain ⟨y283, hy283⟩ : ∃ y_ : List (S96), y_ = (y276 ++ y280) := ⟨_, rfl⟩
     replace H : ((some (x3_1.drop (x5_2 : Int).toNat : List (S96))).bind fun y286 => (if y283.length + y286.length < 4398046511104 then (r03_Sorted.l0 k2 l0 (y283 ++ y286) (wrap64 (x4_1 + 1))) else (none))) = some r := by (have H2_ := (Option.bind_some _ _).symm.trans H; rw [hy283]; with_reducible exact H2_)
     have Ny283 := A_ hy283
     clear hy283
     have c14b0 := eq_true (od_ : 0 ≤ x5_2)
     have c15b0 := eq_true (od_ : x5_2 ≤ (x3_1.length : Int))
     obtain ⟨y286, hy286⟩ : ∃ y_ : List (S96), y_ = (x3_1.drop (x5_2 : Int).toNat) := ⟨_, rfl⟩
     replace H : (if y283.length + y286.length < 4398046511104 then (r03_Sorted.l0 k2 l0 (y283 ++ y286) (wrap64 (x4_1 + 1))) else (none)) = some r := by (have H2_ := (Option.bind_some _ _).symm.trans H; rw [hy286]; with_reducible exact H2_)
     have Ny286 := A_ hy286
     clear hy286
     by_cases c16 : y283.length + y286.length < 4398046511104
     rotate_left
     ·rw [if_neg c16] at H
      exact absurd H (by simp)
     rw [if_pos c16] at H
     have LMc16 := A_ c16
     clear c16
     obtain ⟨y290, hy290⟩ : ∃ y_ : List (S96), y_ = (y283 ++ y286) := ⟨_, rfl⟩
     replace H : (r03_Sorted.l0 k2 l0 y290 (wrap64 (x4_1 + 1))) = some r := by (rw [hy290]; with_reducible exact H)
     have Ny290 := A_ hy290
     clear hy290
     have H' := A_ H
     clear H
     try go_wp2
     have n0_ := A_ (Kd.R_drew HO_3.out)
     have n1_ := A_ (below_drew1 HB.out)
     clear HO_3
     clear HB
     have HO_3 := n0_
     have HB := n1_
     clear n0_ n1_
     obtain ⟨Ao18, co18, eo18⟩ := Kd.R_slice HO_3.out
     (subst eo18)
     have p270 : 0 ≤ (x5_2 : Int) := od_
     have q270 : x5_2 < (x3_1.length : Int) := od_
     (try (obtain ⟨Ax270_, cx270_, ex270_⟩ := Kd.R_slice HO_3.out; subst ex270_))
     obtain ⟨ad270, e270, hx270_0, hx270_1⟩ := at_T96 (Kd.R_reads' HO_3.out).2.2 x5_2 p270 q270
     cases e270
     replace p270 := eq_true p270
     replace q270 := eq_true q270
     have p271 : 0 ≤ (x4_1 : Int) := od_
     have q271 : x4_1 < (l0.length : Int) := od_
     obtain ⟨ad271, e271, hx271_0, hx271_1⟩ := at_T96 HR0.out x4_1 p271 q271
     have hw271_1 := hx271_1
     have hw271_0 := hx271_0
     cases e271
     replace hx271_0 := (HB.out.cell (World.block_lt_of_cell? w _ hx271_0)).trans hx271_0
     replace hx271_1 := (HB.out.cell (World.block_lt_of_cell? w _ hx271_1)).trans hx271_1
     replace p271 := eq_true p271
     replace q271 := eq_true q271
     refine start_ (n := 17) (S := fun w' => w'.cell? (ad270.add ((x5_2).toNat * 2)) = some (.string ((rd_T96 x3_1 x5_2).f0)) ∧ w'.cell? ⟨(ad270.add ((x5_2).toNat * 2)).block, (ad270.add ((x5_2).toNat * 2)).off + 1, none⟩ = some (.string ((rd_T96 x3_1 x5_2).f1)) ∧ w'.cell? (ad271.add ((x4_1).toNat * 2)) = some (.string ((rd_T96 l0 x4_1).f0)) ∧ w'.cell? ⟨(ad271.add ((x4_1).toNat * 2)).block, (ad271.add ((x4_1).toNat * 2)).off + 1, none⟩ = some (.string ((rd_T96 l0 x4_1).f1))) (ds := []) #[F_,F_,F_,F_,F_,F_,F_,F_,F_,F_,F_,F_,F_,F_,F_,F_,F_] (by kernel_rfl) rfl rfl ⟨hx270_0, hx270_1, ((HB.out.cell (World.block_lt_of_cell? w _ hw271_0)).trans hw271_0), ((HB.out.cell (World.block_lt_of_cell? w _ hw271_1)).trans hw271_1)⟩ (fun hHeld => ?_); refine with_tabW r03_Sorted.tab6 r03_Sorted.bits6 (fun HT_ HW_ => ?_)
     generalize wr.drew = w17 at HO_3 HB hx270_0 hx270_1 hx271_0 hx271_1 hHeld ⊢
     refine pu_ 0 (some 12) #[T_,F_,F_,F_,F_,F_,F_,F_,F_,F_,F_,F_,F_,F_,F_,F_,F_] HT_.out rfl rfl ?_
     refine pu_ 1 (some 13) #[T_,T_,F_,F_,F_,F_,F_,F_,F_,F_,F_,F_,F_,F_,F_,F_,F_] HT_.out rfl rfl ?_
     refine pu_ 2 (some 14) #[T_,T_,T_,F_,F_,F_,F_,F_,F_,F_,F_,F_,F_,F_,F_,F_,F_] HT_.out rfl rfl ?_
     refine pu_ 3 (some 15) #[T_,T_,T_,T_,F_,F_,F_,F_,F_,F_,F_,F_,F_,F_,F_,F_,F_] HT_.out rfl rfl ?_
     refine pu_ 4 (some 16) #[T_,T_,T_,T_,T_,F_,F_,F_,F_,F_,F_,F_,F_,F_,F_,F_,F_] HT_.out rfl rfl ?_
     refine pu_ 5 (some 17) #[T_,T_,T_,T_,T_,T_,F_,F_,F_,F_,F_,F_,F_,F_,F_,F_,F_] HT_.out rfl rfl ?_
     refine pu_ 6 (some 18) #[T_,T_,T_,T_,T_,T_,T_,F_,F_,F_,F_,F_,F_,F_,F_,F_,F_] HT_.out rfl rfl ?_
     refine pu_ 7 (some 19) #[T_,T_,T_,T_,T_,T_,T_,T_,F_,F_,F_,F_,F_,F_,F_,F_,F_] HT_.out rfl rfl ?_
     refine pu_ 8 (some 20) #[T_,T_,T_,T_,T_,T_,T_,T_,T_,F_,F_,F_,F_,F_,F_,F_,F_] HT_.out rfl rfl ?_
     refine pu_ 10 (some 22) #[T_,T_,T_,T_,T_,T_,T_,T_,T_,F_,T_,F_,F_,F_,F_,F_,F_] HT_.out rfl rfl ?_
     refine pu_ 11 (some 23) #[T_,T_,T_,T_,T_,T_,T_,T_,T_,F_,T_,T_,F_,F_,F_,F_,F_] HT_.out rfl rfl ?_
     refine pu_ 12 (some 24) #[T_,T_,T_,T_,T_,T_,T_,T_,T_,F_,T_,T_,T_,F_,F_,F_,F_] HT_.out rfl rfl ?_
     refine pu_ 13 (some 25) #[T_,T_,T_,T_,T_,T_,T_,T_,T_,F_,T_,T_,T_,T_,F_,F_,F_] HT_.out rfl rfl ?_
     refine take_ (i := 9) (N := some 21) (v := ?_) (a' := ?_) #[T_,T_,T_,T_,T_,T_,T_,T_,T_,T_,T_,T_,T_,T_,F_,F_,F_] rfl rfl (take_ofW HT_.out HW_.out (by kernel_rfl)) (fun _ _ _ h => h) (Or.inl ⟨by rfl, ?_⟩) hHeld ?_ ?_
     rotate_left
     ·rintro w' ⟨s0, s1, s2, s3⟩
      go_simp
      with_reducible rfl
     rotate_left
     ·simp only [Act.put,s1_,s2_,s3_, i64_w, i32_w]
      rfl
     refine take_ (i := 14) (N := some 26) (v := ?_) (a' := ?_) #[T_,T_,T_,T_,T_,T_,T_,T_,T_,T_,T_,T_,T_,T_,T_,F_,F_] rfl rfl (take_ofW HT_.out HW_.out (by kernel_rfl)) (fun _ _ _ h => h) (Or.inl ⟨by rfl, ?_⟩) hHeld ?_ ?_
     rotate_left
     ·rintro w' ⟨s0, s1, s2, s3⟩
      go_simp
      with_reducible rfl
     rotate_left
     ·simp only [Act.put,s1_,s2_,s3_, i64_w, i32_w]
      rfl
     refine pu_ 15 (some 27) #[T_,T_,T_,T_,T_,T_,T_,T_,T_,T_,T_,T_,T_,T_,T_,T_,F_] HT_.out rfl rfl ?_
     refine pu_ 16 (some 28) #[T_,T_,T_,T_,T_,T_,T_,T_,T_,T_,T_,T_,T_,T_,T_,T_,T_] HT_.out rfl rfl ?_
     refine done_ (done_of HT_.out (by kernel_rfl)) ?_
     try go_wp2
     have n0_ := A_ (Kd.R_drew HO_3.out)
     have n1_ := A_ (below_drew1 HB.out)
     clear HO_3
     clear HB
     have HO_3 := n0_
     have HB := n1_
     clear n0_ n1_
     have q20 : (x5_2 : Int) ≤ ((x3_1.length : Int) : Int) := od_
     obtain ⟨i020, hi020, _, hsz20, _⟩ := info_parts info96
     have hroom20 : x3_1.length ≤ co18 := (Kd.R_reads' HO_3.out).2.1
     have hC20 : Kd.C k96 _ (some ad270) x3_1.length x3_1 := (Kd.R_reads' HO_3.out).2.2
     have hcut20 := cut_to (P := Tryz.prog) 44 96 .i64 Tryz.underlying44 hi020 (some ad270) x3_1.length co18 x5_2 (od_) q20 hroom20
     have hr20 := Kd.C_take (m := (x5_2 : Int).toNat) hC20 (by omega)
     have hy20 : y272.length = (x5_2 : Int).toNat := (by rw [Ny272.out, List.length_take]; omega)
     rw [← Ny272.out] at hr20
     rw [← hy20] at hcut20
     have HR275 := A_ hr20
     have HC275 := A_ (show y272.length ≤ co18 from by omega)
     clear hr20 hC20 hroom20 hi020 hsz20
     have KY20 := A_ hy20
     clear hy20
     have KL20 := A_ (show (x5_2 : Int).toNat ≤ x3_1.length from by omega)
     replace q20 := eq_true q20
     have p279 : 0 ≤ (x4_1 : Int) := od_
     have q279 : x4_1 < (l0.length : Int) := od_
     obtain ⟨ad279, e279, hx279_0, hx279_1⟩ := at_T96 HR0.out x4_1 p279 q279
     have hw279_1 := hx279_1
     have hw279_0 := hx279_0
     obtain rfl : ad271 = ad279 := (by injection e279)
     replace hx279_0 := (HB.out.cell (World.block_lt_of_cell? w _ hx279_0)).trans hx279_0
     replace hx279_1 := (HB.out.cell (World.block_lt_of_cell? w _ hx279_1)).trans hx279_1
     replace p279 := eq_true p279
     replace q279 := eq_true q279
     have q21 : (x5_2 : Int) ≤ ((x3_1.length : Int) : Int) := od_
     obtain ⟨i021, hi021, _, hsz21, _⟩ := info_parts info96
     have hroom21 : x3_1.length ≤ co18 := (Kd.R_reads' HO_3.out).2.1
     have hC21 : Kd.C k96 _ (some ad270) x3_1.length x3_1 := (Kd.R_reads' HO_3.out).2.2
     have q021 : (0 : Int) ≤ (x5_2 : Int) := od_
     have hcut21 := cut_from (P := Tryz.prog) 44 96 .i64 Tryz.underlying44 hi021 2 hsz21 (some ad270) x3_1.length co18 x5_2 q021 q21
     have hr21 := Kd.C_drop (m := (x5_2 : Int).toNat) (c := co18) hC21 (by omega) hroom21
     obtain ⟨A21, hA21⟩ : ∃ Abd_, Abd_ = (if co18 = (x5_2 : Int).toNat then (some ad270) else ((some ad270) : Option Addr).map (·.add ((x5_2 : Int).toNat * 2))) := ⟨_, rfl⟩
     obtain ⟨c21, hc21⟩ : ∃ cbd_, cbd_ = co18 - (x5_2 : Int).toNat := ⟨_, rfl⟩
     have hy21 : y286.length = x3_1.length - (x5_2 : Int).toNat := (by rw [Ny286.out, List.length_drop] <;> omega)
     rw [show (x3_1).drop (x5_2 : Int).toNat = y286 from Ny286.out.symm] at hr21
     replace hr21 : Kd.C k96 _ A21 y286.length y286 := (by rw [hA21]; exact hr21)
     rw [← hy21, ← hA21, ← hc21] at hcut21
     have HR289 := A_ hr21
     have HC289 := A_ (show y286.length ≤ c21 from by rw [hy21, hc21]; exact Nat.sub_le_sub_right hroom21 _)
     clear hr21 hC21 hroom21 hi021 hsz21 hc21
     have KY21 := A_ hy21
     have KA21 := A_ hA21
     clear hy21 hA21
     have KL21 := A_ (show (x5_2 : Int).toNat ≤ x3_1.length from by omega)
     replace q21 := eq_true q21
     refine start_ (n := 15) (S := fun w' => w'.cell? (ad271.add ((x4_1).toNat * 2)) = some (.string ((rd_T96 l0 x4_1).f0)) ∧ w'.cell? ⟨(ad271.add ((x4_1).toNat * 2)).block, (ad271.add ((x4_1).toNat * 2)).off + 1, none⟩ = some (.string ((rd_T96 l0 x4_1).f1))) (ds := []) #[F_,F_,F_,F_,F_,F_,F_,F_,F_,F_,F_,F_,F_,F_,F_] (by kernel_rfl) rfl rfl ⟨((HB.out.cell (World.block_lt_of_cell? w _ hw279_0)).trans hw279_0), ((HB.out.cell (World.block_lt_of_cell? w _ hw279_1)).trans hw279_1)⟩ (fun hHeld => ?_); refine with_tabW r03_Sorted.tab8 r03_Sorted.bits8 (fun HT_ HW_ => ?_)
     generalize w17.drew = w19 at HO_3 HB HR275 HR289 hx279_0 hx279_1 hHeld ⊢
     refine pu_ 0 (some 31) #[T_,F_,F_,F_,F_,F_,F_,F_,F_,F_,F_,F_,F_,F_,F_] HT_.out rfl rfl ?_
     refine pu_ 1 (some 32) #[T_,T_,F_,F_,F_,F_,F_,F_,F_,F_,F_,F_,F_,F_,F_] HT_.out rfl rfl ?_
     refine pu_ 2 (some 33) #[T_,T_,T_,F_,F_,F_,F_,F_,F_,F_,F_,F_,F_,F_,F_] HT_.out rfl rfl ?_
     refine pu_ 4 (some 35) #[T_,T_,T_,F_,T_,F_,F_,F_,F_,F_,F_,F_,F_,F_,F_] HT_.out rfl rfl ?_
     refine pu_ 5 (some 36) #[T_,T_,T_,F_,T_,T_,F_,F_,F_,F_,F_,F_,F_,F_,F_] HT_.out rfl rfl ?_
     refine pu_ 6 (some 37) #[T_,T_,T_,F_,T_,T_,T_,F_,F_,F_,F_,F_,F_,F_,F_] HT_.out rfl rfl ?_
     refine pu_ 10 (some 41) #[T_,T_,T_,F_,T_,T_,T_,F_,F_,F_,T_,F_,F_,F_,F_] HT_.out rfl rfl ?_
     refine pu_ 11 (some 42) #[T_,T_,T_,F_,T_,T_,T_,F_,F_,F_,T_,T_,F_,F_,F_] HT_.out rfl rfl ?_
     refine pu_ 12 (some 43) #[T_,T_,T_,F_,T_,T_,T_,F_,F_,F_,T_,T_,T_,F_,F_] HT_.out rfl rfl ?_
     refine take_ (i := 7) (N := some 38) (v := ?_) (a' := ?_) #[T_,T_,T_,F_,T_,T_,T_,T_,F_,F_,T_,T_,T_,F_,F_] rfl rfl (take_ofW HT_.out HW_.out (by kernel_rfl)) (fun _ _ _ h => h) (Or.inl ⟨by rfl, ?_⟩) hHeld ?_ ?_
     rotate_left
     ·rintro w' ⟨s0, s1⟩
      go_simp
      with_reducible rfl
     rotate_left
     ·simp only [Act.put,s1_,s2_,s3_, i64_w, i32_w]
      rfl
     refine join_ (σ := Value × Value) 3 #[T_,T_,T_,T_,T_,T_,T_,T_,T_,F_,T_,T_,T_,F_,F_] (fun s_ => [(34, s_.1), (39, s_.2)]) (fun s_ w' => (w'.cell? (ad271.add ((x4_1).toNat * 2)) = some (.string ((rd_T96 l0 x4_1).f0)) ∧ w'.cell? ⟨(ad271.add ((x4_1).toNat * 2)).block, (ad271.add ((x4_1).toNat * 2)).off + 1, none⟩ = some (.string ((rd_T96 l0 x4_1).f1))) ∧ (Kd.R k96 96 w' w.heap.size (fun k_ => some k_ ≠ (s_.2 : Value).ownBlock ∧ some k_ ≠ (.slice (some ad270) x3_1.length co18 : Value).ownBlock) s_.1 y276) ∧ (Kd.R k96 96 w' w.heap.size (fun k_ => some k_ ≠ (s_.1 : Value).ownBlock ∧ some k_ ≠ (.slice (some ad270) x3_1.length co18 : Value).ownBlock) s_.2 y280) ∧ (Kd.R k96 96 w' w.heap.size (fun k_ => some k_ ≠ (s_.1 : Value).ownBlock ∧ some k_ ≠ (s_.2 : Value).ownBlock) (.slice (some ad270) x3_1.length co18) x3_1) ∧ (Below w.heap.size w w')) ?_ ?_
     rotate_left
     ·intro hCont
      refine two_ (i := 3) (j := 8) (Ni := some 34) (Nj := some 39) #[T_,T_,T_,T_,T_,T_,T_,T_,F_,F_,T_,T_,T_,F_,F_] #[T_,T_,T_,F_,T_,T_,T_,T_,T_,F_,T_,T_,T_,F_,F_] rfl rfl rfl rfl (two_of HT_.out (by kernel_rfl)) (by decide) (by decide) (fun K hK => ?_) (fun K hK => ?_)
      rotate_left
      ·skip
       refine Kd.R_lit_step k96 _ 96 ?hg (N := 39) ?hd (xs := ([(⟨(rd_T96 l0 x4_1).f0, (rd_T96 l0 x4_1).f1⟩ : S96)] : List (S96))) (inner := [.string ((rd_T96 l0 x4_1).f0), .string ((rd_T96 l0 x4_1).f1)]) (ok := fun _ => True) (okp := fun _ => True) ?hr ?hp (fun _ hk => hk) trivial (Below.refl _ _) (Nat.le_refl _) (by simp) ?_; (case hd => rfl); (case hg => rfl); (case hr => (go_simp; done)); (case hp => exact (Reps.c2 (show Kd.M k96 _ _ _ (⟨(rd_T96 l0 x4_1).f0, (rd_T96 l0 x4_1).f1⟩ : S96) [.string ((rd_T96 l0 x4_1).f0), .string ((rd_T96 l0 x4_1).f1)] from (k96_mkM _ _ _ (⟨(rd_T96 l0 x4_1).f0, (rd_T96 l0 x4_1).f1⟩ : S96) )) (Reps.none _ _)))
       intro v281 w22 ho23 hb hg_ hnew_
       clear hg_ hnew_
       (rw [← Ny280.out] at ho23)
       have n0_ := A_ (Kd.R_elder' (rr_ HO_3.out) (Kd.R_base ho23) hb)
       have n1_ := A_ (Kd.R_lower (Kd.R_new' ho23 (Kd.R_lt (rr_ HO_3.out))) (below_size HB.out))
       have n2_ := A_ (Kd.C_below (by repeat ((with_reducible exact HR275.out))) hb)
       have n3_ := A_ (Kd.C_below (by repeat ((with_reducible exact HR289.out))) hb)
       have n4_ := A_ (below_step HB.out hb)
       clear HO_3
       clear HR275
       clear HR289
       clear HB
       have HO_3 := n0_
       have HO282 := n1_
       have HR275 := n2_
       have HR289 := n3_
       have HB := n4_
       clear n0_ n1_ n2_ n3_ n4_
       clear hb ho23
       refine hK.out _ _ ⟨((HB.out.cell (World.block_lt_of_cell? w _ hw279_0)).trans hw279_0), ((HB.out.cell (World.block_lt_of_cell? w _ hw279_1)).trans hw279_1)⟩ (fun hHeld => ?_)
       clear hK K
       refine norm_ (a' := ?_) ?_ ?_
       rotate_left
       ·show Act.put _ (some 39) _ = _
        simp only [Act.put,s1_,s2_,s3_, i64_w, i32_w]
        rfl
       refine one_ (i := 3) (N := some 34) #[T_,T_,T_,T_,T_,T_,T_,T_,T_,F_,T_,T_,T_,F_,F_] rfl rfl (one_of HT_.out (by kernel_rfl)) (by decide) (fun K hK => ?_)
       refine Kd.R_append_rows_step k96 (w0 := w) w.heap.size (by rfl) (.const (.slice none 0 0)) (.tmp 33) 44 96 (.agg #[(.string ⟨#[]⟩), (.string ⟨#[]⟩)]) 32 rfl Tryz.underlying44 info96 rfl (by decide) (by omega) (.slice none 0 0) ([] : List (S96)) y272 _ _ _ (fun k_ => some k_ ≠ (.slice (some ad270) x3_1.length co18 : Value).ownBlock ∧ some k_ ≠ (v281 : Value).ownBlock) (fun _ => False) rfl rfl ?aO ?aR (fun _ _ h => h) (fun _ h => h.elim) ?aF ?aB ?aS ?aL ?_
       (case aR => repeat (exact (by repeat (exact HR275.out))))
       (case aB => exact HB.out)
       (case aF => exact (fun k_ hk => ⟨Kd.fresh' (Kd.R_lt (rr_ HO_3.out)) k_ hk, Kd.fresh' (Kd.R_lt (rr_ HO282.out)) k_ hk⟩))
       (case aO => exact ((Kd.R_nil _ _ _ _ (fun k_ => some k_ ≠ (.slice (some ad270) x3_1.length co18 : Value).ownBlock ∧ some k_ ≠ (v281 : Value).ownBlock))))
       (case aS => exact (below_size HB.out))
       (case aL => have := LMc12.out; omega)
       intro v277 w24 ho hb hg hat
       rw [← Ny276.out] at ho
       have n0_ := A_ (Kd.R_after (Kd.R_apart_nil (rr_ HO_3.out)) hg hat)
       have n1_ := A_ (Kd.R_after (Kd.R_apart_nil (rr_ HO282.out)) hg hat)
       have n2_ := A_ (hb)
       have n3_ := A_ ((show Kd.C k96 w24 (some ad270) y272.length y272 from by rw [Ny272.out]; exact Kd.C_take (m := (x5_2 : Int).toNat) ((Kd.R_reads' (Kd.R_after (Kd.R_apart_nil (rr_ HO_3.out)) hg hat)).2.2) KL20.out))
       have n4_ := A_ ((show Kd.C k96 w24 A21 y286.length y286 from by rw [Ny286.out, KA21.out]; exact Kd.C_drop (m := (x5_2 : Int).toNat) (c := co18) ((Kd.R_reads' (Kd.R_after (Kd.R_apart_nil (rr_ HO_3.out)) hg hat)).2.2) KL21.out ((Kd.R_reads' (Kd.R_after (Kd.R_apart_nil (rr_ HO_3.out)) hg hat)).2.1)))
       have n5_ := A_ (ho)
       clear HO_3
       clear HO282
       clear HB
       clear HR275
       clear HR289
       have HO_3 := n0_
       have HO282 := n1_
       have HB := n2_
       have HR275 := n3_
       have HR289 := n4_
       have HO278 := n5_
       clear n0_ n1_ n2_ n3_ n4_ n5_
       clear ho hb hg hat
       refine hK.out _ _ ⟨((HB.out.cell (World.block_lt_of_cell? w _ hw279_0)).trans hw279_0), ((HB.out.cell (World.block_lt_of_cell? w _ hw279_1)).trans hw279_1)⟩ (fun hHeld => ?_)
       clear hK K
       refine norm_ (a' := ?_) ?_ ?_
       rotate_left
       ·show Act.put _ (some 34) _ = _
        simp only [Act.put,s1_,s2_,s3_, i64_w, i32_w]
        rfl
       exact norm_ (by simp only [putAll, Act.put,s1_,s2_,s3_]) (hCont (v277, v281) _ ⟨hHeld, (by (with_reducible repeat (first | apply Kd.R_alloc | apply Kd.R_drewN | apply Kd.R_drew)); exact Kd.R_mono HO278.out (fun _ hk => ⟨hk.2, hk.1⟩)), (by (with_reducible repeat (first | apply Kd.R_alloc | apply Kd.R_drewN | apply Kd.R_drew)); exact Kd.R_mono HO282.out (fun _ hk => ⟨hk.2, hk.1.2⟩)), (by (with_reducible repeat (first | apply Kd.R_alloc | apply Kd.R_drewN | apply Kd.R_drew)); exact Kd.R_mono HO_3.out (fun _ hk => ⟨hk.2, hk.1.2⟩)), HB.out⟩)
      skip
      refine Kd.R_append_rows_step k96 (w0 := w) w.heap.size (by rfl) (.const (.slice none 0 0)) (.tmp 33) 44 96 (.agg #[(.string ⟨#[]⟩), (.string ⟨#[]⟩)]) 32 rfl Tryz.underlying44 info96 rfl (by decide) (by omega) (.slice none 0 0) ([] : List (S96)) y272 _ _ _ (fun k_ => some k_ ≠ (.slice (some ad270) x3_1.length co18 : Value).ownBlock) (fun _ => False) rfl rfl ?aO ?aR (fun _ _ h => h) (fun _ h => h.elim) ?aF ?aB ?aS ?aL ?_
      (case aR => repeat (exact (by repeat (exact HR275.out))))
      (case aB => exact HB.out)
      (case aF => exact (fun k_ hk => Kd.fresh' (Kd.R_lt (rr_ HO_3.out)) k_ hk))
      (case aO => exact ((Kd.R_nil _ _ _ _ (fun k_ => some k_ ≠ (.slice (some ad270) x3_1.length co18 : Value).ownBlock))))
      (case aS => exact (below_size HB.out))
      (case aL => have := LMc12.out; omega)
      intro v277 w22 ho hb hg hat
      rw [← Ny276.out] at ho
      have n0_ := A_ (Kd.R_after (Kd.R_apart_nil (rr_ HO_3.out)) hg hat)
      have n1_ := A_ (hb)
      have n2_ := A_ ((show Kd.C k96 w22 (some ad270) y272.length y272 from by rw [Ny272.out]; exact Kd.C_take (m := (x5_2 : Int).toNat) ((Kd.R_reads' (Kd.R_after (Kd.R_apart_nil (rr_ HO_3.out)) hg hat)).2.2) KL20.out))
      have n3_ := A_ ((show Kd.C k96 w22 A21 y286.length y286 from by rw [Ny286.out, KA21.out]; exact Kd.C_drop (m := (x5_2 : Int).toNat) (c := co18) ((Kd.R_reads' (Kd.R_after (Kd.R_apart_nil (rr_ HO_3.out)) hg hat)).2.2) KL21.out ((Kd.R_reads' (Kd.R_after (Kd.R_apart_nil (rr_ HO_3.out)) hg hat)).2.1)))
      have n4_ := A_ (ho)
      clear HO_3
      clear HB
      clear HR275
      clear HR289
      have HO_3 := n0_
      have HB := n1_
      have HR275 := n2_
      have HR289 := n3_
      have HO278 := n4_
      clear n0_ n1_ n2_ n3_ n4_
      clear ho hb hg hat
      refine hK.out _ _ ⟨((HB.out.cell (World.block_lt_of_cell? w _ hw279_0)).trans hw279_0), ((HB.out.cell (World.block_lt_of_cell? w _ hw279_1)).trans hw279_1)⟩ (fun hHeld => ?_)
      clear hK K
      refine norm_ (a' := ?_) ?_ ?_
      rotate_left
      ·show Act.put _ (some 34) _ = _
       simp only [Act.put,s1_,s2_,s3_, i64_w, i32_w]
       rfl
      refine one_ (i := 8) (N := some 39) #[T_,T_,T_,T_,T_,T_,T_,T_,T_,F_,T_,T_,T_,F_,F_] rfl rfl (one_of HT_.out (by kernel_rfl)) (by decide) (fun K hK => ?_)
      refine Kd.R_lit_step k96 _ 96 ?hg (N := 39) ?hd (xs := ([(⟨(rd_T96 l0 x4_1).f0, (rd_T96 l0 x4_1).f1⟩ : S96)] : List (S96))) (inner := [.string ((rd_T96 l0 x4_1).f0), .string ((rd_T96 l0 x4_1).f1)]) (ok := fun _ => True) (okp := fun _ => True) ?hr ?hp (fun _ hk => hk) trivial (Below.refl _ _) (Nat.le_refl _) (by simp) ?_; (case hd => rfl); (case hg => rfl); (case hr => (go_simp; done)); (case hp => exact (Reps.c2 (show Kd.M k96 _ _ _ (⟨(rd_T96 l0 x4_1).f0, (rd_T96 l0 x4_1).f1⟩ : S96) [.string ((rd_T96 l0 x4_1).f0), .string ((rd_T96 l0 x4_1).f1)] from (k96_mkM _ _ _ (⟨(rd_T96 l0 x4_1).f0, (rd_T96 l0 x4_1).f1⟩ : S96) )) (Reps.none _ _)))
      intro v281 w23 ho24 hb hg_ hnew_
      clear hg_ hnew_
      (rw [← Ny280.out] at ho24)
      have n0_ := A_ (Kd.R_elder' (rr_ HO_3.out) (Kd.R_base ho24) hb)
      have n1_ := A_ (Kd.R_elder' (rr_ HO278.out) (Kd.R_base ho24) hb)
      have n2_ := A_ (Kd.R_lower (Kd.R_new' (Kd.R_new' ho24 (Kd.R_lt (rr_ HO_3.out))) (Kd.R_lt (rr_ HO278.out))) (below_size HB.out))
      have n3_ := A_ (Kd.C_below (by repeat ((with_reducible exact HR275.out))) hb)
      have n4_ := A_ (Kd.C_below (by repeat ((with_reducible exact HR289.out))) hb)
      have n5_ := A_ (below_step HB.out hb)
      clear HO_3
      clear HO278
      clear HR275
      clear HR289
      clear HB
      have HO_3 := n0_
      have HO278 := n1_
      have HO282 := n2_
      have HR275 := n3_
      have HR289 := n4_
      have HB := n5_
      clear n0_ n1_ n2_ n3_ n4_ n5_
      clear hb ho24
      refine hK.out _ _ ⟨((HB.out.cell (World.block_lt_of_cell? w _ hw279_0)).trans hw279_0), ((HB.out.cell (World.block_lt_of_cell? w _ hw279_1)).trans hw279_1)⟩ (fun hHeld => ?_)
      clear hK K
      refine norm_ (a' := ?_) ?_ ?_
      rotate_left
      ·show Act.put _ (some 39) _ = _
       simp only [Act.put,s1_,s2_,s3_, i64_w, i32_w]
       rfl
      exact norm_ (by simp only [putAll, Act.put,s1_,s2_,s3_]) (hCont (v277, v281) _ ⟨hHeld, (by (with_reducible repeat (first | apply Kd.R_alloc | apply Kd.R_drewN | apply Kd.R_drew)); exact Kd.R_mono HO278.out (fun _ hk => ⟨hk.2, hk.1⟩)), (by (with_reducible repeat (first | apply Kd.R_alloc | apply Kd.R_drewN | apply Kd.R_drew)); exact Kd.R_mono HO282.out (fun _ hk => ⟨hk.2, hk.1.2⟩)), (by (with_reducible repeat (first | apply Kd.R_alloc | apply Kd.R_drewN | apply Kd.R_drew)); exact Kd.R_mono HO_3.out (fun _ hk => ⟨hk.1.2, hk.2⟩)), HB.out⟩)
     rintro ⟨v277, v281⟩ w25 ⟨hS_, h0_, h1_, h2_, h3_⟩
     have n0_ : Aside0 (Kd.R k96 96 w25 w.heap.size (fun k_ => some k_ ≠ (v281 : Value).ownBlock ∧ some k_ ≠ (.slice (some ad270) x3_1.length co18 : Value).ownBlock) v277 y276) := ⟨h0_⟩
     have n1_ : Aside0 (Kd.R k96 96 w25 w.heap.size (fun k_ => some k_ ≠ (v277 : Value).ownBlock ∧ some k_ ≠ (.slice (some ad270) x3_1.length co18 : Value).ownBlock) v281 y280) := ⟨h1_⟩
     have n2_ : Aside0 (Kd.R k96 96 w25 w.heap.size (fun k_ => some k_ ≠ (v277 : Value).ownBlock ∧ some k_ ≠ (v281 : Value).ownBlock) (.slice (some ad270) x3_1.length co18) x3_1) := ⟨h2_⟩
     have n3_ : Aside0 (Below w.heap.size w w25) := ⟨h3_⟩
     clear HO_3
     clear HB
     clear h0_ h1_ h2_ h3_
     have HO278 := n0_
     have HO282 := n1_
     have HO_3 := n2_
     have HB := n3_
     clear n0_ n1_ n2_ n3_
     have hHeld : w25.cell? (ad271.add ((x4_1).toNat * 2)) = some (.string ((rd_T96 l0 x4_1).f0)) ∧ w25.cell? ⟨(ad271.add ((x4_1).toNat * 2)).block, (ad271.add ((x4_1).toNat * 2)).off + 1, none⟩ = some (.string ((rd_T96 l0 x4_1).f1)) := hS_
     (try clear HR275)
     have HR275 := A_ (show Kd.C k96 w25 (some ad270) y272.length y272 from by rw [Ny272.out]; exact Kd.C_take (m := (x5_2 : Int).toNat) ((Kd.R_reads' HO_3.out).2.2) KL20.out)
     (try clear HR289)
     have HR289 := A_ (show Kd.C k96 w25 A21 y286.length y286 from by rw [Ny286.out, KA21.out]; exact Kd.C_drop (m := (x5_2 : Int).toNat) (c := co18) ((Kd.R_reads' HO_3.out).2.2) KL21.out ((Kd.R_reads' HO_3.out).2.1))
     obtain ⟨Ao27, co27, eo27⟩ := Kd.R_slice HO282.out
     (subst eo27)
     refine norm_ (a' := ?_) ?_ ?_
     rotate_left
     ·simp only [putAll, Act.put,s1_,s2_,s3_]
      rfl
     refine one_ (i := 9) (N := some 40) #[T_,T_,T_,T_,T_,T_,T_,T_,T_,T_,T_,T_,T_,F_,F_] rfl rfl (one_of HT_.out (by kernel_rfl)) (by decide) (fun K hK => ?_)
     refine Kd.R_append_rows_step k96 (w0 := w) w.heap.size (by rfl) (.tmp 34) (.tmp 39) 44 96 (.agg #[(.string ⟨#[]⟩), (.string ⟨#[]⟩)]) 32 rfl Tryz.underlying44 info96 rfl (by decide) (by omega) v277 y276 y280 _ _ _ (fun k_ => some k_ ≠ (.slice (some ad270) x3_1.length co18 : Value).ownBlock ∧ some k_ ≠ (.slice Ao27 y280.length co27 : Value).ownBlock) (fun _ => False) rfl rfl ?aO ?aR (fun _ _ h => h) (fun _ h => h.elim) ?aF ?aB ?aS ?aL ?_
     (case aR => repeat (exact (Kd.R_reads' HO282.out).2.2))
     (case aB => exact HB.out)
     (case aF => exact (fun k_ hk => ⟨Kd.fresh' (Kd.R_lt (rr_ HO_3.out)) k_ hk, Kd.fresh' (Kd.R_lt (rr_ HO282.out)) k_ hk⟩))
     (case aO => exact (by (with_reducible repeat (first | apply Kd.R_alloc | apply Kd.R_drewN | apply Kd.R_drew)); exact Kd.R_mono HO278.out (fun _ hk => ⟨hk.2, hk.1⟩)))
     (case aS => exact (below_size HB.out))
     (case aL => have := LMc13.out; omega)
     intro v284 w26 ho hb hg hat
     rw [← Ny283.out] at ho
     have n0_ := A_ (Kd.R_after (ok := (fun k_ => some k_ ≠ (.slice Ao27 y280.length co27 : Value).ownBlock)) (by (with_reducible repeat (first | apply Kd.R_alloc | apply Kd.R_drewN | apply Kd.R_drew)); exact Kd.R_mono HO_3.out (fun _ hk => ⟨hk.2, hk.1⟩)) hg hat)
     have n1_ := A_ (Kd.R_after (ok := (fun k_ => some k_ ≠ (.slice (some ad270) x3_1.length co18 : Value).ownBlock)) (by (with_reducible repeat (first | apply Kd.R_alloc | apply Kd.R_drewN | apply Kd.R_drew)); exact Kd.R_mono HO282.out (fun _ hk => ⟨hk.2, hk.1⟩)) hg hat)
     have n2_ := A_ (hb)
     have n3_ := A_ ((show Kd.C k96 w26 (some ad270) y272.length y272 from by rw [Ny272.out]; exact Kd.C_take (m := (x5_2 : Int).toNat) ((Kd.R_reads' (Kd.R_after (ok := (fun k_ => some k_ ≠ (.slice Ao27 y280.length co27 : Value).ownBlock)) (by (with_reducible repeat (first | apply Kd.R_alloc | apply Kd.R_drewN | apply Kd.R_drew)); exact Kd.R_mono HO_3.out (fun _ hk => ⟨hk.2, hk.1⟩)) hg hat)).2.2) KL20.out))
     have n4_ := A_ ((show Kd.C k96 w26 A21 y286.length y286 from by rw [Ny286.out, KA21.out]; exact Kd.C_drop (m := (x5_2 : Int).toNat) (c := co18) ((Kd.R_reads' (Kd.R_after (ok := (fun k_ => some k_ ≠ (.slice Ao27 y280.length co27 : Value).ownBlock)) (by (with_reducible repeat (first | apply Kd.R_alloc | apply Kd.R_drewN | apply Kd.R_drew)); exact Kd.R_mono HO_3.out (fun _ hk => ⟨hk.2, hk.1⟩)) hg hat)).2.2) KL21.out ((Kd.R_reads' (Kd.R_after (ok := (fun k_ => some k_ ≠ (.slice Ao27 y280.length co27 : Value).ownBlock)) (by (with_reducible repeat (first | apply Kd.R_alloc | apply Kd.R_drewN | apply Kd.R_drew)); exact Kd.R_mono HO_3.out (fun _ hk => ⟨hk.2, hk.1⟩)) hg hat)).2.1)))
     have n5_ := A_ (ho)
     clear HO_3
     clear HO282
     clear HB
     clear HR275
     clear HR289
     clear HO278
     have HO_3 := n0_
     have HO282 := n1_
     have HB := n2_
     have HR275 := n3_
     have HR289 := n4_
     have HO285 := n5_
     clear n0_ n1_ n2_ n3_ n4_ n5_
     clear ho hb hg hat
     refine hK.out _ _ ⟨((HB.out.cell (World.block_lt_of_cell? w _ hw279_0)).trans hw279_0), ((HB.out.cell (World.block_lt_of_cell? w _ hw279_1)).trans hw279_1)⟩ (fun hHeld => ?_)
     clear hK K
     refine norm_ (a' := ?_) ?_ ?_
     rotate_left
     ·show Act.put _ (some 40) _ = _
      simp only [Act.put,s1_,s2_,s3_, i64_w, i32_w]
      rfl
     refine one_ (i := 13) (N := some 44) #[T_,T_,T_,T_,T_,T_,T_,T_,T_,T_,T_,T_,T_,T_,F_] rfl rfl (one_of HT_.out (by kernel_rfl)) (by decide) (fun K hK => ?_)
     refine Kd.R_append_rows_step k96 (w0 := w) w.heap.size (by rfl) (.tmp 40) (.tmp 43) 44 96 (.agg #[(.string ⟨#[]⟩), (.string ⟨#[]⟩)]) 32 rfl Tryz.underlying44 info96 rfl (by decide) (by omega) v284 y283 y286 _ _ _ (fun k_ => some k_ ≠ (.slice (some ad270) x3_1.length co18 : Value).ownBlock ∧ some k_ ≠ (.slice Ao27 y280.length co27 : Value).ownBlock) (fun _ => False) rfl rfl ?aO ?aR (fun _ _ h => h) (fun _ h => h.elim) ?aF ?aB ?aS ?aL ?_
     (case aR => repeat (exact (by repeat (exact HR289.out))))
     (case aB => exact HB.out)
     (case aF => exact (fun k_ hk => ⟨Kd.fresh' (Kd.R_lt (rr_ HO_3.out)) k_ hk, Kd.fresh' (Kd.R_lt (rr_ HO282.out)) k_ hk⟩))
     (case aO => exact (rr_ HO285.out))
     (case aS => exact (below_size HB.out))
     (case aL => have := LMc16.out; omega)
     intro v291 w28 ho hb hg hat
     rw [← Ny290.out] at ho
     have n0_ := A_ (Kd.R_after (ok := (fun k_ => some k_ ≠ (.slice Ao27 y280.length co27 : Value).ownBlock)) (rr_ HO_3.out) hg hat)
     have n1_ := A_ (Kd.R_after (ok := (fun k_ => some k_ ≠ (.slice (some ad270) x3_1.length co18 : Value).ownBlock)) (rr_ HO282.out) hg hat)
     have n2_ := A_ (hb)
     have n3_ := A_ ((show Kd.C k96 w28 (some ad270) y272.length y272 from by rw [Ny272.out]; exact Kd.C_take (m := (x5_2 : Int).toNat) ((Kd.R_reads' (Kd.R_after (ok := (fun k_ => some k_ ≠ (.slice Ao27 y280.length co27 : Value).ownBlock)) (rr_ HO_3.out) hg hat)).2.2) KL20.out))
     have n4_ := A_ ((show Kd.C k96 w28 A21 y286.length y286 from by rw [Ny286.out, KA21.out]; exact Kd.C_drop (m := (x5_2 : Int).toNat) (c := co18) ((Kd.R_reads' (Kd.R_after (ok := (fun k_ => some k_ ≠ (.slice Ao27 y280.length co27 : Value).ownBlock)) (rr_ HO_3.out) hg hat)).2.2) KL21.out ((Kd.R_reads' (Kd.R_after (ok := (fun k_ => some k_ ≠ (.slice Ao27 y280.length co27 : Value).ownBlock)) (rr_ HO_3.out) hg hat)).2.1)))
     have n5_ := A_ (ho)
     clear HO_3
     clear HO282
     clear HB
     clear HR275
     clear HR289
     clear HO285
     have HO_3 := n0_
     have HO282 := n1_
     have HB := n2_
     have HR275 := n3_
     have HR289 := n4_
     have HO292 := n5_
     clear n0_ n1_ n2_ n3_ n4_ n5_
     clear ho hb hg hat
     refine hK.out _ _ ⟨((HB.out.cell (World.block_lt_of_cell? w _ hw279_0)).trans hw279_0), ((HB.out.cell (World.block_lt_of_cell? w _ hw279_1)).trans hw279_1)⟩ (fun hHeld => ?_)
     clear hK K
     refine norm_ (a' := ?_) ?_ ?_
     rotate_left
     ·show Act.put _ (some 44) _ = _
      simp only [Act.put,s1_,s2_,s3_, i64_w, i32_w]
      rfl
     refine pu_ 14 (some 3) #[T_,T_,T_,T_,T_,T_,T_,T_,T_,T_,T_,T_,T_,T_,T_] HT_.out rfl rfl ?_
     refine done_ (done_of HT_.out (by kernel_rfl)) ?_
     try go_wp2
     go_roundg k2
     case measure => have := HK1.out; have := HK2.out; omega
     case rel => exact ⟨(y290), (wrap64 (x4_1 + 1)), (by rfl), H', ⟨by have := HK1.out; have := HK2.out; omega⟩, ⟨by (with_reducible repeat (first | apply Kd.R_alloc | apply Kd.R_drewN | apply Kd.R_drew)); exact Kd.R_mono HO292.out (fun _ hk => trivial)⟩, ⟨HB.out⟩⟩
end Go.Proofs.YtcikjeiebpmmcaaGreat.PMch
