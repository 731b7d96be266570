-- Printed for this claim by a program of the session (print2.py), out of the translation; Lean checks it.
import Derived.Test.YtapfpnfdpcgpaaaPBndx0
import Derived.Test.YtapfpnfdpcgpaaaPBndx1
import Derived.Test.YtapfpnfdpcgpaaaPBndx2
namespace Go.Proofs.Ytapfpnfdpcgpaaa.PBnd
open Go.RowKit Go.Proofs.YtapfpnfdpcgpaaaW.PrintWords Go.Proofs.YtapfpnfdpcgpaaaW.PrintLast Go.Proofs.YtapfpnfdpcgpaaaW.PrintMore
attribute [local go_sem] max2_int min2_int max_two min_two max_three min_three max_four min_four   -- for this text's walks alone
set_option linter.unusedVariables false
set_option linter.unusedSimpArgs false

/-! ### odometerlaw03_LabelBounds: function 6 -/
def odometerlaw03_LabelBounds.l0 : Nat → List (S45) → Int → Option (Bool)
  | 0, _, _ => none
  | k + 1, x1, x2 => if x2 < 17 then ((some (([(wrap64 (97 + x2)) % 256] : List Int) : List Int)).bind fun y171 => (if 1 + (strOfNums y171).size ≤ 9223372036854775807 then ((odometerlaw03_more.f k (⟨#[92]⟩ : ByteArray) 1024).bind fun t174 => (if x1.length < 4398046511104 then (odometerlaw03_LabelBounds.l0 k (x1 ++ [(⟨(⟨#[108]⟩ : ByteArray) ++ (strOfNums y171), t174⟩ : S45)]) (wrap64 (x2 + 1))) else (none))) else (none))) else ((odometerlaw03_more.f k (⟨#[109]⟩ : ByteArray) 200).bind fun t178 => (if 16 ≤ (x1.length : Int) then ((label_Name.f k t178 (x1.take 16)).bind fun bt183 => ((label_Name.f k (⟨#[109]⟩ : ByteArray) x1).bind fun bt185 => ((odometerlaw03_more.f k (⟨#[109]⟩ : ByteArray) 201).bind fun t187 => ((label_Name.f k t187 ([] : List (S45))).bind fun bt188 => ((odometerlaw03_more.f k (⟨#[120]⟩ : ByteArray) 1025).bind fun t190 => ((label_Name.f k (⟨#[109]⟩ : ByteArray) (([(⟨(⟨#[97]⟩ : ByteArray), t190⟩ : S45)] : List (S45)))).bind fun bt194 => ((odometerlaw03_more.f k (⟨#[97]⟩ : ByteArray) 201).bind fun t196 => ((label_Name.f k (⟨#[109]⟩ : ByteArray) (([(⟨t196, (⟨#[]⟩ : ByteArray)⟩ : S45)] : List (S45)))).bind fun bt200 => ((odometerlaw03_more.f k (⟨#[97]⟩ : ByteArray) 200).bind fun t202 => ((label_Name.f k (⟨#[109]⟩ : ByteArray) (([(⟨t202, (⟨#[]⟩ : ByteArray)⟩ : S45)] : List (S45)))).bind fun bt206 => (if 16 < (x1.length : Int) then ((label_With.f k bt183.1 (([(⟨(rd_T45 x1 16).f0, (rd_T45 x1 16).f1⟩ : S45)] : List (S45)))).bind fun bt212 => (if 3 < (x1.length : Int) then ((label_With.f k bt183.1 (([(⟨(rd_T45 x1 3).f0, (rd_T45 x1 3).f1⟩ : S45)] : List (S45)))).bind fun bt218 => (if bt183.2 = 0 then ((label_May.f k bt183.1).bind fun t220 => (if t220 = true then (if bt185.2 = 5 then (if bt188.2 = 5 then (if bt194.2 = 5 then (if bt200.2 = 5 then (if bt206.2 = 0 then (if bt212.2 = 5 then (if bt218.2 = 5 then ((odometerlaw03_known.f k).bind fun t221 => (some t221)) else (some false)) else (some false)) else (some false)) else (some false)) else (some false)) else (some false)) else (some false)) else (some false))) else (some false))) else (none))) else (none)))))))))))) else (none)))
def odometerlaw03_LabelBounds.f (k : Nat)  : Option (Bool) := odometerlaw03_LabelBounds.l0 k ([] : List (S45)) 0
theorem odometerlaw03_LabelBounds.mono_l : ∀ k, (∀ y0 y1, LeO (odometerlaw03_LabelBounds.l0 k y0 y1) (odometerlaw03_LabelBounds.l0 (k + 1) y0 y1))
  | 0 => fun _ _ r h => by simp [odometerlaw03_LabelBounds.l0] at h
  | k + 1 => by
    have ih0 := odometerlaw03_LabelBounds.mono_l k
    · intro y0 y1
      unfold odometerlaw03_LabelBounds.l0
      repeat' first
      | (with_reducible exact ih0 _ _)
      | (with_reducible exact label_May.mono _ _)
      | (with_reducible exact label_Name.mono _ _ _)
      | (with_reducible exact label_With.mono _ _ _)
      | (with_reducible exact odometerlaw03_known.mono _)
      | (with_reducible exact odometerlaw03_more.mono _ _ _)
      | (with_reducible exact LeO.refl _)
      | (with_reducible exact LeO.none _)
      | (with_reducible refine LeO.ite ?_ ?_)
      | (with_reducible refine LeO.bind ?_ (fun _ => ?_))
      | exact ih0 _ _
      | exact label_May.mono _ _
      | exact label_Name.mono _ _ _
      | exact label_With.mono _ _ _
      | exact odometerlaw03_known.mono _
      | exact odometerlaw03_more.mono _ _ _
      | exact LeO.none _
      | refine LeO.ite ?_ ?_
      | refine LeO.bind ?_ (fun _ => ?_)
theorem odometerlaw03_LabelBounds.mono : ∀ k, LeO (odometerlaw03_LabelBounds.f k ) (odometerlaw03_LabelBounds.f (k + 1) ) := by
  intro  k
  have ih0 := odometerlaw03_LabelBounds.mono_l k
  unfold odometerlaw03_LabelBounds.f
  repeat' first
      | (with_reducible exact ih0 _ _)
      | (with_reducible exact label_May.mono _ _)
      | (with_reducible exact label_Name.mono _ _ _)
      | (with_reducible exact label_With.mono _ _ _)
      | (with_reducible exact odometerlaw03_known.mono _)
      | (with_reducible exact odometerlaw03_more.mono _ _ _)
      | (with_reducible exact LeO.refl _)
      | (with_reducible exact LeO.none _)
      | (with_reducible refine LeO.ite ?_ ?_)
      | (with_reducible refine LeO.bind ?_ (fun _ => ?_))
      | exact ih0 _ _
      | exact label_May.mono _ _
      | exact label_Name.mono _ _ _
      | exact label_With.mono _ _ _
      | exact odometerlaw03_known.mono _
      | exact odometerlaw03_more.mono _ _ _
      | exact LeO.none _
      | refine LeO.ite ?_ ?_
      | refine LeO.bind ?_ (fun _ => ?_)
def odometerlaw03_LabelBounds.T5 : Bool × List (List Nat × List Nat) := (true, [([], []), ([], []), ([1], [1]), ([2], [2]), ([3], [3]), ([4], [4]), ([5], [5]), ([], []), ([6, 7], [6, 7]), ([8], [8]), ([0, 9, 7], [0, 9]), ([10, 10, 0, 1, 2, 3, 4, 5, 6, 7, 8, 9, 10], [0, 10])])
def odometerlaw03_LabelBounds.B5 : List Nat := [0, 0, 2, 6, 14, 30, 62, 0, 254, 510, 1023, 2047]
theorem odometerlaw03_LabelBounds.tab5 : rtab .any (opsOf Try.f6 5) = odometerlaw03_LabelBounds.T5 := by kernel_rfl
theorem odometerlaw03_LabelBounds.bits5 : waitsOk odometerlaw03_LabelBounds.T5.2 odometerlaw03_LabelBounds.B5 = true := by kernel_rfl
def odometerlaw03_LabelBounds.T6 : Bool × List (List Nat × List Nat) := (true, [([], []), ([], []), ([1], [1]), ([0, 2, 0], [0, 2]), ([3], [3]), ([4], [4]), ([4], [4]), ([5, 3, 0, 1, 2, 3, 4, 5], [5]), ([6, 7, 0, 1, 2, 3, 4, 5, 6, 7], [6])])
def odometerlaw03_LabelBounds.B6 : List Nat := [0, 0, 2, 7, 15, 31, 31, 63, 255]
theorem odometerlaw03_LabelBounds.tab6 : rtab .any (opsOf Try.f6 6) = odometerlaw03_LabelBounds.T6 := by kernel_rfl
theorem odometerlaw03_LabelBounds.bits6 : waitsOk odometerlaw03_LabelBounds.T6.2 odometerlaw03_LabelBounds.B6 = true := by kernel_rfl
set_option maxHeartbeats 8000000 in
set_option maxRecDepth 100000 in
theorem odometerlaw03_LabelBounds.calls (k : Nat)  (r : Bool) (HRT_ : Aside0 (r = true)) (w : World) (hSH : SH w) (h : odometerlaw03_LabelBounds.f k  = some r) :
    Calls Try.prog 6 #[] w fun e w' => e = .returned (.bool r) ∧ Below w.heap.size w w' := by
  have hu45 := Try.underlying45
  have HB := Aside0.mk (Below.refl w.heap.size w)
  have H : (odometerlaw03_LabelBounds.l0 k ([] : List (S45)) 0) = some r := h
  clear h
  have H' := Aside0.mk H
  clear H
  go_enter Try.func6, Try.ntmps6
  go_wp2
  go_loopg [1, 2] k (fun kq v1 v2 w' => ∃ (x1_1 : List (S45)) (x2_1 : Int), v2 = .int .i64 x2_1 ∧ Aside0 (odometerlaw03_LabelBounds.l0 kq x1_1 x2_1 = some r) ∧ Aside0 (kq ≤ k) ∧ Aside0 (Kd.R k45 45 w' w.heap.size (fun _ => True) v1 x1_1) ∧ Aside0 (Below w.heap.size w w'))
  case atStart => exact ⟨(([] : List (S45))), (0), (by first | rfl | (simp; done) | (simp [*]; done)), H', ⟨Nat.le_refl _⟩, ⟨by first | exact Kd.R_nil _ _ _ _ _ | exact Kd.N_nil _ _ _ _ _ | exact Kd.V_nil _ _ _ _ _ | exact Kd.Q_nil _ _ _ _ _ | exact Kd.S_nil _ _ _ _ _⟩, ⟨by repeat (first | (with_reducible first | exact HB.out | apply below_alloc | apply pw_below_drewN | apply below_drew1) | exact HB.out)⟩⟩
  case round =>
    clear H'
    obtain ⟨x1_1, x2_1, rfl, HA, HK1, HO_1, HB⟩ := hrel
    cases gk with
    | zero => exact absurd HA.out (by simp [odometerlaw03_LabelBounds.l0])
    | succ k1 =>
      have H := HA.out
      clear HA
      simp only [odometerlaw03_LabelBounds.l0] at H
      by_cases c1 : x2_1 < 17
      · rw [if_pos c1] at H
        have c1b0 : decide (x2_1 < 17) = true := decide_eq_true c1
        clear c1
        obtain ⟨y171, hy171⟩ : ∃ y_ : List Int, y_ = (([(wrap64 (97 + x2_1)) % 256] : List Int)) := ⟨_, rfl⟩
        replace H : (if 1 + (strOfNums y171).size ≤ 9223372036854775807 then ((odometerlaw03_more.f k1 (⟨#[92]⟩ : ByteArray) 1024).bind fun t174 => (if x1_1.length < 4398046511104 then (odometerlaw03_LabelBounds.l0 k1 (x1_1 ++ [(⟨(⟨#[108]⟩ : ByteArray) ++ (strOfNums y171), t174⟩ : S45)]) (wrap64 (x2_1 + 1))) else (none))) else (none)) = some r := by first | (rw [hy171]; with_reducible exact H) | (have H2_ := (Option.bind_some _ _).symm.trans H; rw [hy171]; with_reducible exact H2_) | (have H2_ := (Option.bind_some _ _).symm.trans H; with_reducible exact H2_) | with_reducible exact H | (rw [hy171]; exact H) | exact H
        have Ny171 := Aside0.mk hy171
        clear hy171
        by_cases c2 : 1 + (strOfNums y171).size ≤ 9223372036854775807
        · rw [if_pos c2] at H
          have c2b0 := eq_true c2
          have c2b1 : decide (1 + (strOfNums y171).size ≤ 9223372036854775807) = true := decide_eq_true c2
          try have c2b2 : (9223372036854775807 < 1 + (strOfNums y171).size) = False := eq_false (Nat.not_lt.2 c2)
          replace H := Option.bind_eq_some_iff.mp H
          obtain ⟨t174, A30, H⟩ := H
          replace H : (if x1_1.length < 4398046511104 then (odometerlaw03_LabelBounds.l0 k1 (x1_1 ++ [(⟨(⟨#[108]⟩ : ByteArray) ++ (strOfNums y171), t174⟩ : S45)]) (wrap64 (x2_1 + 1))) else (none)) = some r := H
          have A3 := Aside0.mk A30
          clear A30
          by_cases c4 : x1_1.length < 4398046511104
          · rw [if_pos c4] at H
            have LMc4 := Aside0.mk c4
            clear c4
            obtain ⟨y175, hy175⟩ : ∃ y_ : List (S45), y_ = (x1_1 ++ [(⟨(⟨#[108]⟩ : ByteArray) ++ (strOfNums y171), t174⟩ : S45)]) := ⟨_, rfl⟩
            replace H : (odometerlaw03_LabelBounds.l0 k1 y175 (wrap64 (x2_1 + 1))) = some r := by first | (rw [hy175]; with_reducible exact H) | (have H2_ := (Option.bind_some _ _).symm.trans H; rw [hy175]; with_reducible exact H2_) | (have H2_ := (Option.bind_some _ _).symm.trans H; with_reducible exact H2_) | with_reducible exact H | (rw [hy175]; exact H) | exact H
            have Ny175 := Aside0.mk hy175
            clear hy175
            have H' := Aside0.mk H
            clear H
            obtain ⟨Ao5, co5, eo5⟩ := Kd.R_slice HO_1.out
            subst eo5
            try go_wp2
            have n0_ := Aside0.mk (Kd.R_drew HO_1.out)
            have n1_ := Aside0.mk (below_drew1 HB.out)
            clear HO_1
            clear HB
            have HO_1 := n0_
            have HB := n1_
            clear n0_ n1_
            refine start_ (n := 12) (S := fun w' => True) (ds := []) #[false, false, false, false, false, false, false, false, false, false, false, false] (by kernel_rfl) rfl rfl trivial (fun hHeld => ?_); refine with_tabW odometerlaw03_LabelBounds.tab5 odometerlaw03_LabelBounds.bits5 (fun HT_ HW_ => ?_)
            generalize wr.drew = w6 at HO_1 HB hHeld ⊢
            refine pure_ (i := 0) (N := some 23) (v := ?_) (a' := ?_) #[true, false, false, false, false, false, false, false, false, false, false, false] rfl rfl (any_of HT_.out (by kernel_rfl)) (fun _ _ _ h => h) (Or.inl ⟨by rfl, ?_⟩) ?_ ?_
            rotate_left
            · intro w'
              go_simp
              with_reducible rfl
            rotate_left
            · simp only [Act.put, List.setIfInBounds_toArray, List.set_cons_zero, List.set_cons_succ, i64_w, i32_w]
              rfl
            refine pure_ (i := 1) (N := some 24) (v := ?_) (a' := ?_) #[true, true, false, false, false, false, false, false, false, false, false, false] rfl rfl (any_of HT_.out (by kernel_rfl)) (fun _ _ _ h => h) (Or.inl ⟨by rfl, ?_⟩) ?_ ?_
            rotate_left
            · intro w'
              go_simp
              with_reducible rfl
            rotate_left
            · simp only [Act.put, List.setIfInBounds_toArray, List.set_cons_zero, List.set_cons_succ, i64_w, i32_w]
              rfl
            refine pure_ (i := 2) (N := some 25) (v := ?_) (a' := ?_) #[true, true, true, false, false, false, false, false, false, false, false, false] rfl rfl (any_of HT_.out (by kernel_rfl)) (fun _ _ _ h => h) (Or.inl ⟨by rfl, ?_⟩) ?_ ?_
            rotate_left
            · intro w'
              go_simp
              with_reducible rfl
            rotate_left
            · simp only [Act.put, List.setIfInBounds_toArray, List.set_cons_zero, List.set_cons_succ, i64_w, i32_w]
              rfl
            refine pure_ (i := 3) (N := some 26) (v := ?_) (a' := ?_) #[true, true, true, true, false, false, false, false, false, false, false, false] rfl rfl (any_of HT_.out (by kernel_rfl)) (fun _ _ _ h => h) (Or.inl ⟨by rfl, ?_⟩) ?_ ?_
            rotate_left
            · intro w'
              go_simp
              with_reducible rfl
            rotate_left
            · simp only [Act.put, List.setIfInBounds_toArray, List.set_cons_zero, List.set_cons_succ, i64_w, i32_w]
              rfl
            refine join_ (σ := Value) 4 #[true, true, true, true, true, true, true, true, false, false, false, false] (fun s_ => [(27, s_), (28, .string (strOfNums y171)), (30, .string t174), (29, .string ((⟨#[108]⟩ : ByteArray) ++ (strOfNums y171)))]) (fun s_ w' => (Kd.R (Kd.int .u8) 5 w' w.heap.size (fun _ => True) s_ y171) ∧ (Kd.R k45 45 w' w.heap.size (fun _ => True) (.slice Ao5 x1_1.length co5) x1_1) ∧ (Below w.heap.size w w')) ?_ ?_
            rotate_left
            · intro hCont
              refine two_ (i := 4) (j := 7) (Ni := some 27) (Nj := some 30) #[true, true, true, true, true, false, false, false, false, false, false, false] #[true, true, true, true, false, false, false, true, false, false, false, false] rfl rfl rfl rfl (two_of HT_.out (by kernel_rfl)) (by decide) (by decide) (fun K hK => ?_) (fun K hK => ?_)
              · skip
                refine Kd.R_lit_step (Kd.int .u8) _ 5 ?hg (N := 27) ?hd (xs := ([(wrap64 (97 + x2_1)) % 256] : List Int)) (inner := [.int .u8 ((wrap64 (97 + x2_1)) % 256)]) (ok := fun _ => True) (okp := fun _ => True) ?hr ?hp (fun _ hk => hk) trivial (Below.refl _ _) (Nat.le_refl _) (by simp) ?_; (case hd => rfl); (case hg => rfl); (case hr => first | (go_simp; done) | (go_simp; rfl)); (case hp => exact (Reps.one (show Kd.M (Kd.int .u8) _ _ _ ((wrap64 (97 + x2_1)) % 256) [.int .u8 ((wrap64 (97 + x2_1)) % 256)] from rfl) (Reps.none _ _)))
                intro v172 w7 ho8 hb hg_ hnew_
                clear hg_ hnew_
                (first | rw [← Ny171.out] at ho8 | (simp only [Int.reduceToNat] at ho8; rw [← Ny171.out] at ho8))
                have n0_ := Aside0.mk (Kd.R_below (by (with_reducible repeat (first | apply Kd.R_alloc | apply Kd.R_drewN | apply Kd.R_drew)); exact HO_1.out) hb)
                have n1_ := Aside0.mk (Kd.R_lower ho8 (below_size (by repeat (first | (with_reducible first | exact HB.out | apply below_alloc | apply pw_below_drewN | apply below_drew1) | exact HB.out))))
                have n2_ := Aside0.mk (below_step (by repeat (first | (with_reducible first | exact HB.out | apply below_alloc | apply pw_below_drewN | apply below_drew1) | exact HB.out)) hb)
                clear HO_1
                clear HB
                have HO_1 := n0_
                have HO173 := n1_
                have HB := n2_
                clear n0_ n1_ n2_
                clear hb ho8
                refine hK.out _ _ trivial (fun hHeld => ?_)
                clear hK K
                refine norm_ (a' := ?_) ?_ ?_
                rotate_left
                · show Act.put _ (some 27) _ = _
                  simp only [Act.put, List.setIfInBounds_toArray, List.set_cons_zero, List.set_cons_succ, i64_w, i32_w]
                  rfl
                refine two_ (i := 5) (j := 7) (Ni := some 28) (Nj := some 30) #[true, true, true, true, true, true, false, false, false, false, false, false] #[true, true, true, true, true, false, false, true, false, false, false, false] rfl rfl rfl rfl (two_of HT_.out (by kernel_rfl)) (by decide) (by decide) (fun K hK => ?_) (fun K hK => ?_)
                · skip
                  have hcv9 := own_string (P := Try.prog) Try.underlying42 Try.underlying5 Try.underlying9 (Kd.own_of_R HO173.out)
                  refine value_ (w1 := ?_) (v := ?_) (by rfl) rfl ?_ ?_
                  rotate_left 2
                  · go_simp
                    constructor
                    · rfl
                    · rfl
                  clear hcv9
                  refine hK.out _ _ trivial (fun hHeld => ?_)
                  clear hK K
                  refine norm_ (a' := ?_) ?_ ?_
                  rotate_left
                  · show Act.put _ (some 28) _ = _
                    simp only [Act.put, List.setIfInBounds_toArray, List.set_cons_zero, List.set_cons_succ, i64_w, i32_w]
                    rfl
                  refine pure_ (i := 6) (N := some 29) (v := ?_) (a' := ?_) #[true, true, true, true, true, true, true, false, false, false, false, false] rfl rfl (any_of HT_.out (by kernel_rfl)) (fun _ _ _ h => h) (Or.inl ⟨by rfl, ?_⟩) ?_ ?_
                  rotate_left
                  · intro w'
                    go_simp
                    with_reducible rfl
                  rotate_left
                  · simp only [Act.put, List.setIfInBounds_toArray, List.set_cons_zero, List.set_cons_succ, i64_w, i32_w]
                    rfl
                  refine one_ (i := 7) (N := some 30) #[true, true, true, true, true, true, true, true, false, false, false, false] rfl rfl (one_of HT_.out (by kernel_rfl)) (by decide) (fun K hK => ?_)
                  refine goes_ Try.func25 (by kernel_rfl) rfl #[.string (⟨#[92]⟩ : ByteArray), .int .i64 1024] (by rfl) rfl rfl (by (try simp only [List.map_toArray, List.map_cons, List.map_nil]); first | done | rfl | (simp only [List.length_drop, List.length_take]; rfl)) ?_
                  with_reducible refine (odometerlaw03_more.calls k1 (⟨#[92]⟩ : ByteArray) 1024 t174 _ A3.out).mono ?_
                  rintro e w10 ⟨rfl, hb⟩
                  refine ⟨_, rfl, ?_⟩
                  have n0_ := Aside0.mk (Kd.R_below (by (with_reducible repeat (first | apply Kd.R_alloc | apply Kd.R_drewN | apply Kd.R_drew)); exact HO_1.out) hb)
                  have n1_ := Aside0.mk (Kd.R_below (by (with_reducible repeat (first | apply Kd.R_alloc | apply Kd.R_drewN | apply Kd.R_drew)); exact HO173.out) hb)
                  have n2_ := Aside0.mk (below_step (by repeat (first | (with_reducible first | exact HB.out | apply below_alloc | apply pw_below_drewN | apply below_drew1) | exact HB.out)) hb)
                  clear HO_1
                  clear HO173
                  clear HB
                  have HO_1 := n0_
                  have HO173 := n1_
                  have HB := n2_
                  clear n0_ n1_ n2_
                  (try clear hb)
                  (try clear hb2)
                  (try clear hk)
                  (try clear hi)
                  refine hK.out _ _ trivial (fun hHeld => ?_)
                  clear hK K
                  refine norm_ (a' := ?_) ?_ ?_
                  rotate_left
                  · show Act.put _ (some 30) _ = _
                    simp only [Act.put, List.setIfInBounds_toArray, List.set_cons_zero, List.set_cons_succ, i64_w, i32_w]
                    rfl
                  exact norm_ (by simp only [putAll, Act.put, List.setIfInBounds_toArray, List.set_cons_zero, List.set_cons_succ]) (hCont (v172) _ ⟨(by (with_reducible repeat (first | apply Kd.R_alloc | apply Kd.R_drewN | apply Kd.R_drew)); exact HO173.out), (by (with_reducible repeat (first | apply Kd.R_alloc | apply Kd.R_drewN | apply Kd.R_drew)); exact HO_1.out), (by repeat (first | (with_reducible first | exact HB.out | apply below_alloc | apply pw_below_drewN | apply below_drew1) | exact HB.out))⟩)
                · skip
                  refine goes_ Try.func25 (by kernel_rfl) rfl #[.string (⟨#[92]⟩ : ByteArray), .int .i64 1024] (by rfl) rfl rfl (by (try simp only [List.map_toArray, List.map_cons, List.map_nil]); first | done | rfl | (simp only [List.length_drop, List.length_take]; rfl)) ?_
                  with_reducible refine (odometerlaw03_more.calls k1 (⟨#[92]⟩ : ByteArray) 1024 t174 _ A3.out).mono ?_
                  rintro e w9 ⟨rfl, hb⟩
                  refine ⟨_, rfl, ?_⟩
                  have n0_ := Aside0.mk (Kd.R_below (by (with_reducible repeat (first | apply Kd.R_alloc | apply Kd.R_drewN | apply Kd.R_drew)); exact HO_1.out) hb)
                  have n1_ := Aside0.mk (Kd.R_below (by (with_reducible repeat (first | apply Kd.R_alloc | apply Kd.R_drewN | apply Kd.R_drew)); exact HO173.out) hb)
                  have n2_ := Aside0.mk (below_step (by repeat (first | (with_reducible first | exact HB.out | apply below_alloc | apply pw_below_drewN | apply below_drew1) | exact HB.out)) hb)
                  clear HO_1
                  clear HO173
                  clear HB
                  have HO_1 := n0_
                  have HO173 := n1_
                  have HB := n2_
                  clear n0_ n1_ n2_
                  (try clear hb)
                  (try clear hb2)
                  (try clear hk)
                  (try clear hi)
                  refine hK.out _ _ trivial (fun hHeld => ?_)
                  clear hK K
                  refine norm_ (a' := ?_) ?_ ?_
                  rotate_left
                  · show Act.put _ (some 30) _ = _
                    simp only [Act.put, List.setIfInBounds_toArray, List.set_cons_zero, List.set_cons_succ, i64_w, i32_w]
                    rfl
                  refine one_ (i := 5) (N := some 28) #[true, true, true, true, true, true, false, true, false, false, false, false] rfl rfl (one_of HT_.out (by kernel_rfl)) (by decide) (fun K hK => ?_)
                  have hcv10 := own_string (P := Try.prog) Try.underlying42 Try.underlying5 Try.underlying9 (Kd.own_of_R HO173.out)
                  refine value_ (w1 := ?_) (v := ?_) (by rfl) rfl ?_ ?_
                  rotate_left 2
                  · go_simp
                    constructor
                    · rfl
                    · rfl
                  clear hcv10
                  refine hK.out _ _ trivial (fun hHeld => ?_)
                  clear hK K
                  refine norm_ (a' := ?_) ?_ ?_
                  rotate_left
                  · show Act.put _ (some 28) _ = _
                    simp only [Act.put, List.setIfInBounds_toArray, List.set_cons_zero, List.set_cons_succ, i64_w, i32_w]
                    rfl
                  refine pure_ (i := 6) (N := some 29) (v := ?_) (a' := ?_) #[true, true, true, true, true, true, true, true, false, false, false, false] rfl rfl (any_of HT_.out (by kernel_rfl)) (fun _ _ _ h => h) (Or.inl ⟨by rfl, ?_⟩) ?_ ?_
                  rotate_left
                  · intro w'
                    go_simp
                    with_reducible rfl
                  rotate_left
                  · simp only [Act.put, List.setIfInBounds_toArray, List.set_cons_zero, List.set_cons_succ, i64_w, i32_w]
                    rfl
                  exact norm_ (by simp only [putAll, Act.put, List.setIfInBounds_toArray, List.set_cons_zero, List.set_cons_succ]) (hCont (v172) _ ⟨(by (with_reducible repeat (first | apply Kd.R_alloc | apply Kd.R_drewN | apply Kd.R_drew)); exact HO173.out), (by (with_reducible repeat (first | apply Kd.R_alloc | apply Kd.R_drewN | apply Kd.R_drew)); exact HO_1.out), (by repeat (first | (with_reducible first | exact HB.out | apply below_alloc | apply pw_below_drewN | apply below_drew1) | exact HB.out))⟩)
              · skip
                refine goes_ Try.func25 (by kernel_rfl) rfl #[.string (⟨#[92]⟩ : ByteArray), .int .i64 1024] (by rfl) rfl rfl (by (try simp only [List.map_toArray, List.map_cons, List.map_nil]); first | done | rfl | (simp only [List.length_drop, List.length_take]; rfl)) ?_
                with_reducible refine (odometerlaw03_more.calls k1 (⟨#[92]⟩ : ByteArray) 1024 t174 _ A3.out).mono ?_
                rintro e w7 ⟨rfl, hb⟩
                refine ⟨_, rfl, ?_⟩
                have n0_ := Aside0.mk (Kd.R_below (by (with_reducible repeat (first | apply Kd.R_alloc | apply Kd.R_drewN | apply Kd.R_drew)); exact HO_1.out) hb)
                have n1_ := Aside0.mk (below_step (by repeat (first | (with_reducible first | exact HB.out | apply below_alloc | apply pw_below_drewN | apply below_drew1) | exact HB.out)) hb)
                clear HO_1
                clear HB
                have HO_1 := n0_
                have HB := n1_
                clear n0_ n1_
                (try clear hb)
                (try clear hb2)
                (try clear hk)
                (try clear hi)
                refine hK.out _ _ trivial (fun hHeld => ?_)
                clear hK K
                refine norm_ (a' := ?_) ?_ ?_
                rotate_left
                · show Act.put _ (some 30) _ = _
                  simp only [Act.put, List.setIfInBounds_toArray, List.set_cons_zero, List.set_cons_succ, i64_w, i32_w]
                  rfl
                refine one_ (i := 4) (N := some 27) #[true, true, true, true, true, false, false, true, false, false, false, false] rfl rfl (one_of HT_.out (by kernel_rfl)) (by decide) (fun K hK => ?_)
                refine Kd.R_lit_step (Kd.int .u8) _ 5 ?hg (N := 27) ?hd (xs := ([(wrap64 (97 + x2_1)) % 256] : List Int)) (inner := [.int .u8 ((wrap64 (97 + x2_1)) % 256)]) (ok := fun _ => True) (okp := fun _ => True) ?hr ?hp (fun _ hk => hk) trivial (Below.refl _ _) (Nat.le_refl _) (by simp) ?_; (case hd => rfl); (case hg => rfl); (case hr => first | (go_simp; done) | (go_simp; rfl)); (case hp => exact (Reps.one (show Kd.M (Kd.int .u8) _ _ _ ((wrap64 (97 + x2_1)) % 256) [.int .u8 ((wrap64 (97 + x2_1)) % 256)] from rfl) (Reps.none _ _)))
                intro v172 w8 ho9 hb hg_ hnew_
                clear hg_ hnew_
                (first | rw [← Ny171.out] at ho9 | (simp only [Int.reduceToNat] at ho9; rw [← Ny171.out] at ho9))
                have n0_ := Aside0.mk (Kd.R_below (by (with_reducible repeat (first | apply Kd.R_alloc | apply Kd.R_drewN | apply Kd.R_drew)); exact HO_1.out) hb)
                have n1_ := Aside0.mk (Kd.R_lower ho9 (below_size (by repeat (first | (with_reducible first | exact HB.out | apply below_alloc | apply pw_below_drewN | apply below_drew1) | exact HB.out))))
                have n2_ := Aside0.mk (below_step (by repeat (first | (with_reducible first | exact HB.out | apply below_alloc | apply pw_below_drewN | apply below_drew1) | exact HB.out)) hb)
                clear HO_1
                clear HB
                have HO_1 := n0_
                have HO173 := n1_
                have HB := n2_
                clear n0_ n1_ n2_
                clear hb ho9
                refine hK.out _ _ trivial (fun hHeld => ?_)
                clear hK K
                refine norm_ (a' := ?_) ?_ ?_
                rotate_left
                · show Act.put _ (some 27) _ = _
                  simp only [Act.put, List.setIfInBounds_toArray, List.set_cons_zero, List.set_cons_succ, i64_w, i32_w]
                  rfl
                refine one_ (i := 5) (N := some 28) #[true, true, true, true, true, true, false, true, false, false, false, false] rfl rfl (one_of HT_.out (by kernel_rfl)) (by decide) (fun K hK => ?_)
                have hcv10 := own_string (P := Try.prog) Try.underlying42 Try.underlying5 Try.underlying9 (Kd.own_of_R HO173.out)
                refine value_ (w1 := ?_) (v := ?_) (by rfl) rfl ?_ ?_
                rotate_left 2
                · go_simp
                  constructor
                  · rfl
                  · rfl
                clear hcv10
                refine hK.out _ _ trivial (fun hHeld => ?_)
                clear hK K
                refine norm_ (a' := ?_) ?_ ?_
                rotate_left
                · show Act.put _ (some 28) _ = _
                  simp only [Act.put, List.setIfInBounds_toArray, List.set_cons_zero, List.set_cons_succ, i64_w, i32_w]
                  rfl
                refine pure_ (i := 6) (N := some 29) (v := ?_) (a' := ?_) #[true, true, true, true, true, true, true, true, false, false, false, false] rfl rfl (any_of HT_.out (by kernel_rfl)) (fun _ _ _ h => h) (Or.inl ⟨by rfl, ?_⟩) ?_ ?_
                rotate_left
                · intro w'
                  go_simp
                  with_reducible rfl
                rotate_left
                · simp only [Act.put, List.setIfInBounds_toArray, List.set_cons_zero, List.set_cons_succ, i64_w, i32_w]
                  rfl
                exact norm_ (by simp only [putAll, Act.put, List.setIfInBounds_toArray, List.set_cons_zero, List.set_cons_succ]) (hCont (v172) _ ⟨(by (with_reducible repeat (first | apply Kd.R_alloc | apply Kd.R_drewN | apply Kd.R_drew)); exact HO173.out), (by (with_reducible repeat (first | apply Kd.R_alloc | apply Kd.R_drewN | apply Kd.R_drew)); exact HO_1.out), (by repeat (first | (with_reducible first | exact HB.out | apply below_alloc | apply pw_below_drewN | apply below_drew1) | exact HB.out))⟩)
            rintro v172 w11 ⟨h0_, h1_, h2_⟩
            have n0_ : Aside0 (Kd.R (Kd.int .u8) 5 w11 w.heap.size (fun _ => True) v172 y171) := ⟨h0_⟩
            have n1_ : Aside0 (Kd.R k45 45 w11 w.heap.size (fun _ => True) (.slice Ao5 x1_1.length co5) x1_1) := ⟨h1_⟩
            have n2_ : Aside0 (Below w.heap.size w w11) := ⟨h2_⟩
            clear HO_1
            clear HB
            clear h0_ h1_ h2_
            have HO173 := n0_
            have HO_1 := n1_
            have HB := n2_
            clear n0_ n1_ n2_
            have hHeld := trivial
            refine norm_ (a' := ?_) ?_ ?_
            rotate_left
            · simp only [putAll, Act.put, List.setIfInBounds_toArray, List.set_cons_zero, List.set_cons_succ]
              rfl
            refine pure_ (i := 8) (N := some 31) (v := ?_) (a' := ?_) #[true, true, true, true, true, true, true, true, true, false, false, false] rfl rfl (any_of HT_.out (by kernel_rfl)) (fun _ _ _ h => h) (Or.inl ⟨by rfl, ?_⟩) ?_ ?_
            rotate_left
            · intro w'
              go_simp
              with_reducible rfl
            rotate_left
            · simp only [Act.put, List.setIfInBounds_toArray, List.set_cons_zero, List.set_cons_succ, i64_w, i32_w]
              rfl
            refine one_ (i := 9) (N := some 32) #[true, true, true, true, true, true, true, true, true, true, false, false] rfl rfl (one_of HT_.out (by kernel_rfl)) (by decide) (fun K hK => ?_)
            refine value_ (w1 := ?_) (v := ?_) (by rfl) rfl ?_ ?_
            rotate_left 2
            · go_simp
              constructor
              · rfl
              · rfl
            refine hK.out _ _ trivial (fun hHeld => ?_)
            clear hK K
            refine norm_ (a' := ?_) ?_ ?_
            rotate_left
            · show Act.put _ (some 32) _ = _
              simp only [Act.put, List.setIfInBounds_toArray, List.set_cons_zero, List.set_cons_succ, i64_w, i32_w]
              rfl
            refine one_ (i := 10) (N := some 33) #[true, true, true, true, true, true, true, true, true, true, true, false] rfl rfl (one_of HT_.out (by kernel_rfl)) (by decide) (fun K hK => ?_)
            refine Kd.R_append_step k45 (w0 := w) w.heap.size (by rfl) (.tmp 23) (.tmp 32) 29 45 (.agg #[(.string ⟨#[]⟩), (.string ⟨#[]⟩)]) 32 rfl Try.underlying29 info45 rfl (by decide) (by omega) (.slice Ao5 x1_1.length co5) x1_1 (⟨(⟨#[108]⟩ : ByteArray) ++ (strOfNums y171), t174⟩ : S45) [.string ((⟨#[108]⟩ : ByteArray) ++ (strOfNums y171)), .string t174] (fun _ => True) (fun _ => False) rfl rfl ?aP (fun _ hk => hk.elim) ?aF ?aO ?aB ?aS ?aL ?_
            (case aP => exact k45_mkM _ _ _ (⟨(⟨#[108]⟩ : ByteArray) ++ (strOfNums y171), t174⟩ : S45))
            (case aB => exact (by repeat (first | (with_reducible first | exact HB.out | apply below_alloc | apply pw_below_drewN | apply below_drew1) | exact HB.out)))
            (case aF => exact (fun _ _ => trivial))
            (case aO => exact (by (with_reducible repeat (first | apply Kd.R_alloc | apply Kd.R_drewN | apply Kd.R_drew)); exact HO_1.out))
            (case aS => exact (below_size (by repeat (first | (with_reducible first | exact HB.out | apply below_alloc | apply pw_below_drewN | apply below_drew1) | exact HB.out))))
            (case aL => have := LMc4.out; omega)
            intro v176 w12 ho hb hg hat
            rw [← Ny175.out] at ho
            have n0_ := Aside0.mk (Kd.R_over' (by (with_reducible repeat (first | apply Kd.R_alloc | apply Kd.R_drewN | apply Kd.R_drew)); exact HO173.out) (Kd.R_typed (by (with_reducible repeat (first | apply Kd.R_alloc | apply Kd.R_drewN | apply Kd.R_drew)); exact HO_1.out)) (by decide) hg)
            have n1_ := Aside0.mk (hb)
            have n2_ := Aside0.mk (ho)
            clear HO173
            clear HB
            clear HO_1
            have HO173 := n0_
            have HB := n1_
            have HO177 := n2_
            clear n0_ n1_ n2_
            clear ho hb hg hat
            refine hK.out _ _ trivial (fun hHeld => ?_)
            clear hK K
            refine norm_ (a' := ?_) ?_ ?_
            rotate_left
            · show Act.put _ (some 33) _ = _
              simp only [Act.put, List.setIfInBounds_toArray, List.set_cons_zero, List.set_cons_succ, i64_w, i32_w]
              rfl
            refine pure_ (i := 11) (N := some 1) (v := ?_) (a' := ?_) #[true, true, true, true, true, true, true, true, true, true, true, true] rfl rfl (any_of HT_.out (by kernel_rfl)) (fun _ _ _ h => h) (Or.inl ⟨by rfl, ?_⟩) ?_ ?_
            rotate_left
            · intro w'
              go_simp
              with_reducible rfl
            rotate_left
            · simp only [Act.put, List.setIfInBounds_toArray, List.set_cons_zero, List.set_cons_succ, i64_w, i32_w]
              rfl
            refine done_ (done_of HT_.out (by kernel_rfl)) ?_
            try go_wp2
            go_roundg k1
            case measure => have := HK1.out; omega
            case rel => exact ⟨(y175), (wrap64 (x2_1 + 1)), (by first | rfl | (simp; done) | (simp [*]; done)), H', ⟨by have := HK1.out; omega⟩, ⟨by (with_reducible repeat (first | apply Kd.R_alloc | apply Kd.R_drewN | apply Kd.R_drew)); exact HO177.out⟩, ⟨by repeat (first | (with_reducible first | exact HB.out | apply below_alloc | apply pw_below_drewN | apply below_drew1) | exact HB.out)⟩⟩
          · rw [if_neg c4] at H
            exact absurd H (by simp)
        · rw [if_neg c2] at H
          exact absurd H (by simp)
      · rw [if_neg c1] at H
        have c1b0 : decide (x2_1 < 17) = false := decide_eq_false c1
        clear c1
        replace H := Option.bind_eq_some_iff.mp H
        obtain ⟨t178, A130, H⟩ := H
        replace H : (if 16 ≤ (x1_1.length : Int) then ((label_Name.f k1 t178 (x1_1.take 16)).bind fun bt183 => ((label_Name.f k1 (⟨#[109]⟩ : ByteArray) x1_1).bind fun bt185 => ((odometerlaw03_more.f k1 (⟨#[109]⟩ : ByteArray) 201).bind fun t187 => ((label_Name.f k1 t187 ([] : List (S45))).bind fun bt188 => ((odometerlaw03_more.f k1 (⟨#[120]⟩ : ByteArray) 1025).bind fun t190 => ((label_Name.f k1 (⟨#[109]⟩ : ByteArray) (([(⟨(⟨#[97]⟩ : ByteArray), t190⟩ : S45)] : List (S45)))).bind fun bt194 => ((odometerlaw03_more.f k1 (⟨#[97]⟩ : ByteArray) 201).bind fun t196 => ((label_Name.f k1 (⟨#[109]⟩ : ByteArray) (([(⟨t196, (⟨#[]⟩ : ByteArray)⟩ : S45)] : List (S45)))).bind fun bt200 => ((odometerlaw03_more.f k1 (⟨#[97]⟩ : ByteArray) 200).bind fun t202 => ((label_Name.f k1 (⟨#[109]⟩ : ByteArray) (([(⟨t202, (⟨#[]⟩ : ByteArray)⟩ : S45)] : List (S45)))).bind fun bt206 => (if 16 < (x1_1.length : Int) then ((label_With.f k1 bt183.1 (([(⟨(rd_T45 x1_1 16).f0, (rd_T45 x1_1 16).f1⟩ : S45)] : List (S45)))).bind fun bt212 => (if 3 < (x1_1.length : Int) then ((label_With.f k1 bt183.1 (([(⟨(rd_T45 x1_1 3).f0, (rd_T45 x1_1 3).f1⟩ : S45)] : List (S45)))).bind fun bt218 => (if bt183.2 = 0 then ((label_May.f k1 bt183.1).bind fun t220 => (if t220 = true then (if bt185.2 = 5 then (if bt188.2 = 5 then (if bt194.2 = 5 then (if bt200.2 = 5 then (if bt206.2 = 0 then (if bt212.2 = 5 then (if bt218.2 = 5 then ((odometerlaw03_known.f k1).bind fun t221 => (some t221)) else (some false)) else (some false)) else (some false)) else (some false)) else (some false)) else (some false)) else (some false)) else (some false))) else (some false))) else (none))) else (none)))))))))))) else (none)) = some r := H
        have A13 := Aside0.mk A130
        clear A130
        by_cases c14 : 16 ≤ (x1_1.length : Int)
        · rw [if_pos c14] at H
          have c14b0 := eq_true c14
          have c14b1 : decide (16 ≤ (x1_1.length : Int)) = true := decide_eq_true c14
          clear c14
          obtain ⟨y179, hy179⟩ : ∃ y_ : List (S45), y_ = (x1_1.take 16) := ⟨_, rfl⟩
          replace H : ((label_Name.f k1 t178 y179).bind fun bt183 => ((label_Name.f k1 (⟨#[109]⟩ : ByteArray) x1_1).bind fun bt185 => ((odometerlaw03_more.f k1 (⟨#[109]⟩ : ByteArray) 201).bind fun t187 => ((label_Name.f k1 t187 ([] : List (S45))).bind fun bt188 => ((odometerlaw03_more.f k1 (⟨#[120]⟩ : ByteArray) 1025).bind fun t190 => ((label_Name.f k1 (⟨#[109]⟩ : ByteArray) (([(⟨(⟨#[97]⟩ : ByteArray), t190⟩ : S45)] : List (S45)))).bind fun bt194 => ((odometerlaw03_more.f k1 (⟨#[97]⟩ : ByteArray) 201).bind fun t196 => ((label_Name.f k1 (⟨#[109]⟩ : ByteArray) (([(⟨t196, (⟨#[]⟩ : ByteArray)⟩ : S45)] : List (S45)))).bind fun bt200 => ((odometerlaw03_more.f k1 (⟨#[97]⟩ : ByteArray) 200).bind fun t202 => ((label_Name.f k1 (⟨#[109]⟩ : ByteArray) (([(⟨t202, (⟨#[]⟩ : ByteArray)⟩ : S45)] : List (S45)))).bind fun bt206 => (if 16 < (x1_1.length : Int) then ((label_With.f k1 bt183.1 (([(⟨(rd_T45 x1_1 16).f0, (rd_T45 x1_1 16).f1⟩ : S45)] : List (S45)))).bind fun bt212 => (if 3 < (x1_1.length : Int) then ((label_With.f k1 bt183.1 (([(⟨(rd_T45 x1_1 3).f0, (rd_T45 x1_1 3).f1⟩ : S45)] : List (S45)))).bind fun bt218 => (if bt183.2 = 0 then ((label_May.f k1 bt183.1).bind fun t220 => (if t220 = true then (if bt185.2 = 5 then (if bt188.2 = 5 then (if bt194.2 = 5 then (if bt200.2 = 5 then (if bt206.2 = 0 then (if bt212.2 = 5 then (if bt218.2 = 5 then ((odometerlaw03_known.f k1).bind fun t221 => (some t221)) else (some false)) else (some false)) else (some false)) else (some false)) else (some false)) else (some false)) else (some false)) else (some false))) else (some false))) else (none))) else (none)))))))))))) = some r := by first | (rw [hy179]; with_reducible exact H) | (have H2_ := (Option.bind_some _ _).symm.trans H; rw [hy179]; with_reducible exact H2_) | (have H2_ := (Option.bind_some _ _).symm.trans H; with_reducible exact H2_) | with_reducible exact H | (rw [hy179]; exact H) | exact H
          have Ny179 := Aside0.mk hy179
          clear hy179
          replace H := Option.bind_eq_some_iff.mp H
          obtain ⟨⟨t183, t184⟩, A150, H⟩ := H
          replace H : ((label_Name.f k1 (⟨#[109]⟩ : ByteArray) x1_1).bind fun bt185 => ((odometerlaw03_more.f k1 (⟨#[109]⟩ : ByteArray) 201).bind fun t187 => ((label_Name.f k1 t187 ([] : List (S45))).bind fun bt188 => ((odometerlaw03_more.f k1 (⟨#[120]⟩ : ByteArray) 1025).bind fun t190 => ((label_Name.f k1 (⟨#[109]⟩ : ByteArray) (([(⟨(⟨#[97]⟩ : ByteArray), t190⟩ : S45)] : List (S45)))).bind fun bt194 => ((odometerlaw03_more.f k1 (⟨#[97]⟩ : ByteArray) 201).bind fun t196 => ((label_Name.f k1 (⟨#[109]⟩ : ByteArray) (([(⟨t196, (⟨#[]⟩ : ByteArray)⟩ : S45)] : List (S45)))).bind fun bt200 => ((odometerlaw03_more.f k1 (⟨#[97]⟩ : ByteArray) 200).bind fun t202 => ((label_Name.f k1 (⟨#[109]⟩ : ByteArray) (([(⟨t202, (⟨#[]⟩ : ByteArray)⟩ : S45)] : List (S45)))).bind fun bt206 => (if 16 < (x1_1.length : Int) then ((label_With.f k1 t183 (([(⟨(rd_T45 x1_1 16).f0, (rd_T45 x1_1 16).f1⟩ : S45)] : List (S45)))).bind fun bt212 => (if 3 < (x1_1.length : Int) then ((label_With.f k1 t183 (([(⟨(rd_T45 x1_1 3).f0, (rd_T45 x1_1 3).f1⟩ : S45)] : List (S45)))).bind fun bt218 => (if t184 = 0 then ((label_May.f k1 t183).bind fun t220 => (if t220 = true then (if bt185.2 = 5 then (if bt188.2 = 5 then (if bt194.2 = 5 then (if bt200.2 = 5 then (if bt206.2 = 0 then (if bt212.2 = 5 then (if bt218.2 = 5 then ((odometerlaw03_known.f k1).bind fun t221 => (some t221)) else (some false)) else (some false)) else (some false)) else (some false)) else (some false)) else (some false)) else (some false)) else (some false))) else (some false))) else (none))) else (none))))))))))) = some r := H
          have A15 := Aside0.mk A150
          clear A150
          replace H := Option.bind_eq_some_iff.mp H
          obtain ⟨⟨t185, t186⟩, A160, H⟩ := H
          replace H : ((odometerlaw03_more.f k1 (⟨#[109]⟩ : ByteArray) 201).bind fun t187 => ((label_Name.f k1 t187 ([] : List (S45))).bind fun bt188 => ((odometerlaw03_more.f k1 (⟨#[120]⟩ : ByteArray) 1025).bind fun t190 => ((label_Name.f k1 (⟨#[109]⟩ : ByteArray) (([(⟨(⟨#[97]⟩ : ByteArray), t190⟩ : S45)] : List (S45)))).bind fun bt194 => ((odometerlaw03_more.f k1 (⟨#[97]⟩ : ByteArray) 201).bind fun t196 => ((label_Name.f k1 (⟨#[109]⟩ : ByteArray) (([(⟨t196, (⟨#[]⟩ : ByteArray)⟩ : S45)] : List (S45)))).bind fun bt200 => ((odometerlaw03_more.f k1 (⟨#[97]⟩ : ByteArray) 200).bind fun t202 => ((label_Name.f k1 (⟨#[109]⟩ : ByteArray) (([(⟨t202, (⟨#[]⟩ : ByteArray)⟩ : S45)] : List (S45)))).bind fun bt206 => (if 16 < (x1_1.length : Int) then ((label_With.f k1 t183 (([(⟨(rd_T45 x1_1 16).f0, (rd_T45 x1_1 16).f1⟩ : S45)] : List (S45)))).bind fun bt212 => (if 3 < (x1_1.length : Int) then ((label_With.f k1 t183 (([(⟨(rd_T45 x1_1 3).f0, (rd_T45 x1_1 3).f1⟩ : S45)] : List (S45)))).bind fun bt218 => (if t184 = 0 then ((label_May.f k1 t183).bind fun t220 => (if t220 = true then (if t186 = 5 then (if bt188.2 = 5 then (if bt194.2 = 5 then (if bt200.2 = 5 then (if bt206.2 = 0 then (if bt212.2 = 5 then (if bt218.2 = 5 then ((odometerlaw03_known.f k1).bind fun t221 => (some t221)) else (some false)) else (some false)) else (some false)) else (some false)) else (some false)) else (some false)) else (some false)) else (some false))) else (some false))) else (none))) else (none)))))))))) = some r := H
          have A16 := Aside0.mk A160
          clear A160
          replace H := Option.bind_eq_some_iff.mp H
          obtain ⟨t187, A170, H⟩ := H
          replace H : ((label_Name.f k1 t187 ([] : List (S45))).bind fun bt188 => ((odometerlaw03_more.f k1 (⟨#[120]⟩ : ByteArray) 1025).bind fun t190 => ((label_Name.f k1 (⟨#[109]⟩ : ByteArray) (([(⟨(⟨#[97]⟩ : ByteArray), t190⟩ : S45)] : List (S45)))).bind fun bt194 => ((odometerlaw03_more.f k1 (⟨#[97]⟩ : ByteArray) 201).bind fun t196 => ((label_Name.f k1 (⟨#[109]⟩ : ByteArray) (([(⟨t196, (⟨#[]⟩ : ByteArray)⟩ : S45)] : List (S45)))).bind fun bt200 => ((odometerlaw03_more.f k1 (⟨#[97]⟩ : ByteArray) 200).bind fun t202 => ((label_Name.f k1 (⟨#[109]⟩ : ByteArray) (([(⟨t202, (⟨#[]⟩ : ByteArray)⟩ : S45)] : List (S45)))).bind fun bt206 => (if 16 < (x1_1.length : Int) then ((label_With.f k1 t183 (([(⟨(rd_T45 x1_1 16).f0, (rd_T45 x1_1 16).f1⟩ : S45)] : List (S45)))).bind fun bt212 => (if 3 < (x1_1.length : Int) then ((label_With.f k1 t183 (([(⟨(rd_T45 x1_1 3).f0, (rd_T45 x1_1 3).f1⟩ : S45)] : List (S45)))).bind fun bt218 => (if t184 = 0 then ((label_May.f k1 t183).bind fun t220 => (if t220 = true then (if t186 = 5 then (if bt188.2 = 5 then (if bt194.2 = 5 then (if bt200.2 = 5 then (if bt206.2 = 0 then (if bt212.2 = 5 then (if bt218.2 = 5 then ((odometerlaw03_known.f k1).bind fun t221 => (some t221)) else (some false)) else (some false)) else (some false)) else (some false)) else (some false)) else (some false)) else (some false)) else (some false))) else (some false))) else (none))) else (none))))))))) = some r := H
          have A17 := Aside0.mk A170
          clear A170
          replace H := Option.bind_eq_some_iff.mp H
          obtain ⟨⟨t188, t189⟩, A180, H⟩ := H
          replace H : ((odometerlaw03_more.f k1 (⟨#[120]⟩ : ByteArray) 1025).bind fun t190 => ((label_Name.f k1 (⟨#[109]⟩ : ByteArray) (([(⟨(⟨#[97]⟩ : ByteArray), t190⟩ : S45)] : List (S45)))).bind fun bt194 => ((odometerlaw03_more.f k1 (⟨#[97]⟩ : ByteArray) 201).bind fun t196 => ((label_Name.f k1 (⟨#[109]⟩ : ByteArray) (([(⟨t196, (⟨#[]⟩ : ByteArray)⟩ : S45)] : List (S45)))).bind fun bt200 => ((odometerlaw03_more.f k1 (⟨#[97]⟩ : ByteArray) 200).bind fun t202 => ((label_Name.f k1 (⟨#[109]⟩ : ByteArray) (([(⟨t202, (⟨#[]⟩ : ByteArray)⟩ : S45)] : List (S45)))).bind fun bt206 => (if 16 < (x1_1.length : Int) then ((label_With.f k1 t183 (([(⟨(rd_T45 x1_1 16).f0, (rd_T45 x1_1 16).f1⟩ : S45)] : List (S45)))).bind fun bt212 => (if 3 < (x1_1.length : Int) then ((label_With.f k1 t183 (([(⟨(rd_T45 x1_1 3).f0, (rd_T45 x1_1 3).f1⟩ : S45)] : List (S45)))).bind fun bt218 => (if t184 = 0 then ((label_May.f k1 t183).bind fun t220 => (if t220 = true then (if t186 = 5 then (if t189 = 5 then (if bt194.2 = 5 then (if bt200.2 = 5 then (if bt206.2 = 0 then (if bt212.2 = 5 then (if bt218.2 = 5 then ((odometerlaw03_known.f k1).bind fun t221 => (some t221)) else (some false)) else (some false)) else (some false)) else (some false)) else (some false)) else (some false)) else (some false)) else (some false))) else (some false))) else (none))) else (none)))))))) = some r := H
          have A18 := Aside0.mk A180
          clear A180
          replace H := Option.bind_eq_some_iff.mp H
          obtain ⟨t190, A190, H⟩ := H
          replace H : ((label_Name.f k1 (⟨#[109]⟩ : ByteArray) (([(⟨(⟨#[97]⟩ : ByteArray), t190⟩ : S45)] : List (S45)))).bind fun bt194 => ((odometerlaw03_more.f k1 (⟨#[97]⟩ : ByteArray) 201).bind fun t196 => ((label_Name.f k1 (⟨#[109]⟩ : ByteArray) (([(⟨t196, (⟨#[]⟩ : ByteArray)⟩ : S45)] : List (S45)))).bind fun bt200 => ((odometerlaw03_more.f k1 (⟨#[97]⟩ : ByteArray) 200).bind fun t202 => ((label_Name.f k1 (⟨#[109]⟩ : ByteArray) (([(⟨t202, (⟨#[]⟩ : ByteArray)⟩ : S45)] : List (S45)))).bind fun bt206 => (if 16 < (x1_1.length : Int) then ((label_With.f k1 t183 (([(⟨(rd_T45 x1_1 16).f0, (rd_T45 x1_1 16).f1⟩ : S45)] : List (S45)))).bind fun bt212 => (if 3 < (x1_1.length : Int) then ((label_With.f k1 t183 (([(⟨(rd_T45 x1_1 3).f0, (rd_T45 x1_1 3).f1⟩ : S45)] : List (S45)))).bind fun bt218 => (if t184 = 0 then ((label_May.f k1 t183).bind fun t220 => (if t220 = true then (if t186 = 5 then (if t189 = 5 then (if bt194.2 = 5 then (if bt200.2 = 5 then (if bt206.2 = 0 then (if bt212.2 = 5 then (if bt218.2 = 5 then ((odometerlaw03_known.f k1).bind fun t221 => (some t221)) else (some false)) else (some false)) else (some false)) else (some false)) else (some false)) else (some false)) else (some false)) else (some false))) else (some false))) else (none))) else (none))))))) = some r := H
          have A19 := Aside0.mk A190
          clear A190
          obtain ⟨y191, hy191⟩ : ∃ y_ : List (S45), y_ = (([(⟨(⟨#[97]⟩ : ByteArray), t190⟩ : S45)] : List (S45))) := ⟨_, rfl⟩
          replace H : ((label_Name.f k1 (⟨#[109]⟩ : ByteArray) y191).bind fun bt194 => ((odometerlaw03_more.f k1 (⟨#[97]⟩ : ByteArray) 201).bind fun t196 => ((label_Name.f k1 (⟨#[109]⟩ : ByteArray) (([(⟨t196, (⟨#[]⟩ : ByteArray)⟩ : S45)] : List (S45)))).bind fun bt200 => ((odometerlaw03_more.f k1 (⟨#[97]⟩ : ByteArray) 200).bind fun t202 => ((label_Name.f k1 (⟨#[109]⟩ : ByteArray) (([(⟨t202, (⟨#[]⟩ : ByteArray)⟩ : S45)] : List (S45)))).bind fun bt206 => (if 16 < (x1_1.length : Int) then ((label_With.f k1 t183 (([(⟨(rd_T45 x1_1 16).f0, (rd_T45 x1_1 16).f1⟩ : S45)] : List (S45)))).bind fun bt212 => (if 3 < (x1_1.length : Int) then ((label_With.f k1 t183 (([(⟨(rd_T45 x1_1 3).f0, (rd_T45 x1_1 3).f1⟩ : S45)] : List (S45)))).bind fun bt218 => (if t184 = 0 then ((label_May.f k1 t183).bind fun t220 => (if t220 = true then (if t186 = 5 then (if t189 = 5 then (if bt194.2 = 5 then (if bt200.2 = 5 then (if bt206.2 = 0 then (if bt212.2 = 5 then (if bt218.2 = 5 then ((odometerlaw03_known.f k1).bind fun t221 => (some t221)) else (some false)) else (some false)) else (some false)) else (some false)) else (some false)) else (some false)) else (some false)) else (some false))) else (some false))) else (none))) else (none))))))) = some r := by first | (rw [hy191]; with_reducible exact H) | (have H2_ := (Option.bind_some _ _).symm.trans H; rw [hy191]; with_reducible exact H2_) | (have H2_ := (Option.bind_some _ _).symm.trans H; with_reducible exact H2_) | with_reducible exact H | (rw [hy191]; exact H) | exact H
          have Ny191 := Aside0.mk hy191
          clear hy191
          replace H := Option.bind_eq_some_iff.mp H
          obtain ⟨⟨t194, t195⟩, A200, H⟩ := H
          replace H : ((odometerlaw03_more.f k1 (⟨#[97]⟩ : ByteArray) 201).bind fun t196 => ((label_Name.f k1 (⟨#[109]⟩ : ByteArray) (([(⟨t196, (⟨#[]⟩ : ByteArray)⟩ : S45)] : List (S45)))).bind fun bt200 => ((odometerlaw03_more.f k1 (⟨#[97]⟩ : ByteArray) 200).bind fun t202 => ((label_Name.f k1 (⟨#[109]⟩ : ByteArray) (([(⟨t202, (⟨#[]⟩ : ByteArray)⟩ : S45)] : List (S45)))).bind fun bt206 => (if 16 < (x1_1.length : Int) then ((label_With.f k1 t183 (([(⟨(rd_T45 x1_1 16).f0, (rd_T45 x1_1 16).f1⟩ : S45)] : List (S45)))).bind fun bt212 => (if 3 < (x1_1.length : Int) then ((label_With.f k1 t183 (([(⟨(rd_T45 x1_1 3).f0, (rd_T45 x1_1 3).f1⟩ : S45)] : List (S45)))).bind fun bt218 => (if t184 = 0 then ((label_May.f k1 t183).bind fun t220 => (if t220 = true then (if t186 = 5 then (if t189 = 5 then (if t195 = 5 then (if bt200.2 = 5 then (if bt206.2 = 0 then (if bt212.2 = 5 then (if bt218.2 = 5 then ((odometerlaw03_known.f k1).bind fun t221 => (some t221)) else (some false)) else (some false)) else (some false)) else (some false)) else (some false)) else (some false)) else (some false)) else (some false))) else (some false))) else (none))) else (none)))))) = some r := H
          have A20 := Aside0.mk A200
          clear A200
          replace H := Option.bind_eq_some_iff.mp H
          obtain ⟨t196, A210, H⟩ := H
          replace H : ((label_Name.f k1 (⟨#[109]⟩ : ByteArray) (([(⟨t196, (⟨#[]⟩ : ByteArray)⟩ : S45)] : List (S45)))).bind fun bt200 => ((odometerlaw03_more.f k1 (⟨#[97]⟩ : ByteArray) 200).bind fun t202 => ((label_Name.f k1 (⟨#[109]⟩ : ByteArray) (([(⟨t202, (⟨#[]⟩ : ByteArray)⟩ : S45)] : List (S45)))).bind fun bt206 => (if 16 < (x1_1.length : Int) then ((label_With.f k1 t183 (([(⟨(rd_T45 x1_1 16).f0, (rd_T45 x1_1 16).f1⟩ : S45)] : List (S45)))).bind fun bt212 => (if 3 < (x1_1.length : Int) then ((label_With.f k1 t183 (([(⟨(rd_T45 x1_1 3).f0, (rd_T45 x1_1 3).f1⟩ : S45)] : List (S45)))).bind fun bt218 => (if t184 = 0 then ((label_May.f k1 t183).bind fun t220 => (if t220 = true then (if t186 = 5 then (if t189 = 5 then (if t195 = 5 then (if bt200.2 = 5 then (if bt206.2 = 0 then (if bt212.2 = 5 then (if bt218.2 = 5 then ((odometerlaw03_known.f k1).bind fun t221 => (some t221)) else (some false)) else (some false)) else (some false)) else (some false)) else (some false)) else (some false)) else (some false)) else (some false))) else (some false))) else (none))) else (none))))) = some r := H
          have A21 := Aside0.mk A210
          clear A210
          obtain ⟨y197, hy197⟩ : ∃ y_ : List (S45), y_ = (([(⟨t196, (⟨#[]⟩ : ByteArray)⟩ : S45)] : List (S45))) := ⟨_, rfl⟩
          replace H : ((label_Name.f k1 (⟨#[109]⟩ : ByteArray) y197).bind fun bt200 => ((odometerlaw03_more.f k1 (⟨#[97]⟩ : ByteArray) 200).bind fun t202 => ((label_Name.f k1 (⟨#[109]⟩ : ByteArray) (([(⟨t202, (⟨#[]⟩ : ByteArray)⟩ : S45)] : List (S45)))).bind fun bt206 => (if 16 < (x1_1.length : Int) then ((label_With.f k1 t183 (([(⟨(rd_T45 x1_1 16).f0, (rd_T45 x1_1 16).f1⟩ : S45)] : List (S45)))).bind fun bt212 => (if 3 < (x1_1.length : Int) then ((label_With.f k1 t183 (([(⟨(rd_T45 x1_1 3).f0, (rd_T45 x1_1 3).f1⟩ : S45)] : List (S45)))).bind fun bt218 => (if t184 = 0 then ((label_May.f k1 t183).bind fun t220 => (if t220 = true then (if t186 = 5 then (if t189 = 5 then (if t195 = 5 then (if bt200.2 = 5 then (if bt206.2 = 0 then (if bt212.2 = 5 then (if bt218.2 = 5 then ((odometerlaw03_known.f k1).bind fun t221 => (some t221)) else (some false)) else (some false)) else (some false)) else (some false)) else (some false)) else (some false)) else (some false)) else (some false))) else (some false))) else (none))) else (none))))) = some r := by first | (rw [hy197]; with_reducible exact H) | (have H2_ := (Option.bind_some _ _).symm.trans H; rw [hy197]; with_reducible exact H2_) | (have H2_ := (Option.bind_some _ _).symm.trans H; with_reducible exact H2_) | with_reducible exact H | (rw [hy197]; exact H) | exact H
          have Ny197 := Aside0.mk hy197
          clear hy197
          replace H := Option.bind_eq_some_iff.mp H
          obtain ⟨⟨t200, t201⟩, A220, H⟩ := H
          replace H : ((odometerlaw03_more.f k1 (⟨#[97]⟩ : ByteArray) 200).bind fun t202 => ((label_Name.f k1 (⟨#[109]⟩ : ByteArray) (([(⟨t202, (⟨#[]⟩ : ByteArray)⟩ : S45)] : List (S45)))).bind fun bt206 => (if 16 < (x1_1.length : Int) then ((label_With.f k1 t183 (([(⟨(rd_T45 x1_1 16).f0, (rd_T45 x1_1 16).f1⟩ : S45)] : List (S45)))).bind fun bt212 => (if 3 < (x1_1.length : Int) then ((label_With.f k1 t183 (([(⟨(rd_T45 x1_1 3).f0, (rd_T45 x1_1 3).f1⟩ : S45)] : List (S45)))).bind fun bt218 => (if t184 = 0 then ((label_May.f k1 t183).bind fun t220 => (if t220 = true then (if t186 = 5 then (if t189 = 5 then (if t195 = 5 then (if t201 = 5 then (if bt206.2 = 0 then (if bt212.2 = 5 then (if bt218.2 = 5 then ((odometerlaw03_known.f k1).bind fun t221 => (some t221)) else (some false)) else (some false)) else (some false)) else (some false)) else (some false)) else (some false)) else (some false)) else (some false))) else (some false))) else (none))) else (none)))) = some r := H
          have A22 := Aside0.mk A220
          clear A220
          replace H := Option.bind_eq_some_iff.mp H
          obtain ⟨t202, A230, H⟩ := H
          replace H : ((label_Name.f k1 (⟨#[109]⟩ : ByteArray) (([(⟨t202, (⟨#[]⟩ : ByteArray)⟩ : S45)] : List (S45)))).bind fun bt206 => (if 16 < (x1_1.length : Int) then ((label_With.f k1 t183 (([(⟨(rd_T45 x1_1 16).f0, (rd_T45 x1_1 16).f1⟩ : S45)] : List (S45)))).bind fun bt212 => (if 3 < (x1_1.length : Int) then ((label_With.f k1 t183 (([(⟨(rd_T45 x1_1 3).f0, (rd_T45 x1_1 3).f1⟩ : S45)] : List (S45)))).bind fun bt218 => (if t184 = 0 then ((label_May.f k1 t183).bind fun t220 => (if t220 = true then (if t186 = 5 then (if t189 = 5 then (if t195 = 5 then (if t201 = 5 then (if bt206.2 = 0 then (if bt212.2 = 5 then (if bt218.2 = 5 then ((odometerlaw03_known.f k1).bind fun t221 => (some t221)) else (some false)) else (some false)) else (some false)) else (some false)) else (some false)) else (some false)) else (some false)) else (some false))) else (some false))) else (none))) else (none))) = some r := H
          have A23 := Aside0.mk A230
          clear A230
          obtain ⟨y203, hy203⟩ : ∃ y_ : List (S45), y_ = (([(⟨t202, (⟨#[]⟩ : ByteArray)⟩ : S45)] : List (S45))) := ⟨_, rfl⟩
          replace H : ((label_Name.f k1 (⟨#[109]⟩ : ByteArray) y203).bind fun bt206 => (if 16 < (x1_1.length : Int) then ((label_With.f k1 t183 (([(⟨(rd_T45 x1_1 16).f0, (rd_T45 x1_1 16).f1⟩ : S45)] : List (S45)))).bind fun bt212 => (if 3 < (x1_1.length : Int) then ((label_With.f k1 t183 (([(⟨(rd_T45 x1_1 3).f0, (rd_T45 x1_1 3).f1⟩ : S45)] : List (S45)))).bind fun bt218 => (if t184 = 0 then ((label_May.f k1 t183).bind fun t220 => (if t220 = true then (if t186 = 5 then (if t189 = 5 then (if t195 = 5 then (if t201 = 5 then (if bt206.2 = 0 then (if bt212.2 = 5 then (if bt218.2 = 5 then ((odometerlaw03_known.f k1).bind fun t221 => (some t221)) else (some false)) else (some false)) else (some false)) else (some false)) else (some false)) else (some false)) else (some false)) else (some false))) else (some false))) else (none))) else (none))) = some r := by first | (rw [hy203]; with_reducible exact H) | (have H2_ := (Option.bind_some _ _).symm.trans H; rw [hy203]; with_reducible exact H2_) | (have H2_ := (Option.bind_some _ _).symm.trans H; with_reducible exact H2_) | with_reducible exact H | (rw [hy203]; exact H) | exact H
          have Ny203 := Aside0.mk hy203
          clear hy203
          replace H := Option.bind_eq_some_iff.mp H
          obtain ⟨⟨t206, t207⟩, A240, H⟩ := H
          replace H : (if 16 < (x1_1.length : Int) then ((label_With.f k1 t183 (([(⟨(rd_T45 x1_1 16).f0, (rd_T45 x1_1 16).f1⟩ : S45)] : List (S45)))).bind fun bt212 => (if 3 < (x1_1.length : Int) then ((label_With.f k1 t183 (([(⟨(rd_T45 x1_1 3).f0, (rd_T45 x1_1 3).f1⟩ : S45)] : List (S45)))).bind fun bt218 => (if t184 = 0 then ((label_May.f k1 t183).bind fun t220 => (if t220 = true then (if t186 = 5 then (if t189 = 5 then (if t195 = 5 then (if t201 = 5 then (if t207 = 0 then (if bt212.2 = 5 then (if bt218.2 = 5 then ((odometerlaw03_known.f k1).bind fun t221 => (some t221)) else (some false)) else (some false)) else (some false)) else (some false)) else (some false)) else (some false)) else (some false)) else (some false))) else (some false))) else (none))) else (none)) = some r := H
          have A24 := Aside0.mk A240
          clear A240
          by_cases c25 : 16 < (x1_1.length : Int)
          · rw [if_pos c25] at H
            have c25b0 : decide (16 < (x1_1.length : Int)) = true := decide_eq_true c25
            have c25b1 : decide (16 < x1_1.length) = true := decide_eq_true (by omega)
            clear c25
            obtain ⟨y209, hy209⟩ : ∃ y_ : List (S45), y_ = (([(⟨(rd_T45 x1_1 16).f0, (rd_T45 x1_1 16).f1⟩ : S45)] : List (S45))) := ⟨_, rfl⟩
            replace H : ((label_With.f k1 t183 y209).bind fun bt212 => (if 3 < (x1_1.length : Int) then ((label_With.f k1 t183 (([(⟨(rd_T45 x1_1 3).f0, (rd_T45 x1_1 3).f1⟩ : S45)] : List (S45)))).bind fun bt218 => (if t184 = 0 then ((label_May.f k1 t183).bind fun t220 => (if t220 = true then (if t186 = 5 then (if t189 = 5 then (if t195 = 5 then (if t201 = 5 then (if t207 = 0 then (if bt212.2 = 5 then (if bt218.2 = 5 then ((odometerlaw03_known.f k1).bind fun t221 => (some t221)) else (some false)) else (some false)) else (some false)) else (some false)) else (some false)) else (some false)) else (some false)) else (some false))) else (some false))) else (none))) = some r := by first | (rw [hy209]; with_reducible exact H) | (have H2_ := (Option.bind_some _ _).symm.trans H; rw [hy209]; with_reducible exact H2_) | (have H2_ := (Option.bind_some _ _).symm.trans H; with_reducible exact H2_) | with_reducible exact H | (rw [hy209]; exact H) | exact H
            have Ny209 := Aside0.mk hy209
            clear hy209
            replace H := Option.bind_eq_some_iff.mp H
            obtain ⟨⟨t212, t213⟩, A260, H⟩ := H
            replace H : (if 3 < (x1_1.length : Int) then ((label_With.f k1 t183 (([(⟨(rd_T45 x1_1 3).f0, (rd_T45 x1_1 3).f1⟩ : S45)] : List (S45)))).bind fun bt218 => (if t184 = 0 then ((label_May.f k1 t183).bind fun t220 => (if t220 = true then (if t186 = 5 then (if t189 = 5 then (if t195 = 5 then (if t201 = 5 then (if t207 = 0 then (if t213 = 5 then (if bt218.2 = 5 then ((odometerlaw03_known.f k1).bind fun t221 => (some t221)) else (some false)) else (some false)) else (some false)) else (some false)) else (some false)) else (some false)) else (some false)) else (some false))) else (some false))) else (none)) = some r := H
            have A26 := Aside0.mk A260
            clear A260
            by_cases c27 : 3 < (x1_1.length : Int)
            · rw [if_pos c27] at H
              have c27b0 : decide (3 < (x1_1.length : Int)) = true := decide_eq_true c27
              have c27b1 : decide (3 < x1_1.length) = true := decide_eq_true (by omega)
              clear c27
              obtain ⟨y215, hy215⟩ : ∃ y_ : List (S45), y_ = (([(⟨(rd_T45 x1_1 3).f0, (rd_T45 x1_1 3).f1⟩ : S45)] : List (S45))) := ⟨_, rfl⟩
              replace H : ((label_With.f k1 t183 y215).bind fun bt218 => (if t184 = 0 then ((label_May.f k1 t183).bind fun t220 => (if t220 = true then (if t186 = 5 then (if t189 = 5 then (if t195 = 5 then (if t201 = 5 then (if t207 = 0 then (if t213 = 5 then (if bt218.2 = 5 then ((odometerlaw03_known.f k1).bind fun t221 => (some t221)) else (some false)) else (some false)) else (some false)) else (some false)) else (some false)) else (some false)) else (some false)) else (some false))) else (some false))) = some r := by first | (rw [hy215]; with_reducible exact H) | (have H2_ := (Option.bind_some _ _).symm.trans H; rw [hy215]; with_reducible exact H2_) | (have H2_ := (Option.bind_some _ _).symm.trans H; with_reducible exact H2_) | with_reducible exact H | (rw [hy215]; exact H) | exact H
              have Ny215 := Aside0.mk hy215
              clear hy215
              replace H := Option.bind_eq_some_iff.mp H
              obtain ⟨⟨t218, t219⟩, A280, H⟩ := H
              replace H : (if t184 = 0 then ((label_May.f k1 t183).bind fun t220 => (if t220 = true then (if t186 = 5 then (if t189 = 5 then (if t195 = 5 then (if t201 = 5 then (if t207 = 0 then (if t213 = 5 then (if t219 = 5 then ((odometerlaw03_known.f k1).bind fun t221 => (some t221)) else (some false)) else (some false)) else (some false)) else (some false)) else (some false)) else (some false)) else (some false)) else (some false))) else (some false)) = some r := H
              have A28 := Aside0.mk A280
              clear A280
              by_cases c29 : t184 = 0
              · rw [if_pos c29] at H
                have c29b0 : (t184 == 0) = true := beq_iff_eq.mpr c29
                have c29b1 : (t184 != 0) = false := bne_eq_false_iff_eq.mpr c29
                clear c29
                replace H := Option.bind_eq_some_iff.mp H
                obtain ⟨t220, A300, H⟩ := H
                replace H : (if t220 = true then (if t186 = 5 then (if t189 = 5 then (if t195 = 5 then (if t201 = 5 then (if t207 = 0 then (if t213 = 5 then (if t219 = 5 then ((odometerlaw03_known.f k1).bind fun t221 => (some t221)) else (some false)) else (some false)) else (some false)) else (some false)) else (some false)) else (some false)) else (some false)) else (some false)) = some r := H
                have A30 := Aside0.mk A300
                clear A300
                by_cases c31 : t220 = true
                · subst c31
                  have H1 : (if t186 = 5 then (if t189 = 5 then (if t195 = 5 then (if t201 = 5 then (if t207 = 0 then (if t213 = 5 then (if t219 = 5 then ((odometerlaw03_known.f k1).bind fun t221 => (some t221)) else (some false)) else (some false)) else (some false)) else (some false)) else (some false)) else (some false)) else (some false)) = some r := by rw [if_pos rfl] at H; exact H
                  clear H
                  have H := H1
                  clear H1
                  by_cases c32 : t186 = 5
                  · rw [if_pos c32] at H
                    have c32b0 : (t186 == 5) = true := beq_iff_eq.mpr c32
                    have c32b1 : (t186 != 5) = false := bne_eq_false_iff_eq.mpr c32
                    clear c32
                    by_cases c33 : t189 = 5
                    · rw [if_pos c33] at H
                      have c33b0 : (t189 == 5) = true := beq_iff_eq.mpr c33
                      have c33b1 : (t189 != 5) = false := bne_eq_false_iff_eq.mpr c33
                      clear c33
                      by_cases c34 : t195 = 5
                      · rw [if_pos c34] at H
                        have c34b0 : (t195 == 5) = true := beq_iff_eq.mpr c34
                        have c34b1 : (t195 != 5) = false := bne_eq_false_iff_eq.mpr c34
                        clear c34
                        by_cases c35 : t201 = 5
                        · rw [if_pos c35] at H
                          have c35b0 : (t201 == 5) = true := beq_iff_eq.mpr c35
                          have c35b1 : (t201 != 5) = false := bne_eq_false_iff_eq.mpr c35
                          clear c35
                          by_cases c36 : t207 = 0
                          · rw [if_pos c36] at H
                            have c36b0 : (t207 == 0) = true := beq_iff_eq.mpr c36
                            have c36b1 : (t207 != 0) = false := bne_eq_false_iff_eq.mpr c36
                            clear c36
                            by_cases c37 : t213 = 5
                            · rw [if_pos c37] at H
                              have c37b0 : (t213 == 5) = true := beq_iff_eq.mpr c37
                              have c37b1 : (t213 != 5) = false := bne_eq_false_iff_eq.mpr c37
                              clear c37
                              by_cases c38 : t219 = 5
                              · rw [if_pos c38] at H
                                have c38b0 : (t219 == 5) = true := beq_iff_eq.mpr c38
                                have c38b1 : (t219 != 5) = false := bne_eq_false_iff_eq.mpr c38
                                clear c38
                                replace H := Option.bind_eq_some_iff.mp H
                                obtain ⟨t221, A390, H⟩ := H
                                replace H : (some t221) = some r := H
                                have A39 := Aside0.mk A390
                                clear A390
                                obtain rfl := Option.some.inj H
                                try go_wp2
                                have n0_ := Aside0.mk (Kd.R_drew HO_1.out)
                                have n1_ := Aside0.mk (below_drew1 HB.out)
                                clear HO_1
                                clear HB
                                have HO_1 := n0_
                                have HB := n1_
                                clear n0_ n1_
                                obtain ⟨Ao42, co42, eo42⟩ := Kd.R_slice HO_1.out
                                (first | subst eo42 | (injection eo42 with f1_ f2_ f3_; have f4_ := f1_.symm; have f5_ := f3_.symm; clear f1_ f2_ f3_; subst f4_; subst f5_))
                                have q41 : (16 : Int) ≤ ((x1_1.length : Int) : Int) := of_decide_eq_true (by first | (with_reducible assumption) | assumption)
                                obtain ⟨i041, hi041, _, hsz41, _⟩ := info_parts info45
                                have hroom41 : x1_1.length ≤ co42 := (Kd.R_reads' HO_1.out).2.1
                                have hC41 : Kd.C k45 _ Ao42 x1_1.length x1_1 := (Kd.R_reads' HO_1.out).2.2
                                have hcut41 := cut_to (P := Try.prog) 29 45 .i64 Try.underlying29 hi041 Ao42 x1_1.length co42 16 (by omega) q41 hroom41
                                have hr41 := Kd.C_take (m := 16) hC41 (by omega)
                                have hy41 : y179.length = (16 : Int).toNat := (by rw [Ny179.out, List.length_take]; omega)
                                rw [← Ny179.out] at hr41
                                rw [← hy41] at hcut41
                                have HR182 := Aside0.mk hr41
                                have HC182 := Aside0.mk (show y179.length ≤ co42 from by omega)
                                clear hr41 hC41 hroom41 hi041 hsz41
                                have KY41 := Aside0.mk hy41
                                clear hy41
                                have KL41 := Aside0.mk (show 16 ≤ x1_1.length from by omega)
                                replace q41 := eq_true q41
                                refine start_ (n := 9) (S := fun w' => True) (ds := []) #[false, false, false, false, false, false, false, false, false] (by kernel_rfl) rfl rfl trivial (fun hHeld => ?_); refine with_tabW odometerlaw03_LabelBounds.tab6 odometerlaw03_LabelBounds.bits6 (fun HT_ HW_ => ?_)
                                generalize wr.drew = w40 at HO_1 HB HR182 hHeld ⊢
                                refine pure_ (i := 1) (N := some 36) (v := ?_) (a' := ?_) #[false, true, false, false, false, false, false, false, false] rfl rfl (any_of HT_.out (by kernel_rfl)) (fun _ _ _ h => h) (Or.inl ⟨by rfl, ?_⟩) ?_ ?_
                                rotate_left
                                · intro w'
                                  go_simp
                                  with_reducible rfl
                                rotate_left
                                · simp only [Act.put, List.setIfInBounds_toArray, List.set_cons_zero, List.set_cons_succ, i64_w, i32_w]
                                  rfl
                                refine pure_ (i := 2) (N := some 37) (v := ?_) (a' := ?_) #[false, true, true, false, false, false, false, false, false] rfl rfl (any_of HT_.out (by kernel_rfl)) (fun _ _ _ h => h) (Or.inl ⟨by rfl, ?_⟩) ?_ ?_
                                rotate_left
                                · intro w'
                                  go_simp
                                  with_reducible rfl
                                rotate_left
                                · simp only [Act.put, List.setIfInBounds_toArray, List.set_cons_zero, List.set_cons_succ, i64_w, i32_w]
                                  rfl
                                refine one_ (i := 0) (N := some 35) #[true, true, true, false, false, false, false, false, false] rfl rfl (one_of HT_.out (by kernel_rfl)) (by decide) (fun K hK => ?_)
                                refine goes_ Try.func25 (by kernel_rfl) rfl #[.string (⟨#[109]⟩ : ByteArray), .int .i64 200] (by rfl) rfl rfl (by (try simp only [List.map_toArray, List.map_cons, List.map_nil]); first | done | rfl | (simp only [List.length_drop, List.length_take]; rfl)) ?_
                                with_reducible refine (odometerlaw03_more.calls k1 (⟨#[109]⟩ : ByteArray) 200 t178 _ A13.out).mono ?_
                                rintro e w43 ⟨rfl, hb⟩
                                refine ⟨_, rfl, ?_⟩
                                have n0_ := Aside0.mk (Kd.R_below (by (with_reducible repeat (first | apply Kd.R_alloc | apply Kd.R_drewN | apply Kd.R_drew)); exact HO_1.out) hb)
                                have n1_ := Aside0.mk (Kd.C_below (by repeat (first | (with_reducible exact HR182.out) | (with_reducible refine Kd.C_alloc ?_ _) | (with_reducible refine Kd.C_drewN ?_ _) | (with_reducible refine Kd.C_drew ?_) | exact HR182.out)) hb)
                                have n2_ := Aside0.mk (below_step (by repeat (first | (with_reducible first | exact HB.out | apply below_alloc | apply pw_below_drewN | apply below_drew1) | exact HB.out)) hb)
                                clear HO_1
                                clear HR182
                                clear HB
                                have HO_1 := n0_
                                have HR182 := n1_
                                have HB := n2_
                                clear n0_ n1_ n2_
                                (try clear hb)
                                (try clear hb2)
                                (try clear hk)
                                (try clear hi)
                                refine hK.out _ _ trivial (fun hHeld => ?_)
                                clear hK K
                                refine norm_ (a' := ?_) ?_ ?_
                                rotate_left
                                · show Act.put _ (some 35) _ = _
                                  simp only [Act.put, List.setIfInBounds_toArray, List.set_cons_zero, List.set_cons_succ, i64_w, i32_w]
                                  rfl
                                refine one_ (i := 3) (N := some 38) #[true, true, true, true, false, false, false, false, false] rfl rfl (one_of HT_.out (by kernel_rfl)) (by decide) (fun K hK => ?_)
                                refine goes_ Try.func19 (by kernel_rfl) rfl #[.string t178, .slice Ao42 y179.length co42] (by rfl) rfl rfl (by (try simp only [List.map_toArray, List.map_cons, List.map_nil]); first | done | rfl | (simp only [List.length_drop, List.length_take]; rfl)) ?_
                                with_reducible refine (label_Name.calls k1 t178 _ _ y179 t183 t184 _ ?side1 ?side2 A15.out).mono ?_
                                (case side1 => repeat (first | exact (by repeat (first | (with_reducible exact HR182.out) | (with_reducible refine Kd.C_alloc ?_ _) | (with_reducible refine Kd.C_drewN ?_ _) | (with_reducible refine Kd.C_drew ?_) | exact HR182.out)) | (with_reducible refine Kd.C_alloc ?_ _) | (with_reducible refine Kd.C_drewN ?_ _) | (with_reducible refine Kd.C_drew ?_)))
                                (case side2 => exact HC182.out)
                                rintro e w44 ⟨rfl, hb⟩
                                refine ⟨_, rfl, ?_⟩
                                have n0_ := Aside0.mk (Kd.R_below (by (with_reducible repeat (first | apply Kd.R_alloc | apply Kd.R_drewN | apply Kd.R_drew)); exact HO_1.out) hb)
                                have n1_ := Aside0.mk (Kd.C_below (by repeat (first | (with_reducible exact HR182.out) | (with_reducible refine Kd.C_alloc ?_ _) | (with_reducible refine Kd.C_drewN ?_ _) | (with_reducible refine Kd.C_drew ?_) | exact HR182.out)) hb)
                                have n2_ := Aside0.mk (below_step (by repeat (first | (with_reducible first | exact HB.out | apply below_alloc | apply pw_below_drewN | apply below_drew1) | exact HB.out)) hb)
                                clear HO_1
                                clear HR182
                                clear HB
                                have HO_1 := n0_
                                have HR182 := n1_
                                have HB := n2_
                                clear n0_ n1_ n2_
                                (try clear hb)
                                (try clear hb2)
                                (try clear hk)
                                (try clear hi)
                                refine hK.out _ _ trivial (fun hHeld => ?_)
                                clear hK K
                                refine norm_ (a' := ?_) ?_ ?_
                                rotate_left
                                · show Act.put _ (some 38) _ = _
                                  simp only [Act.put, List.setIfInBounds_toArray, List.set_cons_zero, List.set_cons_succ, i64_w, i32_w]
                                  rfl
                                refine pure_ (i := 4) (N := some 34) (v := ?_) (a' := ?_) #[true, true, true, true, true, false, false, false, false] rfl rfl (any_of HT_.out (by kernel_rfl)) (fun _ _ _ h => h) (Or.inl ⟨by rfl, ?_⟩) ?_ ?_
                                rotate_left
                                · intro w'
                                  go_simp
                                  with_reducible rfl
                                rotate_left
                                · simp only [Act.put, List.setIfInBounds_toArray, List.set_cons_zero, List.set_cons_succ, i64_w, i32_w]
                                  rfl
                                refine pure_ (i := 5) (N := some 39) (v := ?_) (a' := ?_) #[true, true, true, true, true, true, false, false, false] rfl rfl (any_of HT_.out (by kernel_rfl)) (fun _ _ _ h => h) (Or.inl ⟨by rfl, ?_⟩) ?_ ?_
                                rotate_left
                                · intro w'
                                  go_simp
                                  with_reducible rfl
                                rotate_left
                                · simp only [Act.put, List.setIfInBounds_toArray, List.set_cons_zero, List.set_cons_succ, i64_w, i32_w]
                                  rfl
                                refine pure_ (i := 6) (N := some 40) (v := ?_) (a' := ?_) #[true, true, true, true, true, true, true, false, false] rfl rfl (any_of HT_.out (by kernel_rfl)) (fun _ _ _ h => h) (Or.inl ⟨by rfl, ?_⟩) ?_ ?_
                                rotate_left
                                · intro w'
                                  go_simp
                                  with_reducible rfl
                                rotate_left
                                · simp only [Act.put, List.setIfInBounds_toArray, List.set_cons_zero, List.set_cons_succ, i64_w, i32_w]
                                  rfl
                                refine pure_ (i := 7) (N := some 3) (v := ?_) (a' := ?_) #[true, true, true, true, true, true, true, true, false] rfl rfl (any_of HT_.out (by kernel_rfl)) (fun _ _ _ h => h) (Or.inl ⟨by rfl, ?_⟩) ?_ ?_
                                rotate_left
                                · intro w'
                                  go_simp
                                  with_reducible rfl
                                rotate_left
                                · simp only [Act.put, List.setIfInBounds_toArray, List.set_cons_zero, List.set_cons_succ, i64_w, i32_w]
                                  rfl
                                refine pure_ (i := 8) (N := some 4) (v := ?_) (a' := ?_) #[true, true, true, true, true, true, true, true, true] rfl rfl (any_of HT_.out (by kernel_rfl)) (fun _ _ _ h => h) (Or.inl ⟨by rfl, ?_⟩) ?_ ?_
                                rotate_left
                                · intro w'
                                  go_simp
                                  with_reducible rfl
                                rotate_left
                                · simp only [Act.put, List.setIfInBounds_toArray, List.set_cons_zero, List.set_cons_succ, i64_w, i32_w]
                                  rfl
                                refine done_ (done_of HT_.out (by kernel_rfl)) ?_
                                try go_wp2_with (first | ((with_reducible refine gate_callee (f := 19) rfl ?_); refine goesL_ (some 43) rfl rfl Try.func19 (by kernel_rfl) rfl #[.string (⟨#[109]⟩ : ByteArray), .slice Ao42 x1_1.length co42] rfl (by (try simp only [List.map_toArray, List.map_cons, List.map_nil]); first | done | rfl | (simp only [List.length_drop, List.length_take]; rfl)) ?_; (with_reducible refine (label_Name.calls k1 (⟨#[109]⟩ : ByteArray) _ _ x1_1 t185 t186 _ ?side1 ?side2 A16.out).mono ?_); (case side1 => repeat (first | exact (Kd.R_reads' HO_1.out).2.2 | (with_reducible refine Kd.C_alloc ?_ _) | (with_reducible refine Kd.C_drewN ?_ _) | (with_reducible refine Kd.C_drew ?_))); (case side2 => exact (Kd.R_reads' HO_1.out).2.1); rintro e w45 ⟨rfl, hb⟩; refine ⟨_, rfl, ?_⟩; have n0_ := Aside0.mk (Kd.R_below (by (with_reducible repeat (first | apply Kd.R_alloc | apply Kd.R_drewN | apply Kd.R_drew)); exact HO_1.out) hb); have n1_ := Aside0.mk (Kd.C_below (by repeat (first | (with_reducible exact HR182.out) | (with_reducible refine Kd.C_alloc ?_ _) | (with_reducible refine Kd.C_drewN ?_ _) | (with_reducible refine Kd.C_drew ?_) | exact HR182.out)) hb); have n2_ := Aside0.mk (below_step (by repeat (first | (with_reducible first | exact HB.out | apply below_alloc | apply pw_below_drewN | apply below_drew1) | exact HB.out)) hb); clear HO_1; clear HR182; clear HB; have HO_1 := n0_; have HR182 := n1_; have HB := n2_; clear n0_ n1_ n2_; (try clear hb); (try clear hb2); (try clear hk); (try clear hi)) | ((with_reducible refine gate_callee (f := 25) rfl ?_); refine goesL_ (some 47) rfl rfl Try.func25 (by kernel_rfl) rfl #[.string (⟨#[109]⟩ : ByteArray), .int .i64 201] rfl (by (try simp only [List.map_toArray, List.map_cons, List.map_nil]); first | done | rfl | (simp only [List.length_drop, List.length_take]; rfl)) ?_; (with_reducible refine (odometerlaw03_more.calls k1 (⟨#[109]⟩ : ByteArray) 201 t187 _ A17.out).mono ?_); rintro e w46 ⟨rfl, hb⟩; refine ⟨_, rfl, ?_⟩; have n0_ := Aside0.mk (Kd.R_below (by (with_reducible repeat (first | apply Kd.R_alloc | apply Kd.R_drewN | apply Kd.R_drew)); exact HO_1.out) hb); have n1_ := Aside0.mk (Kd.C_below (by repeat (first | (with_reducible exact HR182.out) | (with_reducible refine Kd.C_alloc ?_ _) | (with_reducible refine Kd.C_drewN ?_ _) | (with_reducible refine Kd.C_drew ?_) | exact HR182.out)) hb); have n2_ := Aside0.mk (below_step (by repeat (first | (with_reducible first | exact HB.out | apply below_alloc | apply pw_below_drewN | apply below_drew1) | exact HB.out)) hb); clear HO_1; clear HR182; clear HB; have HO_1 := n0_; have HR182 := n1_; have HB := n2_; clear n0_ n1_ n2_; (try clear hb); (try clear hb2); (try clear hk); (try clear hi)) | ((with_reducible refine gate_callee (f := 19) rfl ?_); refine goesL_ (some 48) rfl rfl Try.func19 (by kernel_rfl) rfl #[.string t187, .slice none 0 0] rfl (by (try simp only [List.map_toArray, List.map_cons, List.map_nil]); first | done | rfl | (simp only [List.length_drop, List.length_take]; rfl)) ?_; (refine (label_Name.calls k1 t187 _ _ ([] : List (S45)) t188 t189 _ ?side1 ?side2 A18.out).mono ?_); (case side1 => exact Kd.C_nil _ _); (case side2 => exact Nat.le_refl _); rintro e w47 ⟨rfl, hb⟩; refine ⟨_, rfl, ?_⟩; have n0_ := Aside0.mk (Kd.R_below (by (with_reducible repeat (first | apply Kd.R_alloc | apply Kd.R_drewN | apply Kd.R_drew)); exact HO_1.out) hb); have n1_ := Aside0.mk (Kd.C_below (by repeat (first | (with_reducible exact HR182.out) | (with_reducible refine Kd.C_alloc ?_ _) | (with_reducible refine Kd.C_drewN ?_ _) | (with_reducible refine Kd.C_drew ?_) | exact HR182.out)) hb); have n2_ := Aside0.mk (below_step (by repeat (first | (with_reducible first | exact HB.out | apply below_alloc | apply pw_below_drewN | apply below_drew1) | exact HB.out)) hb); clear HO_1; clear HR182; clear HB; have HO_1 := n0_; have HR182 := n1_; have HB := n2_; clear n0_ n1_ n2_; (try clear hb); (try clear hb2); (try clear hk); (try clear hi)) | ((with_reducible refine gate_callee (f := 25) rfl ?_); refine goesL_ (some 52) rfl rfl Try.func25 (by kernel_rfl) rfl #[.string (⟨#[120]⟩ : ByteArray), .int .i64 1025] rfl (by (try simp only [List.map_toArray, List.map_cons, List.map_nil]); first | done | rfl | (simp only [List.length_drop, List.length_take]; rfl)) ?_; (with_reducible refine (odometerlaw03_more.calls k1 (⟨#[120]⟩ : ByteArray) 1025 t190 _ A19.out).mono ?_); rintro e w48 ⟨rfl, hb⟩; refine ⟨_, rfl, ?_⟩; have n0_ := Aside0.mk (Kd.R_below (by (with_reducible repeat (first | apply Kd.R_alloc | apply Kd.R_drewN | apply Kd.R_drew)); exact HO_1.out) hb); have n1_ := Aside0.mk (Kd.C_below (by repeat (first | (with_reducible exact HR182.out) | (with_reducible refine Kd.C_alloc ?_ _) | (with_reducible refine Kd.C_drewN ?_ _) | (with_reducible refine Kd.C_drew ?_) | exact HR182.out)) hb); have n2_ := Aside0.mk (below_step (by repeat (first | (with_reducible first | exact HB.out | apply below_alloc | apply pw_below_drewN | apply below_drew1) | exact HB.out)) hb); clear HO_1; clear HR182; clear HB; have HO_1 := n0_; have HR182 := n1_; have HB := n2_; clear n0_ n1_ n2_; (try clear hb); (try clear hb2); (try clear hk); (try clear hi)) | ((with_reducible refine gate_dst (N := 54) rfl ?_); refine Kd.R_lit k45 _ 45 ?hg (N := 54) ?hd (xs := ([(⟨(⟨#[97]⟩ : ByteArray), t190⟩ : S45)] : List (S45))) (inner := [.string (⟨#[97]⟩ : ByteArray), .string t190]) (ok := fun _ => True) (okp := fun _ => True) ?hr ?hp (fun _ hk => hk) trivial (Below.refl _ _) (Nat.le_refl _) (by simp) ?_; (case hd => rfl); (case hg => rfl); (case hr => first | (go_simp; done) | (go_simp; rfl)); (case hp => exact (Reps.c2 (show Kd.M k45 _ _ _ (⟨(⟨#[97]⟩ : ByteArray), t190⟩ : S45) [.string (⟨#[97]⟩ : ByteArray), .string t190] from (k45_mkM _ _ _ (⟨(⟨#[97]⟩ : ByteArray), t190⟩ : S45) )) (Reps.none _ _))); intro v192 w49 ho50 hb hg_ hnew_; clear hg_ hnew_; (first | rw [← Ny191.out] at ho50 | (simp only [Int.reduceToNat] at ho50; rw [← Ny191.out] at ho50)); have n0_ := Aside0.mk (Kd.R_elder' (by (with_reducible repeat (first | apply Kd.R_alloc | apply Kd.R_drewN | apply Kd.R_drew)); exact HO_1.out) (Kd.R_base ho50) hb); have n1_ := Aside0.mk (Kd.R_lower (Kd.R_new' ho50 (Kd.R_lt (by (with_reducible repeat (first | apply Kd.R_alloc | apply Kd.R_drewN | apply Kd.R_drew)); exact HO_1.out))) (below_size (by repeat (first | (with_reducible first | exact HB.out | apply below_alloc | apply pw_below_drewN | apply below_drew1) | exact HB.out)))); have n2_ := Aside0.mk (Kd.C_below (by repeat (first | (with_reducible exact HR182.out) | (with_reducible refine Kd.C_alloc ?_ _) | (with_reducible refine Kd.C_drewN ?_ _) | (with_reducible refine Kd.C_drew ?_) | exact HR182.out)) hb); have n3_ := Aside0.mk (below_step (by repeat (first | (with_reducible first | exact HB.out | apply below_alloc | apply pw_below_drewN | apply below_drew1) | exact HB.out)) hb); clear HO_1; clear HR182; clear HB; have HO_1 := n0_; have HO193 := n1_; have HR182 := n2_; have HB := n3_; clear n0_ n1_ n2_ n3_; clear hb ho50; obtain ⟨Ao51, co51, eo51⟩ := Kd.R_slice HO193.out; subst eo51) | ((with_reducible refine gate_callee (f := 19) rfl ?_); refine goesL_ (some 55) rfl rfl Try.func19 (by kernel_rfl) rfl #[.string (⟨#[109]⟩ : ByteArray), .slice Ao51 y191.length co51] rfl (by (try simp only [List.map_toArray, List.map_cons, List.map_nil]); first | done | rfl | (simp only [List.length_drop, List.length_take]; rfl)) ?_; (with_reducible refine (label_Name.calls k1 (⟨#[109]⟩ : ByteArray) _ _ y191 t194 t195 _ ?side1 ?side2 A20.out).mono ?_); (case side1 => repeat (first | exact (Kd.R_reads' HO193.out).2.2 | (with_reducible refine Kd.C_alloc ?_ _) | (with_reducible refine Kd.C_drewN ?_ _) | (with_reducible refine Kd.C_drew ?_))); (case side2 => exact (Kd.R_reads' HO193.out).2.1); rintro e w52 ⟨rfl, hb⟩; refine ⟨_, rfl, ?_⟩; have n0_ := Aside0.mk (Kd.R_below (by (with_reducible repeat (first | apply Kd.R_alloc | apply Kd.R_drewN | apply Kd.R_drew)); exact HO_1.out) hb); have n1_ := Aside0.mk (Kd.R_below (by (with_reducible repeat (first | apply Kd.R_alloc | apply Kd.R_drewN | apply Kd.R_drew)); exact HO193.out) hb); have n2_ := Aside0.mk (Kd.C_below (by repeat (first | (with_reducible exact HR182.out) | (with_reducible refine Kd.C_alloc ?_ _) | (with_reducible refine Kd.C_drewN ?_ _) | (with_reducible refine Kd.C_drew ?_) | exact HR182.out)) hb); have n3_ := Aside0.mk (below_step (by repeat (first | (with_reducible first | exact HB.out | apply below_alloc | apply pw_below_drewN | apply below_drew1) | exact HB.out)) hb); clear HO_1; clear HO193; clear HR182; clear HB; have HO_1 := n0_; have HO193 := n1_; have HR182 := n2_; have HB := n3_; clear n0_ n1_ n2_ n3_; (try clear hb); (try clear hb2); (try clear hk); (try clear hi)) | ((with_reducible refine gate_callee (f := 25) rfl ?_); refine goesL_ (some 59) rfl rfl Try.func25 (by kernel_rfl) rfl #[.string (⟨#[97]⟩ : ByteArray), .int .i64 201] rfl (by (try simp only [List.map_toArray, List.map_cons, List.map_nil]); first | done | rfl | (simp only [List.length_drop, List.length_take]; rfl)) ?_; (with_reducible refine (odometerlaw03_more.calls k1 (⟨#[97]⟩ : ByteArray) 201 t196 _ A21.out).mono ?_); rintro e w53 ⟨rfl, hb⟩; refine ⟨_, rfl, ?_⟩; have n0_ := Aside0.mk (Kd.R_below (by (with_reducible repeat (first | apply Kd.R_alloc | apply Kd.R_drewN | apply Kd.R_drew)); exact HO_1.out) hb); have n1_ := Aside0.mk (Kd.R_below (by (with_reducible repeat (first | apply Kd.R_alloc | apply Kd.R_drewN | apply Kd.R_drew)); exact HO193.out) hb); have n2_ := Aside0.mk (Kd.C_below (by repeat (first | (with_reducible exact HR182.out) | (with_reducible refine Kd.C_alloc ?_ _) | (with_reducible refine Kd.C_drewN ?_ _) | (with_reducible refine Kd.C_drew ?_) | exact HR182.out)) hb); have n3_ := Aside0.mk (below_step (by repeat (first | (with_reducible first | exact HB.out | apply below_alloc | apply pw_below_drewN | apply below_drew1) | exact HB.out)) hb); clear HO_1; clear HO193; clear HR182; clear HB; have HO_1 := n0_; have HO193 := n1_; have HR182 := n2_; have HB := n3_; clear n0_ n1_ n2_ n3_; (try clear hb); (try clear hb2); (try clear hk); (try clear hi)) | ((with_reducible refine gate_dst (N := 61) rfl ?_); refine Kd.R_lit k45 _ 45 ?hg (N := 61) ?hd (xs := ([(⟨t196, (⟨#[]⟩ : ByteArray)⟩ : S45)] : List (S45))) (inner := [.string t196, .string (⟨#[]⟩ : ByteArray)]) (ok := fun _ => True) (okp := fun _ => True) ?hr ?hp (fun _ hk => hk) trivial (Below.refl _ _) (Nat.le_refl _) (by simp) ?_; (case hd => rfl); (case hg => rfl); (case hr => first | (go_simp; done) | (go_simp; rfl)); (case hp => exact (Reps.c2 (show Kd.M k45 _ _ _ (⟨t196, (⟨#[]⟩ : ByteArray)⟩ : S45) [.string t196, .string (⟨#[]⟩ : ByteArray)] from (k45_mkM _ _ _ (⟨t196, (⟨#[]⟩ : ByteArray)⟩ : S45) )) (Reps.none _ _))); intro v198 w54 ho55 hb hg_ hnew_; clear hg_ hnew_; (first | rw [← Ny197.out] at ho55 | (simp only [Int.reduceToNat] at ho55; rw [← Ny197.out] at ho55)); have n0_ := Aside0.mk (Kd.R_elder' (by (with_reducible repeat (first | apply Kd.R_alloc | apply Kd.R_drewN | apply Kd.R_drew)); exact HO_1.out) (Kd.R_base ho55) hb); have n1_ := Aside0.mk (Kd.R_elder' (by (with_reducible repeat (first | apply Kd.R_alloc | apply Kd.R_drewN | apply Kd.R_drew)); exact HO193.out) (Kd.R_base ho55) hb); have n2_ := Aside0.mk (Kd.R_lower (Kd.R_new' (Kd.R_new' ho55 (Kd.R_lt (by (with_reducible repeat (first | apply Kd.R_alloc | apply Kd.R_drewN | apply Kd.R_drew)); exact HO_1.out))) (Kd.R_lt (by (with_reducible repeat (first | apply Kd.R_alloc | apply Kd.R_drewN | apply Kd.R_drew)); exact HO193.out))) (below_size (by repeat (first | (with_reducible first | exact HB.out | apply below_alloc | apply pw_below_drewN | apply below_drew1) | exact HB.out)))); have n3_ := Aside0.mk (Kd.C_below (by repeat (first | (with_reducible exact HR182.out) | (with_reducible refine Kd.C_alloc ?_ _) | (with_reducible refine Kd.C_drewN ?_ _) | (with_reducible refine Kd.C_drew ?_) | exact HR182.out)) hb); have n4_ := Aside0.mk (below_step (by repeat (first | (with_reducible first | exact HB.out | apply below_alloc | apply pw_below_drewN | apply below_drew1) | exact HB.out)) hb); clear HO_1; clear HO193; clear HR182; clear HB; have HO_1 := n0_; have HO193 := n1_; have HO199 := n2_; have HR182 := n3_; have HB := n4_; clear n0_ n1_ n2_ n3_ n4_; clear hb ho55; obtain ⟨Ao56, co56, eo56⟩ := Kd.R_slice HO199.out; subst eo56) | ((with_reducible refine gate_callee (f := 19) rfl ?_); refine goesL_ (some 62) rfl rfl Try.func19 (by kernel_rfl) rfl #[.string (⟨#[109]⟩ : ByteArray), .slice Ao56 y197.length co56] rfl (by (try simp only [List.map_toArray, List.map_cons, List.map_nil]); first | done | rfl | (simp only [List.length_drop, List.length_take]; rfl)) ?_; (with_reducible refine (label_Name.calls k1 (⟨#[109]⟩ : ByteArray) _ _ y197 t200 t201 _ ?side1 ?side2 A22.out).mono ?_); (case side1 => repeat (first | exact (Kd.R_reads' HO199.out).2.2 | (with_reducible refine Kd.C_alloc ?_ _) | (with_reducible refine Kd.C_drewN ?_ _) | (with_reducible refine Kd.C_drew ?_))); (case side2 => exact (Kd.R_reads' HO199.out).2.1); rintro e w57 ⟨rfl, hb⟩; refine ⟨_, rfl, ?_⟩; have n0_ := Aside0.mk (Kd.R_below (by (with_reducible repeat (first | apply Kd.R_alloc | apply Kd.R_drewN | apply Kd.R_drew)); exact HO_1.out) hb); have n1_ := Aside0.mk (Kd.R_below (by (with_reducible repeat (first | apply Kd.R_alloc | apply Kd.R_drewN | apply Kd.R_drew)); exact HO193.out) hb); have n2_ := Aside0.mk (Kd.R_below (by (with_reducible repeat (first | apply Kd.R_alloc | apply Kd.R_drewN | apply Kd.R_drew)); exact HO199.out) hb); have n3_ := Aside0.mk (Kd.C_below (by repeat (first | (with_reducible exact HR182.out) | (with_reducible refine Kd.C_alloc ?_ _) | (with_reducible refine Kd.C_drewN ?_ _) | (with_reducible refine Kd.C_drew ?_) | exact HR182.out)) hb); have n4_ := Aside0.mk (below_step (by repeat (first | (with_reducible first | exact HB.out | apply below_alloc | apply pw_below_drewN | apply below_drew1) | exact HB.out)) hb); clear HO_1; clear HO193; clear HO199; clear HR182; clear HB; have HO_1 := n0_; have HO193 := n1_; have HO199 := n2_; have HR182 := n3_; have HB := n4_; clear n0_ n1_ n2_ n3_ n4_; (try clear hb); (try clear hb2); (try clear hk); (try clear hi)) | ((with_reducible refine gate_callee (f := 25) rfl ?_); refine goesL_ (some 66) rfl rfl Try.func25 (by kernel_rfl) rfl #[.string (⟨#[97]⟩ : ByteArray), .int .i64 200] rfl (by (try simp only [List.map_toArray, List.map_cons, List.map_nil]); first | done | rfl | (simp only [List.length_drop, List.length_take]; rfl)) ?_; (with_reducible refine (odometerlaw03_more.calls k1 (⟨#[97]⟩ : ByteArray) 200 t202 _ A23.out).mono ?_); rintro e w58 ⟨rfl, hb⟩; refine ⟨_, rfl, ?_⟩; have n0_ := Aside0.mk (Kd.R_below (by (with_reducible repeat (first | apply Kd.R_alloc | apply Kd.R_drewN | apply Kd.R_drew)); exact HO_1.out) hb); have n1_ := Aside0.mk (Kd.R_below (by (with_reducible repeat (first | apply Kd.R_alloc | apply Kd.R_drewN | apply Kd.R_drew)); exact HO193.out) hb); have n2_ := Aside0.mk (Kd.R_below (by (with_reducible repeat (first | apply Kd.R_alloc | apply Kd.R_drewN | apply Kd.R_drew)); exact HO199.out) hb); have n3_ := Aside0.mk (Kd.C_below (by repeat (first | (with_reducible exact HR182.out) | (with_reducible refine Kd.C_alloc ?_ _) | (with_reducible refine Kd.C_drewN ?_ _) | (with_reducible refine Kd.C_drew ?_) | exact HR182.out)) hb); have n4_ := Aside0.mk (below_step (by repeat (first | (with_reducible first | exact HB.out | apply below_alloc | apply pw_below_drewN | apply below_drew1) | exact HB.out)) hb); clear HO_1; clear HO193; clear HO199; clear HR182; clear HB; have HO_1 := n0_; have HO193 := n1_; have HO199 := n2_; have HR182 := n3_; have HB := n4_; clear n0_ n1_ n2_ n3_ n4_; (try clear hb); (try clear hb2); (try clear hk); (try clear hi)) | ((with_reducible refine gate_dst (N := 68) rfl ?_); refine Kd.R_lit k45 _ 45 ?hg (N := 68) ?hd (xs := ([(⟨t202, (⟨#[]⟩ : ByteArray)⟩ : S45)] : List (S45))) (inner := [.string t202, .string (⟨#[]⟩ : ByteArray)]) (ok := fun _ => True) (okp := fun _ => True) ?hr ?hp (fun _ hk => hk) trivial (Below.refl _ _) (Nat.le_refl _) (by simp) ?_; (case hd => rfl); (case hg => rfl); (case hr => first | (go_simp; done) | (go_simp; rfl)); (case hp => exact (Reps.c2 (show Kd.M k45 _ _ _ (⟨t202, (⟨#[]⟩ : ByteArray)⟩ : S45) [.string t202, .string (⟨#[]⟩ : ByteArray)] from (k45_mkM _ _ _ (⟨t202, (⟨#[]⟩ : ByteArray)⟩ : S45) )) (Reps.none _ _))); intro v204 w59 ho60 hb hg_ hnew_; clear hg_ hnew_; (first | rw [← Ny203.out] at ho60 | (simp only [Int.reduceToNat] at ho60; rw [← Ny203.out] at ho60)); have n0_ := Aside0.mk (Kd.R_elder' (by (with_reducible repeat (first | apply Kd.R_alloc | apply Kd.R_drewN | apply Kd.R_drew)); exact HO_1.out) (Kd.R_base ho60) hb); have n1_ := Aside0.mk (Kd.R_elder' (by (with_reducible repeat (first | apply Kd.R_alloc | apply Kd.R_drewN | apply Kd.R_drew)); exact HO193.out) (Kd.R_base ho60) hb); have n2_ := Aside0.mk (Kd.R_elder' (by (with_reducible repeat (first | apply Kd.R_alloc | apply Kd.R_drewN | apply Kd.R_drew)); exact HO199.out) (Kd.R_base ho60) hb); have n3_ := Aside0.mk (Kd.R_lower (Kd.R_new' (Kd.R_new' (Kd.R_new' ho60 (Kd.R_lt (by (with_reducible repeat (first | apply Kd.R_alloc | apply Kd.R_drewN | apply Kd.R_drew)); exact HO_1.out))) (Kd.R_lt (by (with_reducible repeat (first | apply Kd.R_alloc | apply Kd.R_drewN | apply Kd.R_drew)); exact HO193.out))) (Kd.R_lt (by (with_reducible repeat (first | apply Kd.R_alloc | apply Kd.R_drewN | apply Kd.R_drew)); exact HO199.out))) (below_size (by repeat (first | (with_reducible first | exact HB.out | apply below_alloc | apply pw_below_drewN | apply below_drew1) | exact HB.out)))); have n4_ := Aside0.mk (Kd.C_below (by repeat (first | (with_reducible exact HR182.out) | (with_reducible refine Kd.C_alloc ?_ _) | (with_reducible refine Kd.C_drewN ?_ _) | (with_reducible refine Kd.C_drew ?_) | exact HR182.out)) hb); have n5_ := Aside0.mk (below_step (by repeat (first | (with_reducible first | exact HB.out | apply below_alloc | apply pw_below_drewN | apply below_drew1) | exact HB.out)) hb); clear HO_1; clear HO193; clear HO199; clear HR182; clear HB; have HO_1 := n0_; have HO193 := n1_; have HO199 := n2_; have HO205 := n3_; have HR182 := n4_; have HB := n5_; clear n0_ n1_ n2_ n3_ n4_ n5_; clear hb ho60; obtain ⟨Ao61, co61, eo61⟩ := Kd.R_slice HO205.out; subst eo61) | ((with_reducible refine gate_callee (f := 19) rfl ?_); refine goesL_ (some 69) rfl rfl Try.func19 (by kernel_rfl) rfl #[.string (⟨#[109]⟩ : ByteArray), .slice Ao61 y203.length co61] rfl (by (try simp only [List.map_toArray, List.map_cons, List.map_nil]); first | done | rfl | (simp only [List.length_drop, List.length_take]; rfl)) ?_; (with_reducible refine (label_Name.calls k1 (⟨#[109]⟩ : ByteArray) _ _ y203 t206 t207 _ ?side1 ?side2 A24.out).mono ?_); (case side1 => repeat (first | exact (Kd.R_reads' HO205.out).2.2 | (with_reducible refine Kd.C_alloc ?_ _) | (with_reducible refine Kd.C_drewN ?_ _) | (with_reducible refine Kd.C_drew ?_))); (case side2 => exact (Kd.R_reads' HO205.out).2.1); rintro e w62 ⟨rfl, hb⟩; refine ⟨_, rfl, ?_⟩; have n0_ := Aside0.mk (Kd.R_below (by (with_reducible repeat (first | apply Kd.R_alloc | apply Kd.R_drewN | apply Kd.R_drew)); exact HO_1.out) hb); have n1_ := Aside0.mk (Kd.R_below (by (with_reducible repeat (first | apply Kd.R_alloc | apply Kd.R_drewN | apply Kd.R_drew)); exact HO193.out) hb); have n2_ := Aside0.mk (Kd.R_below (by (with_reducible repeat (first | apply Kd.R_alloc | apply Kd.R_drewN | apply Kd.R_drew)); exact HO199.out) hb); have n3_ := Aside0.mk (Kd.R_below (by (with_reducible repeat (first | apply Kd.R_alloc | apply Kd.R_drewN | apply Kd.R_drew)); exact HO205.out) hb); have n4_ := Aside0.mk (Kd.C_below (by repeat (first | (with_reducible exact HR182.out) | (with_reducible refine Kd.C_alloc ?_ _) | (with_reducible refine Kd.C_drewN ?_ _) | (with_reducible refine Kd.C_drew ?_) | exact HR182.out)) hb); have n5_ := Aside0.mk (below_step (by repeat (first | (with_reducible first | exact HB.out | apply below_alloc | apply pw_below_drewN | apply below_drew1) | exact HB.out)) hb); clear HO_1; clear HO193; clear HO199; clear HO205; clear HR182; clear HB; have HO_1 := n0_; have HO193 := n1_; have HO199 := n2_; have HO205 := n3_; have HR182 := n4_; have HB := n5_; clear n0_ n1_ n2_ n3_ n4_ n5_; (try clear hb); (try clear hb2); (try clear hk); (try clear hi); have p208 : 0 ≤ (16 : Int) := (by omega); have q208 : 16 < (x1_1.length : Int) := of_decide_eq_true (by first | (with_reducible assumption) | assumption); obtain ⟨ad208, e208, hx208_0, hx208_1⟩ := at_T45 (Kd.R_reads' HO_1.out).2.2 16 p208 q208; cases e208; (try simp only [show (16 : Int).toNat = 16 from rfl, Nat.reduceMul, Nat.reduceEqDiff, Go.Addr.add, ↓reduceIte] at hx208_0); (try simp only [show (16 : Int).toNat = 16 from rfl, Nat.reduceMul, Nat.reduceEqDiff, Go.Addr.add, ↓reduceIte] at hx208_1); have qi208 : (16 < x1_1.length) = True := eq_true (by omega); (try rw [show ((16 : Int)).toNat = 16 from rfl] at hx208_0); (try rw [show 16 * 2 = 32 from rfl] at hx208_0); (try rw [show ((16 : Int)).toNat = 16 from rfl] at hx208_1); (try rw [show 16 * 2 = 32 from rfl] at hx208_1); replace p208 := eq_true p208; replace q208 := eq_true q208) | ((with_reducible refine gate_dst (N := 77) rfl ?_); refine Kd.R_lit k45 _ 45 ?hg (N := 77) ?hd (xs := ([(⟨(rd_T45 x1_1 16).f0, (rd_T45 x1_1 16).f1⟩ : S45)] : List (S45))) (inner := [.string ((rd_T45 x1_1 16).f0), .string ((rd_T45 x1_1 16).f1)]) (ok := fun _ => True) (okp := fun _ => True) ?hr ?hp (fun _ hk => hk) trivial (Below.refl _ _) (Nat.le_refl _) (by simp) ?_; (case hd => rfl); (case hg => rfl); (case hr => first | (go_simp; done) | (go_simp; rfl)); (case hp => exact (Reps.c2 (show Kd.M k45 _ _ _ (⟨(rd_T45 x1_1 16).f0, (rd_T45 x1_1 16).f1⟩ : S45) [.string ((rd_T45 x1_1 16).f0), .string ((rd_T45 x1_1 16).f1)] from (k45_mkM _ _ _ (⟨(rd_T45 x1_1 16).f0, (rd_T45 x1_1 16).f1⟩ : S45) )) (Reps.none _ _))); intro v210 w63 ho64 hb hg_ hnew_; clear hg_ hnew_; (first | rw [← Ny209.out] at ho64 | (simp only [Int.reduceToNat] at ho64; rw [← Ny209.out] at ho64)); have n0_ := Aside0.mk (Kd.R_elder' (by (with_reducible repeat (first | apply Kd.R_alloc | apply Kd.R_drewN | apply Kd.R_drew)); exact HO_1.out) (Kd.R_base ho64) hb); have n1_ := Aside0.mk (Kd.R_elder' (by (with_reducible repeat (first | apply Kd.R_alloc | apply Kd.R_drewN | apply Kd.R_drew)); exact HO193.out) (Kd.R_base ho64) hb); have n2_ := Aside0.mk (Kd.R_elder' (by (with_reducible repeat (first | apply Kd.R_alloc | apply Kd.R_drewN | apply Kd.R_drew)); exact HO199.out) (Kd.R_base ho64) hb); have n3_ := Aside0.mk (Kd.R_elder' (by (with_reducible repeat (first | apply Kd.R_alloc | apply Kd.R_drewN | apply Kd.R_drew)); exact HO205.out) (Kd.R_base ho64) hb); have n4_ := Aside0.mk (Kd.R_lower (Kd.R_new' (Kd.R_new' (Kd.R_new' (Kd.R_new' ho64 (Kd.R_lt (by (with_reducible repeat (first | apply Kd.R_alloc | apply Kd.R_drewN | apply Kd.R_drew)); exact HO_1.out))) (Kd.R_lt (by (with_reducible repeat (first | apply Kd.R_alloc | apply Kd.R_drewN | apply Kd.R_drew)); exact HO193.out))) (Kd.R_lt (by (with_reducible repeat (first | apply Kd.R_alloc | apply Kd.R_drewN | apply Kd.R_drew)); exact HO199.out))) (Kd.R_lt (by (with_reducible repeat (first | apply Kd.R_alloc | apply Kd.R_drewN | apply Kd.R_drew)); exact HO205.out))) (below_size (by repeat (first | (with_reducible first | exact HB.out | apply below_alloc | apply pw_below_drewN | apply below_drew1) | exact HB.out)))); have n5_ := Aside0.mk (Kd.C_below (by repeat (first | (with_reducible exact HR182.out) | (with_reducible refine Kd.C_alloc ?_ _) | (with_reducible refine Kd.C_drewN ?_ _) | (with_reducible refine Kd.C_drew ?_) | exact HR182.out)) hb); have n6_ := Aside0.mk (below_step (by repeat (first | (with_reducible first | exact HB.out | apply below_alloc | apply pw_below_drewN | apply below_drew1) | exact HB.out)) hb); clear HO_1; clear HO193; clear HO199; clear HO205; clear HR182; clear HB; have HO_1 := n0_; have HO193 := n1_; have HO199 := n2_; have HO205 := n3_; have HO211 := n4_; have HR182 := n5_; have HB := n6_; clear n0_ n1_ n2_ n3_ n4_ n5_ n6_; clear hb ho64; obtain ⟨Ao65, co65, eo65⟩ := Kd.R_slice HO211.out; subst eo65) | ((with_reducible refine gate_callee (f := 26) rfl ?_); refine goesL_ (some 78) rfl rfl Try.func26 (by kernel_rfl) rfl #[.string t183, .slice Ao65 y209.length co65] rfl (by (try simp only [List.map_toArray, List.map_cons, List.map_nil]); first | done | rfl | (simp only [List.length_drop, List.length_take]; rfl)) ?_; (with_reducible refine (label_With.calls k1 t183 _ _ y209 t212 t213 _ ?side3 ?side1 ?side2 A26.out).mono ?_); (case side1 => repeat (first | exact (Kd.R_reads' HO211.out).2.2 | (with_reducible refine Kd.C_alloc ?_ _) | (with_reducible refine Kd.C_drewN ?_ _) | (with_reducible refine Kd.C_drew ?_))); (case side2 => exact (Kd.R_reads' HO211.out).2.1); (case side3 => exact SH.below hSH (by repeat (first | (with_reducible first | exact HB.out | apply below_alloc | apply pw_below_drewN | apply below_drew1) | exact HB.out))); rintro e w66 ⟨rfl, hb⟩; refine ⟨_, rfl, ?_⟩; have n0_ := Aside0.mk (Kd.R_below (by (with_reducible repeat (first | apply Kd.R_alloc | apply Kd.R_drewN | apply Kd.R_drew)); exact HO_1.out) hb); have n1_ := Aside0.mk (Kd.R_below (by (with_reducible repeat (first | apply Kd.R_alloc | apply Kd.R_drewN | apply Kd.R_drew)); exact HO193.out) hb); have n2_ := Aside0.mk (Kd.R_below (by (with_reducible repeat (first | apply Kd.R_alloc | apply Kd.R_drewN | apply Kd.R_drew)); exact HO199.out) hb); have n3_ := Aside0.mk (Kd.R_below (by (with_reducible repeat (first | apply Kd.R_alloc | apply Kd.R_drewN | apply Kd.R_drew)); exact HO205.out) hb); have n4_ := Aside0.mk (Kd.R_below (by (with_reducible repeat (first | apply Kd.R_alloc | apply Kd.R_drewN | apply Kd.R_drew)); exact HO211.out) hb); have n5_ := Aside0.mk (Kd.C_below (by repeat (first | (with_reducible exact HR182.out) | (with_reducible refine Kd.C_alloc ?_ _) | (with_reducible refine Kd.C_drewN ?_ _) | (with_reducible refine Kd.C_drew ?_) | exact HR182.out)) hb); have n6_ := Aside0.mk (below_step (by repeat (first | (with_reducible first | exact HB.out | apply below_alloc | apply pw_below_drewN | apply below_drew1) | exact HB.out)) hb); clear HO_1; clear HO193; clear HO199; clear HO205; clear HO211; clear HR182; clear HB; have HO_1 := n0_; have HO193 := n1_; have HO199 := n2_; have HO205 := n3_; have HO211 := n4_; have HR182 := n5_; have HB := n6_; clear n0_ n1_ n2_ n3_ n4_ n5_ n6_; (try clear hb); (try clear hb2); (try clear hk); (try clear hi); have p214 : 0 ≤ (3 : Int) := (by omega); have q214 : 3 < (x1_1.length : Int) := of_decide_eq_true (by first | (with_reducible assumption) | assumption); obtain ⟨ad214, e214, hx214_0, hx214_1⟩ := at_T45 (Kd.R_reads' HO_1.out).2.2 3 p214 q214; obtain rfl : ad208 = ad214 := (by injection e214); (try simp only [show (3 : Int).toNat = 3 from rfl, Nat.reduceMul, Nat.reduceEqDiff, Go.Addr.add, ↓reduceIte] at hx214_0); (try simp only [show (3 : Int).toNat = 3 from rfl, Nat.reduceMul, Nat.reduceEqDiff, Go.Addr.add, ↓reduceIte] at hx214_1); have qi214 : (3 < x1_1.length) = True := eq_true (by omega); (try rw [show ((3 : Int)).toNat = 3 from rfl] at hx214_0); (try rw [show 3 * 2 = 6 from rfl] at hx214_0); (try rw [show ((3 : Int)).toNat = 3 from rfl] at hx214_1); (try rw [show 3 * 2 = 6 from rfl] at hx214_1); replace p214 := eq_true p214; replace q214 := eq_true q214) | ((with_reducible refine gate_dst (N := 86) rfl ?_); refine Kd.R_lit k45 _ 45 ?hg (N := 86) ?hd (xs := ([(⟨(rd_T45 x1_1 3).f0, (rd_T45 x1_1 3).f1⟩ : S45)] : List (S45))) (inner := [.string ((rd_T45 x1_1 3).f0), .string ((rd_T45 x1_1 3).f1)]) (ok := fun _ => True) (okp := fun _ => True) ?hr ?hp (fun _ hk => hk) trivial (Below.refl _ _) (Nat.le_refl _) (by simp) ?_; (case hd => rfl); (case hg => rfl); (case hr => first | (go_simp; done) | (go_simp; rfl)); (case hp => exact (Reps.c2 (show Kd.M k45 _ _ _ (⟨(rd_T45 x1_1 3).f0, (rd_T45 x1_1 3).f1⟩ : S45) [.string ((rd_T45 x1_1 3).f0), .string ((rd_T45 x1_1 3).f1)] from (k45_mkM _ _ _ (⟨(rd_T45 x1_1 3).f0, (rd_T45 x1_1 3).f1⟩ : S45) )) (Reps.none _ _))); intro v216 w67 ho68 hb hg_ hnew_; clear hg_ hnew_; (first | rw [← Ny215.out] at ho68 | (simp only [Int.reduceToNat] at ho68; rw [← Ny215.out] at ho68)); have n0_ := Aside0.mk (Kd.R_elder' (by (with_reducible repeat (first | apply Kd.R_alloc | apply Kd.R_drewN | apply Kd.R_drew)); exact HO_1.out) (Kd.R_base ho68) hb); have n1_ := Aside0.mk (Kd.R_elder' (by (with_reducible repeat (first | apply Kd.R_alloc | apply Kd.R_drewN | apply Kd.R_drew)); exact HO193.out) (Kd.R_base ho68) hb); have n2_ := Aside0.mk (Kd.R_elder' (by (with_reducible repeat (first | apply Kd.R_alloc | apply Kd.R_drewN | apply Kd.R_drew)); exact HO199.out) (Kd.R_base ho68) hb); have n3_ := Aside0.mk (Kd.R_elder' (by (with_reducible repeat (first | apply Kd.R_alloc | apply Kd.R_drewN | apply Kd.R_drew)); exact HO205.out) (Kd.R_base ho68) hb); have n4_ := Aside0.mk (Kd.R_elder' (by (with_reducible repeat (first | apply Kd.R_alloc | apply Kd.R_drewN | apply Kd.R_drew)); exact HO211.out) (Kd.R_base ho68) hb); have n5_ := Aside0.mk (Kd.R_lower (Kd.R_new' (Kd.R_new' (Kd.R_new' (Kd.R_new' (Kd.R_new' ho68 (Kd.R_lt (by (with_reducible repeat (first | apply Kd.R_alloc | apply Kd.R_drewN | apply Kd.R_drew)); exact HO_1.out))) (Kd.R_lt (by (with_reducible repeat (first | apply Kd.R_alloc | apply Kd.R_drewN | apply Kd.R_drew)); exact HO193.out))) (Kd.R_lt (by (with_reducible repeat (first | apply Kd.R_alloc | apply Kd.R_drewN | apply Kd.R_drew)); exact HO199.out))) (Kd.R_lt (by (with_reducible repeat (first | apply Kd.R_alloc | apply Kd.R_drewN | apply Kd.R_drew)); exact HO205.out))) (Kd.R_lt (by (with_reducible repeat (first | apply Kd.R_alloc | apply Kd.R_drewN | apply Kd.R_drew)); exact HO211.out))) (below_size (by repeat (first | (with_reducible first | exact HB.out | apply below_alloc | apply pw_below_drewN | apply below_drew1) | exact HB.out)))); have n6_ := Aside0.mk (Kd.C_below (by repeat (first | (with_reducible exact HR182.out) | (with_reducible refine Kd.C_alloc ?_ _) | (with_reducible refine Kd.C_drewN ?_ _) | (with_reducible refine Kd.C_drew ?_) | exact HR182.out)) hb); have n7_ := Aside0.mk (below_step (by repeat (first | (with_reducible first | exact HB.out | apply below_alloc | apply pw_below_drewN | apply below_drew1) | exact HB.out)) hb); clear HO_1; clear HO193; clear HO199; clear HO205; clear HO211; clear HR182; clear HB; have HO_1 := n0_; have HO193 := n1_; have HO199 := n2_; have HO205 := n3_; have HO211 := n4_; have HO217 := n5_; have HR182 := n6_; have HB := n7_; clear n0_ n1_ n2_ n3_ n4_ n5_ n6_ n7_; clear hb ho68; obtain ⟨Ao69, co69, eo69⟩ := Kd.R_slice HO217.out; subst eo69) | ((with_reducible refine gate_callee (f := 26) rfl ?_); refine goesL_ (some 87) rfl rfl Try.func26 (by kernel_rfl) rfl #[.string t183, .slice Ao69 y215.length co69] rfl (by (try simp only [List.map_toArray, List.map_cons, List.map_nil]); first | done | rfl | (simp only [List.length_drop, List.length_take]; rfl)) ?_; (with_reducible refine (label_With.calls k1 t183 _ _ y215 t218 t219 _ ?side3 ?side1 ?side2 A28.out).mono ?_); (case side1 => repeat (first | exact (Kd.R_reads' HO217.out).2.2 | (with_reducible refine Kd.C_alloc ?_ _) | (with_reducible refine Kd.C_drewN ?_ _) | (with_reducible refine Kd.C_drew ?_))); (case side2 => exact (Kd.R_reads' HO217.out).2.1); (case side3 => exact SH.below hSH (by repeat (first | (with_reducible first | exact HB.out | apply below_alloc | apply pw_below_drewN | apply below_drew1) | exact HB.out))); rintro e w70 ⟨rfl, hb⟩; refine ⟨_, rfl, ?_⟩; have n0_ := Aside0.mk (Kd.R_below (by (with_reducible repeat (first | apply Kd.R_alloc | apply Kd.R_drewN | apply Kd.R_drew)); exact HO_1.out) hb); have n1_ := Aside0.mk (Kd.R_below (by (with_reducible repeat (first | apply Kd.R_alloc | apply Kd.R_drewN | apply Kd.R_drew)); exact HO193.out) hb); have n2_ := Aside0.mk (Kd.R_below (by (with_reducible repeat (first | apply Kd.R_alloc | apply Kd.R_drewN | apply Kd.R_drew)); exact HO199.out) hb); have n3_ := Aside0.mk (Kd.R_below (by (with_reducible repeat (first | apply Kd.R_alloc | apply Kd.R_drewN | apply Kd.R_drew)); exact HO205.out) hb); have n4_ := Aside0.mk (Kd.R_below (by (with_reducible repeat (first | apply Kd.R_alloc | apply Kd.R_drewN | apply Kd.R_drew)); exact HO211.out) hb); have n5_ := Aside0.mk (Kd.R_below (by (with_reducible repeat (first | apply Kd.R_alloc | apply Kd.R_drewN | apply Kd.R_drew)); exact HO217.out) hb); have n6_ := Aside0.mk (Kd.C_below (by repeat (first | (with_reducible exact HR182.out) | (with_reducible refine Kd.C_alloc ?_ _) | (with_reducible refine Kd.C_drewN ?_ _) | (with_reducible refine Kd.C_drew ?_) | exact HR182.out)) hb); have n7_ := Aside0.mk (below_step (by repeat (first | (with_reducible first | exact HB.out | apply below_alloc | apply pw_below_drewN | apply below_drew1) | exact HB.out)) hb); clear HO_1; clear HO193; clear HO199; clear HO205; clear HO211; clear HO217; clear HR182; clear HB; have HO_1 := n0_; have HO193 := n1_; have HO199 := n2_; have HO205 := n3_; have HO211 := n4_; have HO217 := n5_; have HR182 := n6_; have HB := n7_; clear n0_ n1_ n2_ n3_ n4_ n5_ n6_ n7_; (try clear hb); (try clear hb2); (try clear hk); (try clear hi)) | (go_at_call 24; (with_reducible refine (label_May.calls k1 t183 true _ ?side1 A30.out).mono ?_); (case side1 => exact SH.below hSH (by repeat (first | (with_reducible first | exact HB.out | apply below_alloc | apply pw_below_drewN | apply below_drew1) | exact HB.out))); rintro e w71 ⟨rfl, hb⟩; have n0_ := Aside0.mk (Kd.R_below (by (with_reducible repeat (first | apply Kd.R_alloc | apply Kd.R_drewN | apply Kd.R_drew)); exact HO_1.out) hb); have n1_ := Aside0.mk (Kd.R_below (by (with_reducible repeat (first | apply Kd.R_alloc | apply Kd.R_drewN | apply Kd.R_drew)); exact HO193.out) hb); have n2_ := Aside0.mk (Kd.R_below (by (with_reducible repeat (first | apply Kd.R_alloc | apply Kd.R_drewN | apply Kd.R_drew)); exact HO199.out) hb); have n3_ := Aside0.mk (Kd.R_below (by (with_reducible repeat (first | apply Kd.R_alloc | apply Kd.R_drewN | apply Kd.R_drew)); exact HO205.out) hb); have n4_ := Aside0.mk (Kd.R_below (by (with_reducible repeat (first | apply Kd.R_alloc | apply Kd.R_drewN | apply Kd.R_drew)); exact HO211.out) hb); have n5_ := Aside0.mk (Kd.R_below (by (with_reducible repeat (first | apply Kd.R_alloc | apply Kd.R_drewN | apply Kd.R_drew)); exact HO217.out) hb); have n6_ := Aside0.mk (Kd.C_below (by repeat (first | (with_reducible exact HR182.out) | (with_reducible refine Kd.C_alloc ?_ _) | (with_reducible refine Kd.C_drewN ?_ _) | (with_reducible refine Kd.C_drew ?_) | exact HR182.out)) hb); have n7_ := Aside0.mk (below_step (by repeat (first | (with_reducible first | exact HB.out | apply below_alloc | apply pw_below_drewN | apply below_drew1) | exact HB.out)) hb); clear HO_1; clear HO193; clear HO199; clear HO205; clear HO211; clear HO217; clear HR182; clear HB; have HO_1 := n0_; have HO193 := n1_; have HO199 := n2_; have HO205 := n3_; have HO211 := n4_; have HO217 := n5_; have HR182 := n6_; have HB := n7_; clear n0_ n1_ n2_ n3_ n4_ n5_ n6_ n7_; (try clear hb); (try clear hb2); (try clear hk); (try clear hi)) | (go_at_call 8; (with_reducible refine (odometerlaw03_known.calls k1  t221 _ A39.out).mono ?_); rintro e w72 ⟨rfl, hb⟩; have n0_ := Aside0.mk (Kd.R_below (by (with_reducible repeat (first | apply Kd.R_alloc | apply Kd.R_drewN | apply Kd.R_drew)); exact HO_1.out) hb); have n1_ := Aside0.mk (Kd.R_below (by (with_reducible repeat (first | apply Kd.R_alloc | apply Kd.R_drewN | apply Kd.R_drew)); exact HO193.out) hb); have n2_ := Aside0.mk (Kd.R_below (by (with_reducible repeat (first | apply Kd.R_alloc | apply Kd.R_drewN | apply Kd.R_drew)); exact HO199.out) hb); have n3_ := Aside0.mk (Kd.R_below (by (with_reducible repeat (first | apply Kd.R_alloc | apply Kd.R_drewN | apply Kd.R_drew)); exact HO205.out) hb); have n4_ := Aside0.mk (Kd.R_below (by (with_reducible repeat (first | apply Kd.R_alloc | apply Kd.R_drewN | apply Kd.R_drew)); exact HO211.out) hb); have n5_ := Aside0.mk (Kd.R_below (by (with_reducible repeat (first | apply Kd.R_alloc | apply Kd.R_drewN | apply Kd.R_drew)); exact HO217.out) hb); have n6_ := Aside0.mk (Kd.C_below (by repeat (first | (with_reducible exact HR182.out) | (with_reducible refine Kd.C_alloc ?_ _) | (with_reducible refine Kd.C_drewN ?_ _) | (with_reducible refine Kd.C_drew ?_) | exact HR182.out)) hb); have n7_ := Aside0.mk (below_step (by repeat (first | (with_reducible first | exact HB.out | apply below_alloc | apply pw_below_drewN | apply below_drew1) | exact HB.out)) hb); clear HO_1; clear HO193; clear HO199; clear HO205; clear HO211; clear HO217; clear HR182; clear HB; have HO_1 := n0_; have HO193 := n1_; have HO199 := n2_; have HO205 := n3_; have HO211 := n4_; have HO217 := n5_; have HR182 := n6_; have HB := n7_; clear n0_ n1_ n2_ n3_ n4_ n5_ n6_ n7_; (try clear hb); (try clear hb2); (try clear hk); (try clear hi)))
                                go_ret
                                exact ⟨by first | rfl | (simp [errW_none, errW_some] <;> rfl) | (simp [*, errW_none, errW_some] <;> rfl), by repeat (first | (with_reducible first | exact HB.out | apply below_alloc | apply pw_below_drewN | apply below_drew1) | exact HB.out)⟩
                              · rw [if_neg c38] at H
                                have c38b0 : (t219 == 5) = false := beq_eq_false_iff_ne.mpr c38
                                have c38b1 : (t219 != 5) = true := bne_iff_ne.mpr c38
                                exact absurd ((Option.some.inj H).trans HRT_.out) Bool.false_ne_true
                            · rw [if_neg c37] at H
                              have c37b0 : (t213 == 5) = false := beq_eq_false_iff_ne.mpr c37
                              have c37b1 : (t213 != 5) = true := bne_iff_ne.mpr c37
                              exact absurd ((Option.some.inj H).trans HRT_.out) Bool.false_ne_true
                          · rw [if_neg c36] at H
                            have c36b0 : (t207 == 0) = false := beq_eq_false_iff_ne.mpr c36
                            have c36b1 : (t207 != 0) = true := bne_iff_ne.mpr c36
                            exact absurd ((Option.some.inj H).trans HRT_.out) Bool.false_ne_true
                        · rw [if_neg c35] at H
                          have c35b0 : (t201 == 5) = false := beq_eq_false_iff_ne.mpr c35
                          have c35b1 : (t201 != 5) = true := bne_iff_ne.mpr c35
                          exact absurd ((Option.some.inj H).trans HRT_.out) Bool.false_ne_true
                      · rw [if_neg c34] at H
                        have c34b0 : (t195 == 5) = false := beq_eq_false_iff_ne.mpr c34
                        have c34b1 : (t195 != 5) = true := bne_iff_ne.mpr c34
                        exact absurd ((Option.some.inj H).trans HRT_.out) Bool.false_ne_true
                    · rw [if_neg c33] at H
                      have c33b0 : (t189 == 5) = false := beq_eq_false_iff_ne.mpr c33
                      have c33b1 : (t189 != 5) = true := bne_iff_ne.mpr c33
                      exact absurd ((Option.some.inj H).trans HRT_.out) Bool.false_ne_true
                  · rw [if_neg c32] at H
                    have c32b0 : (t186 == 5) = false := beq_eq_false_iff_ne.mpr c32
                    have c32b1 : (t186 != 5) = true := bne_iff_ne.mpr c32
                    exact absurd ((Option.some.inj H).trans HRT_.out) Bool.false_ne_true
                · replace c31 := Bool.eq_false_iff.mpr c31
                  subst c31
                  have H1 : (some false) = some r := by rw [if_neg (show ¬ (false = true) by decide)] at H; exact H
                  clear H
                  have H := H1
                  clear H1
                  exact absurd ((Option.some.inj H).trans HRT_.out) Bool.false_ne_true
              · rw [if_neg c29] at H
                have c29b0 : (t184 == 0) = false := beq_eq_false_iff_ne.mpr c29
                have c29b1 : (t184 != 0) = true := bne_iff_ne.mpr c29
                exact absurd ((Option.some.inj H).trans HRT_.out) Bool.false_ne_true
            · rw [if_neg c27] at H
              exact absurd H (by simp)
          · rw [if_neg c25] at H
            exact absurd H (by simp)
        · rw [if_neg c14] at H
          exact absurd H (by simp)

/-- THE ONE PURE STATEMENT of odometerlaw03_LabelBounds: yours. -/
def odometerlaw03_LabelBounds.Pure : Prop := ∃ k, odometerlaw03_LabelBounds.f k  = some true

end Go.Proofs.Ytapfpnfdpcgpaaa.PBnd
