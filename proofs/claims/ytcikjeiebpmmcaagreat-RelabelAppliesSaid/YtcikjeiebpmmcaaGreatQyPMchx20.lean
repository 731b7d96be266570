/- Pruned. -/
import Derived.Test.YtcikjeiebpmmcaaGreatQyPMchx0
import Derived.Test.YtcikjeiebpmmcaaGreatQyPMchx9
import Derived.Test.YtcikjeiebpmmcaaGreatQyPMchx10
import Derived.Test.YtcikjeiebpmmcaaGreatQyPMchx17
import Derived.Test.YtcikjeiebpmmcaaGreatQyPMchx18
import Derived.Test.YtcikjeiebpmmcaaGreatQyPMchx19
namespace Go.Proofs.YtcikjeiebpmmcaaGreat.PMch
open Go.RowKit Go.Proofs.YtcikjeiebpmmcaaGreatW.PrintWords Go.Proofs.YtcikjeiebpmmcaaGreatW.PrintLast Go.Proofs.YtcikjeiebpmmcaaGreatW.PrintMore
attribute [local go_sem] max2_int max_two
set_option linter.unusedVariables false
set_option linter.unusedSimpArgs false
def r29_Rule.l0 : Nat → ByteArray → List (S96) → List (S96) → Int → Int → ByteArray → ByteArray → ByteArray → ByteArray → Option (ByteArray × Bool × Int)
 | 0, _, _, _, _, _, _, _, _, _ => none
 | k + 1, x13, x14, x16, x17, x390000, x390001, x390002, x390003, x390004 => if x17 < (x14.length : Int) then (if 0 ≤ x17 then ((r29_Match.f k x390002 ((rd_T96 x14 x17).f0)).bind fun bt405 => (if bt405.2 = true then (r29_Rule.l0 k x13 x14 x16 (wrap64 (x17 + 1)) x390000 x390001 x390002 x390003 x390004) else (if x16.length < 4398046511104 then (r29_Rule.l0 k x13 x14 (x16 ++ [(⟨(rd_T96 x14 x17).f0, (rd_T96 x14 x17).f1⟩ : S96)]) (wrap64 (x17 + 1)) x390000 x390001 x390002 x390003 x390004) else (none)))) else (none)) else ((r03_Name.f k x13 x16).bind fun bt413 => (some (bt413.1, (bt413.2 == 0), bt413.2)))
def r29_Rule.f (k : Nat) (a0_0 : Int) (a0_1 : ByteArray) (a0_2 : ByteArray) (a0_3 : ByteArray) (a0_4 : ByteArray) (a1 : ByteArray) : Option (ByteArray × Bool × Int) := (r29_Value.f k a1 a0_1).bind fun t390 => ((r29_Match.f k a0_2 t390).bind fun bt391 => (if a0_0 = 1 then (some (a1, bt391.2, 0)) else (if a0_0 = 2 then (some (a1, !bt391.2, 0)) else (if a0_0 = 3 then (if bt391.2 = true then ((r29_Fill.f k a0_3 bt391.1).bind fun bt395 => ((r29_set.f k a1 a0_4 bt395.1).bind fun bt397 => (some (bt397.1, (bt397.2 == 0), bt397.2)))) else (some (a1, true, 0))) else ((r03_Parse.f k a1).bind fun bt399 => (r29_Rule.l0 k bt399.1 bt399.2.1 ([] : List (S96)) 0 a0_0 a0_1 a0_2 a0_3 a0_4))))))
def r29_Rule.T1 : Bool × List (List Nat × List Nat) := (true, [([], []), ([0], [0]), ([], []), ([], []), ([3], [3]), ([2, 4], [2, 4]), ([1, 5, 5], [1, 5]), ([6], [6]), ([7], [7]), ([7], [7]), ([8, 6, 0, 1, 2, 3, 4, 5, 6, 7, 8], [8]), ([9, 10, 0, 1, 2, 3, 4, 5, 6, 7, 8, 9, 10], [9])])
def r29_Rule.B1 : List Nat := [0, 1, 0, 0, 8, 28, 63, 127, 255, 255, 511, 2047]
theorem r29_Rule.tab1 : rtab .any (opsOf Tryz.f40 1) = r29_Rule.T1 := by kernel_rfl
theorem r29_Rule.bits1 : waitsOk r29_Rule.T1.2 r29_Rule.B1 = true := by kernel_rfl
def r29_Rule.T18 : Bool × List (List Nat × List Nat) := (true, [([], []), ([0], [0]), ([], []), ([], []), ([2, 3], [2, 3]), ([4], [4]), ([5], [5]), ([1, 6], [1, 6]), ([7], [7]), ([8], [8]), ([8], [8]), ([9, 7, 0, 1, 2, 3, 4, 5, 6, 7, 8, 9], [9]), ([10, 11, 0, 1, 2, 3, 4, 5, 6, 7, 8, 9, 10, 11], [10])])
def r29_Rule.B18 : List Nat := [0, 1, 0, 0, 12, 28, 60, 127, 255, 511, 511, 1023, 4095]
theorem r29_Rule.tab18 : rtab .any (opsOf Tryz.f40 18) = r29_Rule.T18 := by kernel_rfl
theorem r29_Rule.bits18 : waitsOk r29_Rule.T18.2 r29_Rule.B18 = true := by kernel_rfl
set_option maxHeartbeats 8000000 in
set_option maxRecDepth 100000 in
theorem r29_Rule.calls (k : Nat) (a0_0 : Int) (a0_1 : ByteArray) (a0_2 : ByteArray) (a0_3 : ByteArray) (a0_4 : ByteArray) (a1 : ByteArray) (r1 : ByteArray) (r2 : Bool) (r3 : Int) (w : World) (h : r29_Rule.f k a0_0 a0_1 a0_2 a0_3 a0_4 a1 = some (r1, r2, r3)) :
 Calls Tryz.prog 40 #[.agg #[.int .i64 a0_0, .string a0_1, .string a0_2, .string a0_3, .string a0_4], .string a1] w fun e w' => e = .returned (.tuple #[.string r1, .bool r2, .int .i64 r3]) ∧ Below w.heap.size w w' := by
 have hu43 := Tryz.underlying43
 have hu96 := Tryz.underlying96
 have HB := A_ (Below.refl w.heap.size w)
 have H : ((r29_Value.f k a1 a0_1).bind fun t390 => ((r29_Match.f k a0_2 t390).bind fun bt391 => (if a0_0 = 1 then (some (a1, bt391.2, 0)) else (if a0_0 = 2 then (some (a1, !bt391.2, 0)) else (if a0_0 = 3 then (if bt391.2 = true then ((r29_Fill.f k a0_3 bt391.1).bind fun bt395 => ((r29_set.f k a1 a0_4 bt395.1).bind fun bt397 => (some (bt397.1, (bt397.2 == 0), bt397.2)))) else (some (a1, true, 0))) else ((r03_Parse.f k a1).bind fun bt399 => (r29_Rule.l0 k bt399.1 bt399.2.1 ([] : List (S96)) 0 a0_0 a0_1 a0_2 a0_3 a0_4))))))) = some (r1, r2, r3) := h
 clear h
 replace H := Option.bind_eq_some_iff.mp H
 obtain ⟨t390, A30, H⟩ := H
 replace H : ((r29_Match.f k a0_2 t390).bind fun bt391 => (if a0_0 = 1 then (some (a1, bt391.2, 0)) else (if a0_0 = 2 then (some (a1, !bt391.2, 0)) else (if a0_0 = 3 then (if bt391.2 = true then ((r29_Fill.f k a0_3 bt391.1).bind fun bt395 => ((r29_set.f k a1 a0_4 bt395.1).bind fun bt397 => (some (bt397.1, (bt397.2 == 0), bt397.2)))) else (some (a1, true, 0))) else ((r03_Parse.f k a1).bind fun bt399 => (r29_Rule.l0 k bt399.1 bt399.2.1 ([] : List (S96)) 0 a0_0 a0_1 a0_2 a0_3 a0_4)))))) = some (r1, r2, r3) := H
 have A3 := A_ A30
 clear A30
 replace H := Option.bind_eq_some_iff.mp H
 obtain ⟨⟨t391, t392⟩, A40, H⟩ := H
 replace H : (if a0_0 = 1 then (some (a1, t392, 0)) else (if a0_0 = 2 then (some (a1, !t392, 0)) else (if a0_0 = 3 then (if t392 = true then ((r29_Fill.f k a0_3 t391).bind fun bt395 => ((r29_set.f k a1 a0_4 bt395.1).bind fun bt397 => (some (bt397.1, (bt397.2 == 0), bt397.2)))) else (some (a1, true, 0))) else ((r03_Parse.f k a1).bind fun bt399 => (r29_Rule.l0 k bt399.1 bt399.2.1 ([] : List (S96)) 0 a0_0 a0_1 a0_2 a0_3 a0_4))))) = some (r1, r2, r3) := H
 have A4 := A_ A40
 clear A40
 by_cases c5 : a0_0 = 1
 ·rw [if_pos c5] at H
  have c5b0 : (a0_0 == 1) = true := beq_iff_eq.mpr c5
  have c5b1 : (a0_0 != 1) = false := bne_eq_false_iff_eq.mpr c5
  clear c5
  simp only [Option.some.injEq, Prod.mk.injEq] at H
  obtain ⟨rfl, rfl, rfl⟩ := H
  go_enter Tryz.func40, Tryz.ntmps40
  try go_wp2_with (first | ((with_reducible refine gate_dst (N := 2) rfl ?_); refine box_event ?hg (N := 2) ?hd (cs := #[.int .i64 a0_0, .string a0_1, .string a0_2, .string a0_3, .string a0_4]) (t := 43) ?hr ?_; (case hd => rfl); (case hg => rfl); (case hr => (go_simp; done)); intro gb389 hg w6 hbox hb; have n0_ := A_ (below_step HB.out hb); have n1_ := A_ (hbox); have n2_ := A_ ((by rw [hg]; exact (below_size HB.out) : w.heap.size ≤ gb389)); have n3_ := A_ ((by rw [hg]; exact (below_size HB.out) : w.heap.size ≤ gb389)); clear HB; have HB := n0_; have BK389 := n1_; have GW389 := n2_; have GE389 := n3_; clear n0_ n1_ n2_ n3_; clear hb hbox hg))
  have n0_ := A_ (blk_drew BK389.out)
  have n1_ := A_ (below_drew1 HB.out)
  clear BK389
  clear HB
  have BK389 := n0_
  have HB := n1_
  clear n0_ n1_
  refine start_ (n := 12) (S := fun w' => w'.cell? ⟨gb389, 0, none⟩ = some (.int .i64 a0_0) ∧ w'.cell? ⟨gb389, 1, none⟩ = some (.string a0_1) ∧ w'.cell? ⟨gb389, 2, none⟩ = some (.string a0_2) ∧ w'.cell? ⟨gb389, 3, none⟩ = some (.string a0_3) ∧ w'.cell? ⟨gb389, 4, none⟩ = some (.string a0_4)) (ds := []) #[F_,F_,F_,F_,F_,F_,F_,F_,F_,F_,F_,F_] (by kernel_rfl) rfl rfl ⟨(blk_cell BK389.out 0).trans rfl, (blk_cell BK389.out 1).trans rfl, (blk_cell BK389.out 2).trans rfl, (blk_cell BK389.out 3).trans rfl, (blk_cell BK389.out 4).trans rfl⟩ (fun hHeld => ?_); refine with_tabW r29_Rule.tab1 r29_Rule.bits1 (fun HT_ HW_ => ?_)
  generalize w6.drew = w7 at BK389 HB hHeld ⊢
  refine pu_ 0 (some 23) #[T_,F_,F_,F_,F_,F_,F_,F_,F_,F_,F_,F_] HT_.out rfl rfl ?_
  refine pu_ 2 (some 25) #[T_,F_,T_,F_,F_,F_,F_,F_,F_,F_,F_,F_] HT_.out rfl rfl ?_
  refine pu_ 3 (some 26) #[T_,F_,T_,T_,F_,F_,F_,F_,F_,F_,F_,F_] HT_.out rfl rfl ?_
  refine take_ (i := 1) (N := some 24) (v := ?_) (a' := ?_) #[T_,T_,T_,T_,F_,F_,F_,F_,F_,F_,F_,F_] rfl rfl (take_ofW HT_.out HW_.out (by kernel_rfl)) (fun _ _ _ h => h) (Or.inl ⟨by rfl, ?_⟩) hHeld ?_ ?_
  rotate_left
  ·rintro w' ⟨s0, s1, s2, s3, s4⟩
   go_simp
   with_reducible rfl
  rotate_left
  ·simp only [Act.put,s1_,s2_,s3_, i64_w, i32_w]
   rfl
  refine take_ (i := 4) (N := some 27) (v := ?_) (a' := ?_) #[T_,T_,T_,T_,T_,F_,F_,F_,F_,F_,F_,F_] rfl rfl (take_ofW HT_.out HW_.out (by kernel_rfl)) (fun _ _ _ h => h) (Or.inl ⟨by rfl, ?_⟩) hHeld ?_ ?_
  rotate_left
  ·rintro w' ⟨s0, s1, s2, s3, s4⟩
   go_simp
   with_reducible rfl
  rotate_left
  ·simp only [Act.put,s1_,s2_,s3_, i64_w, i32_w]
   rfl
  refine one_ (i := 5) (N := some 28) #[T_,T_,T_,T_,T_,T_,F_,F_,F_,F_,F_,F_] rfl rfl (one_of HT_.out (by kernel_rfl)) (by decide) (fun K hK => ?_)
  refine goes_ Tryz.func22 (by kernel_rfl) rfl #[.string a1, .string a0_1] (by rfl) rfl rfl mp_ ?_
  with_reducible refine (r29_Value.calls k a1 a0_1 t390 _ A3.out).mono ?_
  rintro e w8 ⟨rfl, hb⟩
  refine ⟨_, rfl, ?_⟩
  have n0_ := A_ (blk_below (g := gb389) (o := .cells #[.int .i64 a0_0, .string a0_1, .string a0_2, .string a0_3, .string a0_4] 43 (0, 0)) (bk_ BK389.out) hb)
  have n1_ := A_ (below_step HB.out hb)
  clear BK389
  clear HB
  have BK389 := n0_
  have HB := n1_
  clear n0_ n1_
  (try clear hb)
  (try clear hb2)
  (try clear hk)
  (try clear hi)
  refine hK.out _ _ ⟨(blk_cell BK389.out 0).trans rfl, (blk_cell BK389.out 1).trans rfl, (blk_cell BK389.out 2).trans rfl, (blk_cell BK389.out 3).trans rfl, (blk_cell BK389.out 4).trans rfl⟩ (fun hHeld => ?_)
  clear hK K
  refine norm_ (a' := ?_) ?_ ?_
  rotate_left
  ·show Act.put _ (some 28) _ = _
   simp only [Act.put,s1_,s2_,s3_, i64_w, i32_w]
   rfl
  refine one_ (i := 6) (N := some 29) #[T_,T_,T_,T_,T_,T_,T_,F_,F_,F_,F_,F_] rfl rfl (one_of HT_.out (by kernel_rfl)) (by decide) (fun K hK => ?_)
  refine goes_ Tryz.func12 (by kernel_rfl) rfl #[.string a0_2, .string t390] (by rfl) rfl rfl mp_ ?_
  with_reducible refine (r29_Match.calls k a0_2 t390 t391 t392 _ A4.out).mono ?_
  rintro e w9 ⟨v393, rfl, ho0, hb⟩
  refine ⟨_, rfl, ?_⟩
  have n0_ := A_ (Kd.R_lower ho0 (below_size HB.out))
  have n1_ := A_ (blk_below (g := gb389) (o := .cells #[.int .i64 a0_0, .string a0_1, .string a0_2, .string a0_3, .string a0_4] 43 (0, 0)) (bk_ BK389.out) hb)
  have n2_ := A_ (below_step HB.out hb)
  clear BK389
  clear HB
  have HO394 := n0_
  have BK389 := n1_
  have HB := n2_
  clear n0_ n1_ n2_
  (try clear hb)
  (try clear hb2)
  (try clear hk)
  (try clear hi)
  (try clear ho0)
  refine hK.out _ _ ⟨(blk_cell BK389.out 0).trans rfl, (blk_cell BK389.out 1).trans rfl, (blk_cell BK389.out 2).trans rfl, (blk_cell BK389.out 3).trans rfl, (blk_cell BK389.out 4).trans rfl⟩ (fun hHeld => ?_)
  clear hK K
  refine norm_ (a' := ?_) ?_ ?_
  rotate_left
  ·show Act.put _ (some 29) _ = _
   simp only [Act.put,s1_,s2_,s3_, i64_w, i32_w]
   rfl
  refine pu_ 7 (some 22) #[T_,T_,T_,T_,T_,T_,T_,T_,F_,F_,F_,F_] HT_.out rfl rfl ?_
  refine pu_ 8 (some 30) #[T_,T_,T_,T_,T_,T_,T_,T_,T_,F_,F_,F_] HT_.out rfl rfl ?_
  refine pu_ 9 (some 31) #[T_,T_,T_,T_,T_,T_,T_,T_,T_,T_,F_,F_] HT_.out rfl rfl ?_
  refine pu_ 10 (some 7) #[T_,T_,T_,T_,T_,T_,T_,T_,T_,T_,T_,F_] HT_.out rfl rfl ?_
  refine pu_ 11 (some 8) #[T_,T_,T_,T_,T_,T_,T_,T_,T_,T_,T_,T_] HT_.out rfl rfl ?_
  refine done_ (done_of HT_.out (by kernel_rfl)) ?_
  have hcz10_0 : w9.cell? ⟨gb389, 0, none⟩ = some (.int .i64 a0_0) := (blk_cell BK389.out 0).trans rfl
  have hcz10_1 : w9.cell? ⟨gb389, 1, none⟩ = some (.string a0_1) := (blk_cell BK389.out 1).trans rfl
  have hcz10_2 : w9.cell? ⟨gb389, 2, none⟩ = some (.string a0_2) := (blk_cell BK389.out 2).trans rfl
  have hcz10_3 : w9.cell? ⟨gb389, 3, none⟩ = some (.string a0_3) := (blk_cell BK389.out 3).trans rfl
  have hcz10_4 : w9.cell? ⟨gb389, 4, none⟩ = some (.string a0_4) := (blk_cell BK389.out 4).trans rfl
  have hfz10_0 := blk_frozen BK389.out 0
  have hfz10_1 := blk_frozen BK389.out 1
  have hfz10_2 := blk_frozen BK389.out 2
  have hfz10_3 := blk_frozen BK389.out 3
  have hfz10_4 := blk_frozen BK389.out 4
  try go_wp2
  go_ret3
  exact ⟨by rfl, HB.out⟩
 rw [if_neg c5] at H
 have c5b0 : (a0_0 == 1) = false := beq_eq_false_iff_ne.mpr c5
 have c5b1 : (a0_0 != 1) = true := bne_iff_ne.mpr c5
 by_cases c11 : a0_0 = 2
 ·rw [if_pos c11] at H
  have c11b0 : (a0_0 == 2) = true := beq_iff_eq.mpr c11
  have c11b1 : (a0_0 != 2) = false := bne_eq_false_iff_eq.mpr c11
  clear c11
  simp only [Option.some.injEq, Prod.mk.injEq] at H
  obtain ⟨rfl, rfl, rfl⟩ := H
  go_enter Tryz.func40, Tryz.ntmps40
  try go_wp2_with (first | ((with_reducible refine gate_dst (N := 2) rfl ?_); refine box_event ?hg (N := 2) ?hd (cs := #[.int .i64 a0_0, .string a0_1, .string a0_2, .string a0_3, .string a0_4]) (t := 43) ?hr ?_; (case hd => rfl); (case hg => rfl); (case hr => (go_simp; done)); intro gb389 hg w12 hbox hb; have n0_ := A_ (below_step HB.out hb); have n1_ := A_ (hbox); have n2_ := A_ ((by rw [hg]; exact (below_size HB.out) : w.heap.size ≤ gb389)); have n3_ := A_ ((by rw [hg]; exact (below_size HB.out) : w.heap.size ≤ gb389)); clear HB; have HB := n0_; have BK389 := n1_; have GW389 := n2_; have GE389 := n3_; clear n0_ n1_ n2_ n3_; clear hb hbox hg))
  have n0_ := A_ (blk_drew BK389.out)
  have n1_ := A_ (below_drew1 HB.out)
  clear BK389
  clear HB
  have BK389 := n0_
  have HB := n1_
  clear n0_ n1_
  refine start_ (n := 12) (S := fun w' => w'.cell? ⟨gb389, 0, none⟩ = some (.int .i64 a0_0) ∧ w'.cell? ⟨gb389, 1, none⟩ = some (.string a0_1) ∧ w'.cell? ⟨gb389, 2, none⟩ = some (.string a0_2) ∧ w'.cell? ⟨gb389, 3, none⟩ = some (.string a0_3) ∧ w'.cell? ⟨gb389, 4, none⟩ = some (.string a0_4)) (ds := []) #[F_,F_,F_,F_,F_,F_,F_,F_,F_,F_,F_,F_] (by kernel_rfl) rfl rfl ⟨(blk_cell BK389.out 0).trans rfl, (blk_cell BK389.out 1).trans rfl, (blk_cell BK389.out 2).trans rfl, (blk_cell BK389.out 3).trans rfl, (blk_cell BK389.out 4).trans rfl⟩ (fun hHeld => ?_); refine with_tabW r29_Rule.tab1 r29_Rule.bits1 (fun HT_ HW_ => ?_)
  generalize w12.drew = w13 at BK389 HB hHeld ⊢
  refine pu_ 0 (some 23) #[T_,F_,F_,F_,F_,F_,F_,F_,F_,F_,F_,F_] HT_.out rfl rfl ?_
  refine pu_ 2 (some 25) #[T_,F_,T_,F_,F_,F_,F_,F_,F_,F_,F_,F_] HT_.out rfl rfl ?_
  refine pu_ 3 (some 26) #[T_,F_,T_,T_,F_,F_,F_,F_,F_,F_,F_,F_] HT_.out rfl rfl ?_
  refine take_ (i := 1) (N := some 24) (v := ?_) (a' := ?_) #[T_,T_,T_,T_,F_,F_,F_,F_,F_,F_,F_,F_] rfl rfl (take_ofW HT_.out HW_.out (by kernel_rfl)) (fun _ _ _ h => h) (Or.inl ⟨by rfl, ?_⟩) hHeld ?_ ?_
  rotate_left
  ·rintro w' ⟨s0, s1, s2, s3, s4⟩
   go_simp
   with_reducible rfl
  rotate_left
  ·simp only [Act.put,s1_,s2_,s3_, i64_w, i32_w]
   rfl
  refine take_ (i := 4) (N := some 27) (v := ?_) (a' := ?_) #[T_,T_,T_,T_,T_,F_,F_,F_,F_,F_,F_,F_] rfl rfl (take_ofW HT_.out HW_.out (by kernel_rfl)) (fun _ _ _ h => h) (Or.inl ⟨by rfl, ?_⟩) hHeld ?_ ?_
  rotate_left
  ·rintro w' ⟨s0, s1, s2, s3, s4⟩
   go_simp
   with_reducible rfl
  rotate_left
  ·simp only [Act.put,s1_,s2_,s3_, i64_w, i32_w]
   rfl
  refine one_ (i := 5) (N := some 28) #[T_,T_,T_,T_,T_,T_,F_,F_,F_,F_,F_,F_] rfl rfl (one_of HT_.out (by kernel_rfl)) (by decide) (fun K hK => ?_)
  refine goes_ Tryz.func22 (by kernel_rfl) rfl #[.string a1, .string a0_1] (by rfl) rfl rfl mp_ ?_
  with_reducible refine (r29_Value.calls k a1 a0_1 t390 _ A3.out).mono ?_
  rintro e w14 ⟨rfl, hb⟩
  refine ⟨_, rfl, ?_⟩
  have n0_ := A_ (blk_below (g := gb389) (o := .cells #[.int .i64 a0_0, .string a0_1, .string a0_2, .string a0_3, .string a0_4] 43 (0, 0)) (bk_ BK389.out) hb)
  have n1_ := A_ (below_step HB.out hb)
  clear BK389
  clear HB
  have BK389 := n0_
  have HB := n1_
  clear n0_ n1_
  (try clear hb)
  (try clear hb2)
  (try clear hk)
  (try clear hi)
  refine hK.out _ _ ⟨(blk_cell BK389.out 0).trans rfl, (blk_cell BK389.out 1).trans rfl, (blk_cell BK389.out 2).trans rfl, (blk_cell BK389.out 3).trans rfl, (blk_cell BK389.out 4).trans rfl⟩ (fun hHeld => ?_)
  clear hK K
  refine norm_ (a' := ?_) ?_ ?_
  rotate_left
  ·show Act.put _ (some 28) _ = _
   simp only [Act.put,s1_,s2_,s3_, i64_w, i32_w]
   rfl
  refine one_ (i := 6) (N := some 29) #[T_,T_,T_,T_,T_,T_,T_,F_,F_,F_,F_,F_] rfl rfl (one_of HT_.out (by kernel_rfl)) (by decide) (fun K hK => ?_)
  refine goes_ Tryz.func12 (by kernel_rfl) rfl #[.string a0_2, .string t390] (by rfl) rfl rfl mp_ ?_
  with_reducible refine (r29_Match.calls k a0_2 t390 t391 t392 _ A4.out).mono ?_
  rintro e w15 ⟨v393, rfl, ho0, hb⟩
  refine ⟨_, rfl, ?_⟩
  have n0_ := A_ (Kd.R_lower ho0 (below_size HB.out))
  have n1_ := A_ (blk_below (g := gb389) (o := .cells #[.int .i64 a0_0, .string a0_1, .string a0_2, .string a0_3, .string a0_4] 43 (0, 0)) (bk_ BK389.out) hb)
  have n2_ := A_ (below_step HB.out hb)
  clear BK389
  clear HB
  have HO394 := n0_
  have BK389 := n1_
  have HB := n2_
  clear n0_ n1_ n2_
  (try clear hb)
  (try clear hb2)
  (try clear hk)
  (try clear hi)
  (try clear ho0)
  refine hK.out _ _ ⟨(blk_cell BK389.out 0).trans rfl, (blk_cell BK389.out 1).trans rfl, (blk_cell BK389.out 2).trans rfl, (blk_cell BK389.out 3).trans rfl, (blk_cell BK389.out 4).trans rfl⟩ (fun hHeld => ?_)
  clear hK K
  refine norm_ (a' := ?_) ?_ ?_
  rotate_left
  ·show Act.put _ (some 29) _ = _
   simp only [Act.put,s1_,s2_,s3_, i64_w, i32_w]
   rfl
  refine pu_ 7 (some 22) #[T_,T_,T_,T_,T_,T_,T_,T_,F_,F_,F_,F_] HT_.out rfl rfl ?_
  refine pu_ 8 (some 30) #[T_,T_,T_,T_,T_,T_,T_,T_,T_,F_,F_,F_] HT_.out rfl rfl ?_
  refine pu_ 9 (some 31) #[T_,T_,T_,T_,T_,T_,T_,T_,T_,T_,F_,F_] HT_.out rfl rfl ?_
  refine pu_ 10 (some 7) #[T_,T_,T_,T_,T_,T_,T_,T_,T_,T_,T_,F_] HT_.out rfl rfl ?_
  refine pu_ 11 (some 8) #[T_,T_,T_,T_,T_,T_,T_,T_,T_,T_,T_,T_] HT_.out rfl rfl ?_
  refine done_ (done_of HT_.out (by kernel_rfl)) ?_
  have hcz16_0 : w15.cell? ⟨gb389, 0, none⟩ = some (.int .i64 a0_0) := (blk_cell BK389.out 0).trans rfl
  have hcz16_1 : w15.cell? ⟨gb389, 1, none⟩ = some (.string a0_1) := (blk_cell BK389.out 1).trans rfl
  have hcz16_2 : w15.cell? ⟨gb389, 2, none⟩ = some (.string a0_2) := (blk_cell BK389.out 2).trans rfl
  have hcz16_3 : w15.cell? ⟨gb389, 3, none⟩ = some (.string a0_3) := (blk_cell BK389.out 3).trans rfl
  have hcz16_4 : w15.cell? ⟨gb389, 4, none⟩ = some (.string a0_4) := (blk_cell BK389.out 4).trans rfl
  have hfz16_0 := blk_frozen BK389.out 0
  have hfz16_1 := blk_frozen BK389.out 1
  have hfz16_2 := blk_frozen BK389.out 2
  have hfz16_3 := blk_frozen BK389.out 3
  have hfz16_4 := blk_frozen BK389.out 4
  try go_wp2
  go_ret3
  exact ⟨by rfl, HB.out⟩
 rw [if_neg c11] at H
 have c11b0 : (a0_0 == 2) = false := beq_eq_false_iff_ne.mpr c11
 have c11b1 : (a0_0 != 2) = true := bne_iff_ne.mpr c11
 by_cases c17 : a0_0 = 3
 ·rw [if_pos c17] at H
  have c17b0 : (a0_0 == 3) = true := beq_iff_eq.mpr c17
  have c17b1 : (a0_0 != 3) = false := bne_eq_false_iff_eq.mpr c17
  clear c17
  by_cases c18 : t392 = true
  rotate_left
  ·replace c18 := Bool.eq_false_iff.mpr c18
   subst c18
   have H1 : (some (a1, true, 0)) = some (r1, r2, r3) := by rw [if_neg (show ¬ (false = true) by decide)] at H; exact H
   clear H
   have H := H1
   clear H1
   simp only [Option.some.injEq, Prod.mk.injEq] at H
   obtain ⟨rfl, rfl, rfl⟩ := H
   go_enter Tryz.func40, Tryz.ntmps40
   try go_wp2_with (first | ((with_reducible refine gate_dst (N := 2) rfl ?_); refine box_event ?hg (N := 2) ?hd (cs := #[.int .i64 a0_0, .string a0_1, .string a0_2, .string a0_3, .string a0_4]) (t := 43) ?hr ?_; (case hd => rfl); (case hg => rfl); (case hr => (go_simp; done)); intro gb389 hg w28 hbox hb; have n0_ := A_ (below_step HB.out hb); have n1_ := A_ (hbox); have n2_ := A_ ((by rw [hg]; exact (below_size HB.out) : w.heap.size ≤ gb389)); have n3_ := A_ ((by rw [hg]; exact (below_size HB.out) : w.heap.size ≤ gb389)); clear HB; have HB := n0_; have BK389 := n1_; have GW389 := n2_; have GE389 := n3_; clear n0_ n1_ n2_ n3_; clear hb hbox hg))
   have n0_ := A_ (blk_drew BK389.out)
   have n1_ := A_ (below_drew1 HB.out)
   clear BK389
   clear HB
   have BK389 := n0_
   have HB := n1_
   clear n0_ n1_
   refine start_ (n := 12) (S := fun w' => w'.cell? ⟨gb389, 0, none⟩ = some (.int .i64 a0_0) ∧ w'.cell? ⟨gb389, 1, none⟩ = some (.string a0_1) ∧ w'.cell? ⟨gb389, 2, none⟩ = some (.string a0_2) ∧ w'.cell? ⟨gb389, 3, none⟩ = some (.string a0_3) ∧ w'.cell? ⟨gb389, 4, none⟩ = some (.string a0_4)) (ds := []) #[F_,F_,F_,F_,F_,F_,F_,F_,F_,F_,F_,F_] (by kernel_rfl) rfl rfl ⟨(blk_cell BK389.out 0).trans rfl, (blk_cell BK389.out 1).trans rfl, (blk_cell BK389.out 2).trans rfl, (blk_cell BK389.out 3).trans rfl, (blk_cell BK389.out 4).trans rfl⟩ (fun hHeld => ?_); refine with_tabW r29_Rule.tab1 r29_Rule.bits1 (fun HT_ HW_ => ?_)
   generalize w28.drew = w29 at BK389 HB hHeld ⊢
   refine pu_ 0 (some 23) #[T_,F_,F_,F_,F_,F_,F_,F_,F_,F_,F_,F_] HT_.out rfl rfl ?_
   refine pu_ 2 (some 25) #[T_,F_,T_,F_,F_,F_,F_,F_,F_,F_,F_,F_] HT_.out rfl rfl ?_
   refine pu_ 3 (some 26) #[T_,F_,T_,T_,F_,F_,F_,F_,F_,F_,F_,F_] HT_.out rfl rfl ?_
   refine take_ (i := 1) (N := some 24) (v := ?_) (a' := ?_) #[T_,T_,T_,T_,F_,F_,F_,F_,F_,F_,F_,F_] rfl rfl (take_ofW HT_.out HW_.out (by kernel_rfl)) (fun _ _ _ h => h) (Or.inl ⟨by rfl, ?_⟩) hHeld ?_ ?_
   rotate_left
   ·rintro w' ⟨s0, s1, s2, s3, s4⟩
    go_simp
    with_reducible rfl
   rotate_left
   ·simp only [Act.put,s1_,s2_,s3_, i64_w, i32_w]
    rfl
   refine take_ (i := 4) (N := some 27) (v := ?_) (a' := ?_) #[T_,T_,T_,T_,T_,F_,F_,F_,F_,F_,F_,F_] rfl rfl (take_ofW HT_.out HW_.out (by kernel_rfl)) (fun _ _ _ h => h) (Or.inl ⟨by rfl, ?_⟩) hHeld ?_ ?_
   rotate_left
   ·rintro w' ⟨s0, s1, s2, s3, s4⟩
    go_simp
    with_reducible rfl
   rotate_left
   ·simp only [Act.put,s1_,s2_,s3_, i64_w, i32_w]
    rfl
   refine one_ (i := 5) (N := some 28) #[T_,T_,T_,T_,T_,T_,F_,F_,F_,F_,F_,F_] rfl rfl (one_of HT_.out (by kernel_rfl)) (by decide) (fun K hK => ?_)
   refine goes_ Tryz.func22 (by kernel_rfl) rfl #[.string a1, .string a0_1] (by rfl) rfl rfl mp_ ?_
   with_reducible refine (r29_Value.calls k a1 a0_1 t390 _ A3.out).mono ?_
   rintro e w30 ⟨rfl, hb⟩
   refine ⟨_, rfl, ?_⟩
   have n0_ := A_ (blk_below (g := gb389) (o := .cells #[.int .i64 a0_0, .string a0_1, .string a0_2, .string a0_3, .string a0_4] 43 (0, 0)) (bk_ BK389.out) hb)
   have n1_ := A_ (below_step HB.out hb)
   clear BK389
   clear HB
   have BK389 := n0_
   have HB := n1_
   clear n0_ n1_
   (try clear hb)
   (try clear hb2)
   (try clear hk)
   (try clear hi)
   refine hK.out _ _ ⟨(blk_cell BK389.out 0).trans rfl, (blk_cell BK389.out 1).trans rfl, (blk_cell BK389.out 2).trans rfl, (blk_cell BK389.out 3).trans rfl, (blk_cell BK389.out 4).trans rfl⟩ (fun hHeld => ?_)
   clear hK K
   refine norm_ (a' := ?_) ?_ ?_
   rotate_left
   ·show Act.put _ (some 28) _ = _
    simp only [Act.put,s1_,s2_,s3_, i64_w, i32_w]
    rfl
   refine one_ (i := 6) (N := some 29) #[T_,T_,T_,T_,T_,T_,T_,F_,F_,F_,F_,F_] rfl rfl (one_of HT_.out (by kernel_rfl)) (by decide) (fun K hK => ?_)
   refine goes_ Tryz.func12 (by kernel_rfl) rfl #[.string a0_2, .string t390] (by rfl) rfl rfl mp_ ?_
   with_reducible refine (r29_Match.calls k a0_2 t390 t391 false _ A4.out).mono ?_
   rintro e w31 ⟨v393, rfl, ho0, hb⟩
   refine ⟨_, rfl, ?_⟩
   have n0_ := A_ (Kd.R_lower ho0 (below_size HB.out))
   have n1_ := A_ (blk_below (g := gb389) (o := .cells #[.int .i64 a0_0, .string a0_1, .string a0_2, .string a0_3, .string a0_4] 43 (0, 0)) (bk_ BK389.out) hb)
   have n2_ := A_ (below_step HB.out hb)
   clear BK389
   clear HB
   have HO394 := n0_
   have BK389 := n1_
   have HB := n2_
   clear n0_ n1_ n2_
   (try clear hb)
   (try clear hb2)
   (try clear hk)
   (try clear hi)
   (try clear ho0)
   refine hK.out _ _ ⟨(blk_cell BK389.out 0).trans rfl, (blk_cell BK389.out 1).trans rfl, (blk_cell BK389.out 2).trans rfl, (blk_cell BK389.out 3).trans rfl, (blk_cell BK389.out 4).trans rfl⟩ (fun hHeld => ?_)
   clear hK K
   refine norm_ (a' := ?_) ?_ ?_
   rotate_left
   ·show Act.put _ (some 29) _ = _
    simp only [Act.put,s1_,s2_,s3_, i64_w, i32_w]
    rfl
   refine pu_ 7 (some 22) #[T_,T_,T_,T_,T_,T_,T_,T_,F_,F_,F_,F_] HT_.out rfl rfl ?_
   refine pu_ 8 (some 30) #[T_,T_,T_,T_,T_,T_,T_,T_,T_,F_,F_,F_] HT_.out rfl rfl ?_
   refine pu_ 9 (some 31) #[T_,T_,T_,T_,T_,T_,T_,T_,T_,T_,F_,F_] HT_.out rfl rfl ?_
   refine pu_ 10 (some 7) #[T_,T_,T_,T_,T_,T_,T_,T_,T_,T_,T_,F_] HT_.out rfl rfl ?_
   refine pu_ 11 (some 8) #[T_,T_,T_,T_,T_,T_,T_,T_,T_,T_,T_,T_] HT_.out rfl rfl ?_
   refine done_ (done_of HT_.out (by kernel_rfl)) ?_
   have hcz32_0 : w31.cell? ⟨gb389, 0, none⟩ = some (.int .i64 a0_0) := (blk_cell BK389.out 0).trans rfl
   have hcz32_1 : w31.cell? ⟨gb389, 1, none⟩ = some (.string a0_1) := (blk_cell BK389.out 1).trans rfl
   have hcz32_2 : w31.cell? ⟨gb389, 2, none⟩ = some (.string a0_2) := (blk_cell BK389.out 2).trans rfl
   have hcz32_3 : w31.cell? ⟨gb389, 3, none⟩ = some (.string a0_3) := (blk_cell BK389.out 3).trans rfl
   have hcz32_4 : w31.cell? ⟨gb389, 4, none⟩ = some (.string a0_4) := (blk_cell BK389.out 4).trans rfl
   have hfz32_0 := blk_frozen BK389.out 0
   have hfz32_1 := blk_frozen BK389.out 1
   have hfz32_2 := blk_frozen BK389.out 2
   have hfz32_3 := blk_frozen BK389.out 3
   have hfz32_4 := blk_frozen BK389.out 4
   try go_wp2
   go_ret3
   exact ⟨by rfl, HB.out⟩
  subst c18
  have H1 : ((r29_Fill.f k a0_3 t391).bind fun bt395 => ((r29_set.f k a1 a0_4 bt395.1).bind fun bt397 => (some (bt397.1, (bt397.2 == 0), bt397.2)))) = some (r1, r2, r3) := by rw [if_pos rfl] at H; exact H
  clear H
  have H := H1
  clear H1
  replace H := Option.bind_eq_some_iff.mp H
  obtain ⟨⟨t395, t396⟩, A190, H⟩ := H
  replace H : ((r29_set.f k a1 a0_4 t395).bind fun bt397 => (some (bt397.1, (bt397.2 == 0), bt397.2))) = some (r1, r2, r3) := H
  have A19 := A_ A190
  clear A190
  replace H := Option.bind_eq_some_iff.mp H
  obtain ⟨⟨t397, t398⟩, A200, H⟩ := H
  replace H : (some (t397, (t398 == 0), t398)) = some (r1, r2, r3) := H
  have A20 := A_ A200
  clear A200
  simp only [Option.some.injEq, Prod.mk.injEq] at H
  obtain ⟨rfl, rfl, rfl⟩ := H
  go_enter Tryz.func40, Tryz.ntmps40
  try go_wp2_with (first | ((with_reducible refine gate_dst (N := 2) rfl ?_); refine box_event ?hg (N := 2) ?hd (cs := #[.int .i64 a0_0, .string a0_1, .string a0_2, .string a0_3, .string a0_4]) (t := 43) ?hr ?_; (case hd => rfl); (case hg => rfl); (case hr => (go_simp; done)); intro gb389 hg w21 hbox hb; have n0_ := A_ (below_step HB.out hb); have n1_ := A_ (hbox); have n2_ := A_ ((by rw [hg]; exact (below_size HB.out) : w.heap.size ≤ gb389)); have n3_ := A_ ((by rw [hg]; exact (below_size HB.out) : w.heap.size ≤ gb389)); clear HB; have HB := n0_; have BK389 := n1_; have GW389 := n2_; have GE389 := n3_; clear n0_ n1_ n2_ n3_; clear hb hbox hg))
  have n0_ := A_ (blk_drew BK389.out)
  have n1_ := A_ (below_drew1 HB.out)
  clear BK389
  clear HB
  have BK389 := n0_
  have HB := n1_
  clear n0_ n1_
  refine start_ (n := 12) (S := fun w' => w'.cell? ⟨gb389, 0, none⟩ = some (.int .i64 a0_0) ∧ w'.cell? ⟨gb389, 1, none⟩ = some (.string a0_1) ∧ w'.cell? ⟨gb389, 2, none⟩ = some (.string a0_2) ∧ w'.cell? ⟨gb389, 3, none⟩ = some (.string a0_3) ∧ w'.cell? ⟨gb389, 4, none⟩ = some (.string a0_4)) (ds := []) #[F_,F_,F_,F_,F_,F_,F_,F_,F_,F_,F_,F_] (by kernel_rfl) rfl rfl ⟨(blk_cell BK389.out 0).trans rfl, (blk_cell BK389.out 1).trans rfl, (blk_cell BK389.out 2).trans rfl, (blk_cell BK389.out 3).trans rfl, (blk_cell BK389.out 4).trans rfl⟩ (fun hHeld => ?_); refine with_tabW r29_Rule.tab1 r29_Rule.bits1 (fun HT_ HW_ => ?_)
  generalize w21.drew = w22 at BK389 HB hHeld ⊢
  refine pu_ 0 (some 23) #[T_,F_,F_,F_,F_,F_,F_,F_,F_,F_,F_,F_] HT_.out rfl rfl ?_
  refine pu_ 2 (some 25) #[T_,F_,T_,F_,F_,F_,F_,F_,F_,F_,F_,F_] HT_.out rfl rfl ?_
  refine pu_ 3 (some 26) #[T_,F_,T_,T_,F_,F_,F_,F_,F_,F_,F_,F_] HT_.out rfl rfl ?_
  refine take_ (i := 1) (N := some 24) (v := ?_) (a' := ?_) #[T_,T_,T_,T_,F_,F_,F_,F_,F_,F_,F_,F_] rfl rfl (take_ofW HT_.out HW_.out (by kernel_rfl)) (fun _ _ _ h => h) (Or.inl ⟨by rfl, ?_⟩) hHeld ?_ ?_
  rotate_left
  ·rintro w' ⟨s0, s1, s2, s3, s4⟩
   go_simp
   with_reducible rfl
  rotate_left
  ·simp only [Act.put,s1_,s2_,s3_, i64_w, i32_w]
   rfl
  refine take_ (i := 4) (N := some 27) (v := ?_) (a' := ?_) #[T_,T_,T_,T_,T_,F_,F_,F_,F_,F_,F_,F_] rfl rfl (take_ofW HT_.out HW_.out (by kernel_rfl)) (fun _ _ _ h => h) (Or.inl ⟨by rfl, ?_⟩) hHeld ?_ ?_
  rotate_left
  ·rintro w' ⟨s0, s1, s2, s3, s4⟩
   go_simp
   with_reducible rfl
  rotate_left
  ·simp only [Act.put,s1_,s2_,s3_, i64_w, i32_w]
   rfl
  refine one_ (i := 5) (N := some 28) #[T_,T_,T_,T_,T_,T_,F_,F_,F_,F_,F_,F_] rfl rfl (one_of HT_.out (by kernel_rfl)) (by decide) (fun K hK => ?_)
  refine goes_ Tryz.func22 (by kernel_rfl) rfl #[.string a1, .string a0_1] (by rfl) rfl rfl mp_ ?_
  with_reducible refine (r29_Value.calls k a1 a0_1 t390 _ A3.out).mono ?_
  rintro e w23 ⟨rfl, hb⟩
  refine ⟨_, rfl, ?_⟩
  have n0_ := A_ (blk_below (g := gb389) (o := .cells #[.int .i64 a0_0, .string a0_1, .string a0_2, .string a0_3, .string a0_4] 43 (0, 0)) (bk_ BK389.out) hb)
  have n1_ := A_ (below_step HB.out hb)
  clear BK389
  clear HB
  have BK389 := n0_
  have HB := n1_
  clear n0_ n1_
  (try clear hb)
  (try clear hb2)
  (try clear hk)
  (try clear hi)
  refine hK.out _ _ ⟨(blk_cell BK389.out 0).trans rfl, (blk_cell BK389.out 1).trans rfl, (blk_cell BK389.out 2).trans rfl, (blk_cell BK389.out 3).trans rfl, (blk_cell BK389.out 4).trans rfl⟩ (fun hHeld => ?_)
  clear hK K
  refine norm_ (a' := ?_) ?_ ?_
  rotate_left
  ·show Act.put _ (some 28) _ = _
   simp only [Act.put,s1_,s2_,s3_, i64_w, i32_w]
   rfl
  refine one_ (i := 6) (N := some 29) #[T_,T_,T_,T_,T_,T_,T_,F_,F_,F_,F_,F_] rfl rfl (one_of HT_.out (by kernel_rfl)) (by decide) (fun K hK => ?_)
  refine goes_ Tryz.func12 (by kernel_rfl) rfl #[.string a0_2, .string t390] (by rfl) rfl rfl mp_ ?_
  with_reducible refine (r29_Match.calls k a0_2 t390 t391 true _ A4.out).mono ?_
  rintro e w24 ⟨v393, rfl, ho0, hb⟩
  refine ⟨_, rfl, ?_⟩
  have n0_ := A_ (Kd.R_lower ho0 (below_size HB.out))
  have n1_ := A_ (blk_below (g := gb389) (o := .cells #[.int .i64 a0_0, .string a0_1, .string a0_2, .string a0_3, .string a0_4] 43 (0, 0)) (bk_ BK389.out) hb)
  have n2_ := A_ (below_step HB.out hb)
  clear BK389
  clear HB
  have HO394 := n0_
  have BK389 := n1_
  have HB := n2_
  clear n0_ n1_ n2_
  (try clear hb)
  (try clear hb2)
  (try clear hk)
  (try clear hi)
  (try clear ho0)
  refine hK.out _ _ ⟨(blk_cell BK389.out 0).trans rfl, (blk_cell BK389.out 1).trans rfl, (blk_cell BK389.out 2).trans rfl, (blk_cell BK389.out 3).trans rfl, (blk_cell BK389.out 4).trans rfl⟩ (fun hHeld => ?_)
  clear hK K
  refine norm_ (a' := ?_) ?_ ?_
  rotate_left
  ·show Act.put _ (some 29) _ = _
   simp only [Act.put,s1_,s2_,s3_, i64_w, i32_w]
   rfl
  refine pu_ 7 (some 22) #[T_,T_,T_,T_,T_,T_,T_,T_,F_,F_,F_,F_] HT_.out rfl rfl ?_
  refine pu_ 8 (some 30) #[T_,T_,T_,T_,T_,T_,T_,T_,T_,F_,F_,F_] HT_.out rfl rfl ?_
  refine pu_ 9 (some 31) #[T_,T_,T_,T_,T_,T_,T_,T_,T_,T_,F_,F_] HT_.out rfl rfl ?_
  refine pu_ 10 (some 7) #[T_,T_,T_,T_,T_,T_,T_,T_,T_,T_,T_,F_] HT_.out rfl rfl ?_
  refine pu_ 11 (some 8) #[T_,T_,T_,T_,T_,T_,T_,T_,T_,T_,T_,T_] HT_.out rfl rfl ?_
  refine done_ (done_of HT_.out (by kernel_rfl)) ?_
  have hcz25_0 : w24.cell? ⟨gb389, 0, none⟩ = some (.int .i64 a0_0) := (blk_cell BK389.out 0).trans rfl
  have hcz25_1 : w24.cell? ⟨gb389, 1, none⟩ = some (.string a0_1) := (blk_cell BK389.out 1).trans rfl
  have hcz25_2 : w24.cell? ⟨gb389, 2, none⟩ = some (.string a0_2) := (blk_cell BK389.out 2).trans rfl
  have hcz25_3 : w24.cell? ⟨gb389, 3, none⟩ = some (.string a0_3) := (blk_cell BK389.out 3).trans rfl
  have hcz25_4 : w24.cell? ⟨gb389, 4, none⟩ = some (.string a0_4) := (blk_cell BK389.out 4).trans rfl
  have hfz25_0 := blk_frozen BK389.out 0
  have hfz25_1 := blk_frozen BK389.out 1
  have hfz25_2 := blk_frozen BK389.out 2
  have hfz25_3 := blk_frozen BK389.out 3
  have hfz25_4 := blk_frozen BK389.out 4
  obtain ⟨Ao26, co26, eo26⟩ := Kd.R_slice HO394.out
  subst eo26
  try go_wp2_with (first | ((with_reducible refine gate_callee (f := 15) rfl ?_); refine goesL_ (some 52) rfl rfl Tryz.func15 (by kernel_rfl) rfl #[.string a0_3, .slice Ao26 t391.length co26] rfl mp_ ?_; (with_reducible refine (r29_Fill.calls k a0_3 _ _ t391 t395 t396 _ ?side1 ?side2 A19.out).mono ?_); (case side1 => repeat (exact (Kd.R_reads' HO394.out).2.2)); (case side2 => exact (Kd.R_reads' HO394.out).2.1); rintro e w' ⟨rfl, ⟨nd, rfl⟩⟩; refine ⟨_, rfl, ?_⟩) | ((with_reducible refine gate_callee (f := 68) rfl ?_); refine goesL_ (some 60) rfl rfl Tryz.func68 (by kernel_rfl) rfl #[.string a1, .string a0_4, .string t395] rfl mp_ ?_; (with_reducible refine (r29_set.calls k a1 a0_4 t395 t397 t398 _ A20.out).mono ?_); rintro e w27 ⟨rfl, hb⟩; refine ⟨_, rfl, ?_⟩; have n0_ := A_ (Kd.R_below (by (with_reducible repeat (apply Kd.R_drewN)); exact HO394.out) hb); have n1_ := A_ (blk_below (g := gb389) (o := .cells #[.int .i64 a0_0, .string a0_1, .string a0_2, .string a0_3, .string a0_4] 43 (0, 0)) (by (with_reducible repeat (refine blk_drewN ?_ _)); exact BK389.out) hb); have n2_ := A_ (below_step (by repeat ((with_reducible first | exact HB.out | apply pw_below_drewN))) hb); clear HO394; clear BK389; clear HB; have HO394 := n0_; have BK389 := n1_; have HB := n2_; clear n0_ n1_ n2_; (try clear hb); (try clear hb2); (try clear hk); (try clear hi)))
  go_ret3
  exact ⟨by rfl, HB.out⟩
 rw [if_neg c17] at H
 have c17b0 : (a0_0 == 3) = false := beq_eq_false_iff_ne.mpr c17
 have c17b1 : (a0_0 != 3) = true := bne_iff_ne.mpr c17
 replace H := Option.bind_eq_some_iff.mp H
 obtain ⟨⟨t399, t400, t401⟩, A330, H⟩ := H
 replace H : (r29_Rule.l0 k t399 t400 ([] : List (S96)) 0 a0_0 a0_1 a0_2 a0_3 a0_4) = some (r1, r2, r3) := H
 have A33 := A_ A330
 clear A330
 have H' := A_ H
 clear H
 go_enter Tryz.func40, Tryz.ntmps40
 try go_wp2_with (first | ((with_reducible refine gate_dst (N := 2) rfl ?_); refine box_event ?hg (N := 2) ?hd (cs := #[.int .i64 a0_0, .string a0_1, .string a0_2, .string a0_3, .string a0_4]) (t := 43) ?hr ?_; (case hd => rfl); (case hg => rfl); (case hr => (go_simp; done)); intro gb389 hg w34 hbox hb; have n0_ := A_ (below_step HB.out hb); have n1_ := A_ (hbox); have n2_ := A_ ((by rw [hg]; exact (below_size HB.out) : w.heap.size ≤ gb389)); have n3_ := A_ ((by rw [hg]; exact (below_size HB.out) : w.heap.size ≤ gb389)); clear HB; have HB := n0_; have BK389 := n1_; have GW389 := n2_; have GE389 := n3_; clear n0_ n1_ n2_ n3_; clear hb hbox hg))
 have n0_ := A_ (blk_drew BK389.out)
 have n1_ := A_ (below_drew1 HB.out)
 clear BK389
 clear HB
 have BK389 := n0_
 have HB := n1_
 clear n0_ n1_
 refine start_ (n := 12) (S := fun w' => w'.cell? ⟨gb389, 0, none⟩ = some (.int .i64 a0_0) ∧ w'.cell? ⟨gb389, 1, none⟩ = some (.string a0_1) ∧ w'.cell? ⟨gb389, 2, none⟩ = some (.string a0_2) ∧ w'.cell? ⟨gb389, 3, none⟩ = some (.string a0_3) ∧ w'.cell? ⟨gb389, 4, none⟩ = some (.string a0_4)) (ds := []) #[F_,F_,F_,F_,F_,F_,F_,F_,F_,F_,F_,F_] (by kernel_rfl) rfl rfl ⟨(blk_cell BK389.out 0).trans rfl, (blk_cell BK389.out 1).trans rfl, (blk_cell BK389.out 2).trans rfl, (blk_cell BK389.out 3).trans rfl, (blk_cell BK389.out 4).trans rfl⟩ (fun hHeld => ?_); refine with_tabW r29_Rule.tab1 r29_Rule.bits1 (fun HT_ HW_ => ?_)
 generalize w34.drew = w35 at BK389 HB hHeld ⊢
 refine pu_ 0 (some 23) #[T_,F_,F_,F_,F_,F_,F_,F_,F_,F_,F_,F_] HT_.out rfl rfl ?_
 refine pu_ 2 (some 25) #[T_,F_,T_,F_,F_,F_,F_,F_,F_,F_,F_,F_] HT_.out rfl rfl ?_
 refine pu_ 3 (some 26) #[T_,F_,T_,T_,F_,F_,F_,F_,F_,F_,F_,F_] HT_.out rfl rfl ?_
 refine take_ (i := 1) (N := some 24) (v := ?_) (a' := ?_) #[T_,T_,T_,T_,F_,F_,F_,F_,F_,F_,F_,F_] rfl rfl (take_ofW HT_.out HW_.out (by kernel_rfl)) (fun _ _ _ h => h) (Or.inl ⟨by rfl, ?_⟩) hHeld ?_ ?_
 rotate_left
 ·rintro w' ⟨s0, s1, s2, s3, s4⟩
  go_simp
  with_reducible rfl
 rotate_left
 ·simp only [Act.put,s1_,s2_,s3_, i64_w, i32_w]
  rfl
 refine take_ (i := 4) (N := some 27) (v := ?_) (a' := ?_) #[T_,T_,T_,T_,T_,F_,F_,F_,F_,F_,F_,F_] rfl rfl (take_ofW HT_.out HW_.out (by kernel_rfl)) (fun _ _ _ h => h) (Or.inl ⟨by rfl, ?_⟩) hHeld ?_ ?_
 rotate_left
 ·rintro w' ⟨s0, s1, s2, s3, s4⟩
  go_simp
  with_reducible rfl
 rotate_left
 ·simp only [Act.put,s1_,s2_,s3_, i64_w, i32_w]
  rfl
 refine one_ (i := 5) (N := some 28) #[T_,T_,T_,T_,T_,T_,F_,F_,F_,F_,F_,F_] rfl rfl (one_of HT_.out (by kernel_rfl)) (by decide) (fun K hK => ?_)
 refine goes_ Tryz.func22 (by kernel_rfl) rfl #[.string a1, .string a0_1] (by rfl) rfl rfl mp_ ?_
 with_reducible refine (r29_Value.calls k a1 a0_1 t390 _ A3.out).mono ?_
 rintro e w36 ⟨rfl, hb⟩
 refine ⟨_, rfl, ?_⟩
 have n0_ := A_ (blk_below (g := gb389) (o := .cells #[.int .i64 a0_0, .string a0_1, .string a0_2, .string a0_3, .string a0_4] 43 (0, 0)) (bk_ BK389.out) hb)
 have n1_ := A_ (below_step HB.out hb)
 clear BK389
 clear HB
 have BK389 := n0_
 have HB := n1_
 clear n0_ n1_
 (try clear hb)
 (try clear hb2)
 (try clear hk)
 (try clear hi)
 refine hK.out _ _ ⟨(blk_cell BK389.out 0).trans rfl, (blk_cell BK389.out 1).trans rfl, (blk_cell BK389.out 2).trans rfl, (blk_cell BK389.out 3).trans rfl, (blk_cell BK389.out 4).trans rfl⟩ (fun hHeld => ?_)
 clear hK K
 refine norm_ (a' := ?_) ?_ ?_
 rotate_left
 ·show Act.put _ (some 28) _ = _
  simp only [Act.put,s1_,s2_,s3_, i64_w, i32_w]
  rfl
 refine one_ (i := 6) (N := some 29) #[T_,T_,T_,T_,T_,T_,T_,F_,F_,F_,F_,F_] rfl rfl (one_of HT_.out (by kernel_rfl)) (by decide) (fun K hK => ?_)
 refine goes_ Tryz.func12 (by kernel_rfl) rfl #[.string a0_2, .string t390] (by rfl) rfl rfl mp_ ?_
 with_reducible refine (r29_Match.calls k a0_2 t390 t391 t392 _ A4.out).mono ?_
 rintro e w37 ⟨v393, rfl, ho0, hb⟩
 refine ⟨_, rfl, ?_⟩
 have n0_ := A_ (Kd.R_lower ho0 (below_size HB.out))
 have n1_ := A_ (blk_below (g := gb389) (o := .cells #[.int .i64 a0_0, .string a0_1, .string a0_2, .string a0_3, .string a0_4] 43 (0, 0)) (bk_ BK389.out) hb)
 have n2_ := A_ (below_step HB.out hb)
 clear BK389
 clear HB
 have HO394 := n0_
 have BK389 := n1_
 have HB := n2_
 clear n0_ n1_ n2_
 (try clear hb)
 (try clear hb2)
 (try clear hk)
 (try clear hi)
 (try clear ho0)
 refine hK.out _ _ ⟨(blk_cell BK389.out 0).trans rfl, (blk_cell BK389.out 1).trans rfl, (blk_cell BK389.out 2).trans rfl, (blk_cell BK389.out 3).trans rfl, (blk_cell BK389.out 4).trans rfl⟩ (fun hHeld => ?_)
 clear hK K
 refine norm_ (a' := ?_) ?_ ?_
 rotate_left
 ·show Act.put _ (some 29) _ = _
  simp only [Act.put,s1_,s2_,s3_, i64_w, i32_w]
  rfl
 refine pu_ 7 (some 22) #[T_,T_,T_,T_,T_,T_,T_,T_,F_,F_,F_,F_] HT_.out rfl rfl ?_
 refine pu_ 8 (some 30) #[T_,T_,T_,T_,T_,T_,T_,T_,T_,F_,F_,F_] HT_.out rfl rfl ?_
 refine pu_ 9 (some 31) #[T_,T_,T_,T_,T_,T_,T_,T_,T_,T_,F_,F_] HT_.out rfl rfl ?_
 refine pu_ 10 (some 7) #[T_,T_,T_,T_,T_,T_,T_,T_,T_,T_,T_,F_] HT_.out rfl rfl ?_
 refine pu_ 11 (some 8) #[T_,T_,T_,T_,T_,T_,T_,T_,T_,T_,T_,T_] HT_.out rfl rfl ?_
 refine done_ (done_of HT_.out (by kernel_rfl)) ?_
 have hcz38_0 : w37.cell? ⟨gb389, 0, none⟩ = some (.int .i64 a0_0) := (blk_cell BK389.out 0).trans rfl
 have hcz38_1 : w37.cell? ⟨gb389, 1, none⟩ = some (.string a0_1) := (blk_cell BK389.out 1).trans rfl
 have hcz38_2 : w37.cell? ⟨gb389, 2, none⟩ = some (.string a0_2) := (blk_cell BK389.out 2).trans rfl
 have hcz38_3 : w37.cell? ⟨gb389, 3, none⟩ = some (.string a0_3) := (blk_cell BK389.out 3).trans rfl
 have hcz38_4 : w37.cell? ⟨gb389, 4, none⟩ = some (.string a0_4) := (blk_cell BK389.out 4).trans rfl
 have hfz38_0 := blk_frozen BK389.out 0
 have hfz38_1 := blk_frozen BK389.out 1
 have hfz38_2 := blk_frozen BK389.out 2
 have hfz38_3 := blk_frozen BK389.out 3
 have hfz38_4 := blk_frozen BK389.out 4
 try go_wp2_with (first | ((with_reducible refine gate_callee (f := 23) rfl ?_); refine goesL_ (some 69) rfl rfl Tryz.func23 (by kernel_rfl) rfl #[.string a1] rfl mp_ ?_; (with_reducible refine (r03_Parse.calls k a1 t399 t400 t401 _ A33.out).mono ?_); rintro e w39 ⟨v402, rfl, ho0, hb⟩; refine ⟨_, rfl, ?_⟩; have n0_ := A_ (Kd.R_below (rr_ HO394.out) hb); have n1_ := A_ (Kd.R_lower ho0 (below_size HB.out)); have n2_ := A_ (blk_below (g := gb389) (o := .cells #[.int .i64 a0_0, .string a0_1, .string a0_2, .string a0_3, .string a0_4] 43 (0, 0)) (bk_ BK389.out) hb); have n3_ := A_ (below_step HB.out hb); clear HO394; clear BK389; clear HB; have HO394 := n0_; have HO403 := n1_; have BK389 := n2_; have HB := n3_; clear n0_ n1_ n2_ n3_; (try clear hb); (try clear hb2); (try clear hk); (try clear hi); (try clear ho0)))
 go_loopg [16, 17] k (fun kq v16 v17 w' => ∃ (x16_1 : List (S96)) (x17_1 : Int), v17 = .int .i64 x17_1 ∧ Aside0 (r29_Rule.l0 kq t399 t400 x16_1 x17_1 a0_0 a0_1 a0_2 a0_3 a0_4 = some (r1, r2, r3)) ∧ Aside0 (kq ≤ k) ∧ Aside0 (Kd.R k96 96 w' w.heap.size (fun k_ => some k_ ≠ (v16 : Value).ownBlock) v402 t400) ∧ Aside0 (Kd.R k96 96 w' w.heap.size (fun k_ => some k_ ≠ (v402 : Value).ownBlock) v16 x16_1) ∧ Aside0 (w'.heap[gb389]? = some (.cells #[.int .i64 a0_0, .string a0_1, .string a0_2, .string a0_3, .string a0_4] 43 (0, 0))) ∧ Aside0 (Below w.heap.size w w'))
 case atStart => exact ⟨(([] : List (S96))), (0), (by rfl), H', ⟨Nat.le_refl _⟩, ⟨by (with_reducible repeat (first | apply Kd.R_alloc | apply Kd.R_drewN | apply Kd.R_drew)); exact Kd.R_mono HO403.out (fun _ hk => (by simp [Value.ownBlock]))⟩, ⟨by exact Kd.R_nil _ _ _ _ _⟩, ⟨bk_ BK389.out⟩, ⟨HB.out⟩⟩
 case round =>
  clear H'
  try clear c1
  try clear c2
  try clear p2
  try clear c4
  try clear c6
  try clear c11
  try clear c11b0
  try clear c11b1
  try clear c12
  try clear c15
  try clear c17
  try clear c17b0
  try clear c17b1
  try clear c18
  try clear c22
  try clear c23
  try clear hcz16_0
  try clear hcz16_1
  try clear hcz16_2
  try clear hcz16_3
  try clear hcz16_4
  try clear hcz25_0
  try clear hcz25_1
  try clear hcz25_2
  try clear hcz25_3
  try clear hcz25_4
  try clear hcz32_0
  try clear hcz32_1
  try clear hcz32_2
  try clear hcz32_3
  try clear hcz32_4
  try clear hcz38_0
  try clear hcz38_1
  try clear hcz38_2
  try clear hcz38_3
  try clear hcz38_4
  try clear hfz16_0
  try clear hfz16_1
  try clear hfz16_2
  try clear hfz16_3
  try clear hfz16_4
  try clear hfz25_0
  try clear hfz25_1
  try clear hfz25_2
  try clear hfz25_3
  try clear hfz25_4
  try clear hfz32_0
  try clear hfz32_1
  try clear hfz32_2
  try clear hfz32_3
  try clear hfz32_4
  try clear hfz38_0
  try clear hfz38_1
  try clear hfz38_2
  try clear hfz38_3
  try clear hfz38_4
  obtain ⟨x16_1, x17_1, rfl, HA, HK1, HO_14, HO_16, BK389, HB⟩ := hrel
  cases gk with
  | zero => exact absurd HA.out (by simp [r29_Rule.l0])
  | succ k1 =>
   have H := HA.out
   clear HA
   simp only [r29_Rule.l0] at H
   by_cases c40 : x17_1 < (t400.length : Int)
   rotate_left
   ·rw [if_neg c40] at H
    have c40b0 := decide_eq_false c40
    clear c40
    replace H := Option.bind_eq_some_iff.mp H
    obtain ⟨⟨t413, t414⟩, A520, H⟩ := H
    replace H : (some (t413, (t414 == 0), t414)) = some (r1, r2, r3) := H
    have A52 := A_ A520
    clear A520
    simp only [Option.some.injEq, Prod.mk.injEq] at H
    obtain ⟨rfl, rfl, rfl⟩ := H
    obtain ⟨Ao53, co53, eo53⟩ := Kd.R_slice HO_14.out
    subst eo53
    obtain ⟨Ao54, co54, eo54⟩ := Kd.R_slice HO_16.out
    subst eo54
    go_wp2_with (first | ((with_reducible refine gate_callee (f := 45) rfl ?_); refine goesL_ (some 102) rfl rfl Tryz.func45 (by kernel_rfl) rfl #[.string t399, .slice Ao54 x16_1.length co54] rfl mp_ ?_; (with_reducible refine (r03_Name.calls k1 t399 _ _ x16_1 t413 t414 _ ?side1 ?side2 A52.out).mono ?_); (case side1 => repeat (exact (Kd.R_reads' HO_16.out).2.2)); (case side2 => exact (Kd.R_reads' HO_16.out).2.1); rintro e w55 ⟨rfl, hb⟩; refine ⟨_, rfl, ?_⟩; have n0_ := A_ (Kd.R_below (rr_ HO_14.out) hb); have n1_ := A_ (Kd.R_below (rr_ HO_16.out) hb); have n2_ := A_ (blk_below (g := gb389) (o := .cells #[.int .i64 a0_0, .string a0_1, .string a0_2, .string a0_3, .string a0_4] 43 (0, 0)) (bk_ BK389.out) hb); have n3_ := A_ (below_step HB.out hb); clear HO_14; clear HO_16; clear BK389; clear HB; have HO_14 := n0_; have HO_16 := n1_; have BK389 := n2_; have HB := n3_; clear n0_ n1_ n2_ n3_; (try clear hb); (try clear hb2); (try clear hk); (try clear hi)))
    go_ret3
    exact ⟨by rfl, HB.out⟩
   rw [if_pos c40] at H
   have c40b0 := decide_eq_true c40
   clear c40
   by_cases c41 : 0 ≤ x17_1
   rotate_left
   ·rw [if_neg c41] at H
    exact absurd H (by simp)
   rw [if_pos c41] at H
   have c41b0 := decide_eq_true c41
   clear c41
   replace H := Option.bind_eq_some_iff.mp H
   obtain ⟨⟨t405, t406⟩, A420, H⟩ := H
   replace H : (if t406 = true then (r29_Rule.l0 k1 t399 t400 x16_1 (wrap64 (x17_1 + 1)) a0_0 a0_1 a0_2 a0_3 a0_4) else (if x16_1.length < 4398046511104 then (r29_Rule.l0 k1 t399 t400 (x16_1 ++ [(⟨(rd_T96 t400 x17_1).f0, (rd_T96 t400 x17_1).f1⟩ : S96)]) (wrap64 (x17_1 + 1)) a0_0 a0_1 a0_2 a0_3 a0_4) else (none))) = some (r1, r2, r3) := H
   have A42 := A_ A420
   clear A420
   by_cases c43 : t406 = true
   ·subst c43
    have H1 : (r29_Rule.l0 k1 t399 t400 x16_1 (wrap64 (x17_1 + 1)) a0_0 a0_1 a0_2 a0_3 a0_4) = some (r1, r2, r3) := by rw [if_pos rfl] at H; exact H
    clear H
    have H := H1
    clear H1
    have H' := A_ H
    clear H
    obtain ⟨Ao44, co44, eo44⟩ := Kd.R_slice HO_14.out
    subst eo44
    try go_wp2
    have n0_ := A_ (Kd.R_drew HO_14.out)
    have n1_ := A_ (Kd.R_drew HO_16.out)
    have n2_ := A_ (blk_drew BK389.out)
    have n3_ := A_ (below_drew1 HB.out)
    clear HO_14
    clear HO_16
    clear BK389
    clear HB
    have HO_14 := n0_
    have HO_16 := n1_
    have BK389 := n2_
    have HB := n3_
    clear n0_ n1_ n2_ n3_
    have p404 : 0 ≤ (x17_1 : Int) := od_
    have q404 : x17_1 < (t400.length : Int) := od_
    (try (obtain ⟨Ax404_, cx404_, ex404_⟩ := Kd.R_slice HO_14.out; subst ex404_))
    obtain ⟨ad404, e404, hx404_0, hx404_1⟩ := at_T96 (Kd.R_reads' HO_14.out).2.2 x17_1 p404 q404
    cases e404
    replace p404 := eq_true p404
    replace q404 := eq_true q404
    refine start_ (n := 13) (S := fun w' => w'.cell? ⟨gb389, 0, none⟩ = some (.int .i64 a0_0) ∧ w'.cell? ⟨gb389, 1, none⟩ = some (.string a0_1) ∧ w'.cell? ⟨gb389, 2, none⟩ = some (.string a0_2) ∧ w'.cell? ⟨gb389, 3, none⟩ = some (.string a0_3) ∧ w'.cell? ⟨gb389, 4, none⟩ = some (.string a0_4) ∧ w'.cell? (ad404.add ((x17_1).toNat * 2)) = some (.string ((rd_T96 t400 x17_1).f0)) ∧ w'.cell? ⟨(ad404.add ((x17_1).toNat * 2)).block, (ad404.add ((x17_1).toNat * 2)).off + 1, none⟩ = some (.string ((rd_T96 t400 x17_1).f1))) (ds := []) #[F_,F_,F_,F_,F_,F_,F_,F_,F_,F_,F_,F_,F_] (by kernel_rfl) rfl rfl ⟨(blk_cell BK389.out 0).trans rfl, (blk_cell BK389.out 1).trans rfl, (blk_cell BK389.out 2).trans rfl, (blk_cell BK389.out 3).trans rfl, (blk_cell BK389.out 4).trans rfl, hx404_0, hx404_1⟩ (fun hHeld => ?_); refine with_tabW r29_Rule.tab18 r29_Rule.bits18 (fun HT_ HW_ => ?_)
    generalize wr.drew = w45 at HO_14 HO_16 BK389 HB hx404_0 hx404_1 hHeld ⊢
    refine pu_ 0 (some 80) #[T_,F_,F_,F_,F_,F_,F_,F_,F_,F_,F_,F_,F_] HT_.out rfl rfl ?_
    refine pu_ 2 (some 82) #[T_,F_,T_,F_,F_,F_,F_,F_,F_,F_,F_,F_,F_] HT_.out rfl rfl ?_
    refine pu_ 3 (some 83) #[T_,F_,T_,T_,F_,F_,F_,F_,F_,F_,F_,F_,F_] HT_.out rfl rfl ?_
    refine pu_ 4 (some 84) #[T_,F_,T_,T_,T_,F_,F_,F_,F_,F_,F_,F_,F_] HT_.out rfl rfl ?_
    refine pu_ 5 (some 85) #[T_,F_,T_,T_,T_,T_,F_,F_,F_,F_,F_,F_,F_] HT_.out rfl rfl ?_
    refine take_ (i := 1) (N := some 81) (v := ?_) (a' := ?_) #[T_,T_,T_,T_,T_,T_,F_,F_,F_,F_,F_,F_,F_] rfl rfl (take_ofW HT_.out HW_.out (by kernel_rfl)) (fun _ _ _ h => h) (Or.inl ⟨by rfl, ?_⟩) hHeld ?_ ?_
    rotate_left
    ·rintro w' ⟨s0, s1, s2, s3, s4, s5, s6⟩
     go_simp
     with_reducible rfl
    rotate_left
    ·simp only [Act.put,s1_,s2_,s3_, i64_w, i32_w]
     rfl
    refine take_ (i := 6) (N := some 86) (v := ?_) (a' := ?_) #[T_,T_,T_,T_,T_,T_,T_,F_,F_,F_,F_,F_,F_] rfl rfl (take_ofW HT_.out HW_.out (by kernel_rfl)) (fun _ _ _ h => h) (Or.inl ⟨by rfl, ?_⟩) hHeld ?_ ?_
    rotate_left
    ·rintro w' ⟨s0, s1, s2, s3, s4, s5, s6⟩
     go_simp
     with_reducible rfl
    rotate_left
    ·simp only [Act.put,s1_,s2_,s3_, i64_w, i32_w]
     rfl
    refine one_ (i := 7) (N := some 87) #[T_,T_,T_,T_,T_,T_,T_,T_,F_,F_,F_,F_,F_] rfl rfl (one_of HT_.out (by kernel_rfl)) (by decide) (fun K hK => ?_)
    refine goes_ Tryz.func12 (by kernel_rfl) rfl #[.string a0_2, .string ((rd_T96 t400 x17_1).f0)] (by rfl) rfl rfl mp_ ?_
    with_reducible refine (r29_Match.calls k1 a0_2 ((rd_T96 t400 x17_1).f0) t405 true _ A42.out).mono ?_
    rintro e w46 ⟨v407, rfl, ho0, hb⟩
    have HS5_ := (hb.cell (World.block_lt_of_cell? _ _ (hHeld.2.2.2.2.2.1))).trans (hHeld.2.2.2.2.2.1)
    have HS6_ := (hb.cell (World.block_lt_of_cell? _ _ (hHeld.2.2.2.2.2.2))).trans (hHeld.2.2.2.2.2.2)
    refine ⟨_, rfl, ?_⟩
    have n0_ := A_ (Kd.R_below (rr_ HO_14.out) hb)
    have n1_ := A_ (Kd.R_below (rr_ HO_16.out) hb)
    have n2_ := A_ (Kd.R_lower ho0 (below_size HB.out))
    have n3_ := A_ (blk_below (g := gb389) (o := .cells #[.int .i64 a0_0, .string a0_1, .string a0_2, .string a0_3, .string a0_4] 43 (0, 0)) (bk_ BK389.out) hb)
    have n4_ := A_ (below_step HB.out hb)
    clear HO_14
    clear HO_16
    clear BK389
    clear HB
    have HO_14 := n0_
    have HO_16 := n1_
    have HO408 := n2_
    have BK389 := n3_
    have HB := n4_
    clear n0_ n1_ n2_ n3_ n4_
    (try clear hb)
    (try clear hb2)
    (try clear hk)
    (try clear hi)
    (try clear ho0)
    refine hK.out _ _ ⟨(blk_cell BK389.out 0).trans rfl, (blk_cell BK389.out 1).trans rfl, (blk_cell BK389.out 2).trans rfl, (blk_cell BK389.out 3).trans rfl, (blk_cell BK389.out 4).trans rfl, HS5_, HS6_⟩ (fun hHeld => ?_)
    clear hK K
    refine norm_ (a' := ?_) ?_ ?_
    rotate_left
    ·show Act.put _ (some 87) _ = _
     simp only [Act.put,s1_,s2_,s3_, i64_w, i32_w]
     rfl
    refine pu_ 8 (some 79) #[T_,T_,T_,T_,T_,T_,T_,T_,T_,F_,F_,F_,F_] HT_.out rfl rfl ?_
    refine pu_ 9 (some 88) #[T_,T_,T_,T_,T_,T_,T_,T_,T_,T_,F_,F_,F_] HT_.out rfl rfl ?_
    refine pu_ 10 (some 89) #[T_,T_,T_,T_,T_,T_,T_,T_,T_,T_,T_,F_,F_] HT_.out rfl rfl ?_
    refine pu_ 11 (some 18) #[T_,T_,T_,T_,T_,T_,T_,T_,T_,T_,T_,T_,F_] HT_.out rfl rfl ?_
    refine pu_ 12 (some 19) #[T_,T_,T_,T_,T_,T_,T_,T_,T_,T_,T_,T_,T_] HT_.out rfl rfl ?_
    refine done_ (done_of HT_.out (by kernel_rfl)) ?_
    try go_wp2
    go_roundg k1
    case measure => have := HK1.out; omega
    case rel => exact ⟨(x16_1), (wrap64 (x17_1 + 1)), (by rfl), H', ⟨by have := HK1.out; omega⟩, ⟨rr_ HO_14.out⟩, ⟨rr_ HO_16.out⟩, ⟨bk_ BK389.out⟩, ⟨HB.out⟩⟩
   replace c43 := Bool.eq_false_iff.mpr c43
   subst c43
   have H1 : (if x16_1.length < 4398046511104 then (r29_Rule.l0 k1 t399 t400 (x16_1 ++ [(⟨(rd_T96 t400 x17_1).f0, (rd_T96 t400 x17_1).f1⟩ : S96)]) (wrap64 (x17_1 + 1)) a0_0 a0_1 a0_2 a0_3 a0_4) else (none)) = some (r1, r2, r3) := by rw [if_neg (show ¬ (false = true) by decide)] at H; exact H
   clear H
   have H := H1
   clear H1
   by_cases c47 : x16_1.length < 4398046511104
   rotate_left
   ·rw [if_neg c47] at H
    exact absurd H (by simp)
   rw [if_pos c47] at H
   have LMc47 := A_ c47
   clear c47
   obtain ⟨y410, hy410⟩ : ∃ y_ : List (S96), y_ = (x16_1 ++ [(⟨(rd_T96 t400 x17_1).f0, (rd_T96 t400 x17_1).f1⟩ : S96)]) := ⟨_, rfl⟩
   replace H : (r29_Rule.l0 k1 t399 t400 y410 (wrap64 (x17_1 + 1)) a0_0 a0_1 a0_2 a0_3 a0_4) = some (r1, r2, r3) := by (rw [hy410]; with_reducible exact H)
   have Ny410 := A_ hy410
   clear hy410
   have H' := A_ H
   clear H
   obtain ⟨Ao48, co48, eo48⟩ := Kd.R_slice HO_14.out
   subst eo48
   try go_wp2
   have n0_ := A_ (Kd.R_drew HO_14.out)
   have n1_ := A_ (Kd.R_drew HO_16.out)
   have n2_ := A_ (blk_drew BK389.out)
   have n3_ := A_ (below_drew1 HB.out)
   clear HO_14
   clear HO_16
   clear BK389
   clear HB
   have HO_14 := n0_
   have HO_16 := n1_
   have BK389 := n2_
   have HB := n3_
   clear n0_ n1_ n2_ n3_
   have p404 : 0 ≤ (x17_1 : Int) := od_
   have q404 : x17_1 < (t400.length : Int) := od_
   (try (obtain ⟨Ax404_, cx404_, ex404_⟩ := Kd.R_slice HO_14.out; subst ex404_))
   obtain ⟨ad404, e404, hx404_0, hx404_1⟩ := at_T96 (Kd.R_reads' HO_14.out).2.2 x17_1 p404 q404
   cases e404
   replace p404 := eq_true p404
   replace q404 := eq_true q404
   refine start_ (n := 13) (S := fun w' => w'.cell? ⟨gb389, 0, none⟩ = some (.int .i64 a0_0) ∧ w'.cell? ⟨gb389, 1, none⟩ = some (.string a0_1) ∧ w'.cell? ⟨gb389, 2, none⟩ = some (.string a0_2) ∧ w'.cell? ⟨gb389, 3, none⟩ = some (.string a0_3) ∧ w'.cell? ⟨gb389, 4, none⟩ = some (.string a0_4) ∧ w'.cell? (ad404.add ((x17_1).toNat * 2)) = some (.string ((rd_T96 t400 x17_1).f0)) ∧ w'.cell? ⟨(ad404.add ((x17_1).toNat * 2)).block, (ad404.add ((x17_1).toNat * 2)).off + 1, none⟩ = some (.string ((rd_T96 t400 x17_1).f1))) (ds := []) #[F_,F_,F_,F_,F_,F_,F_,F_,F_,F_,F_,F_,F_] (by kernel_rfl) rfl rfl ⟨(blk_cell BK389.out 0).trans rfl, (blk_cell BK389.out 1).trans rfl, (blk_cell BK389.out 2).trans rfl, (blk_cell BK389.out 3).trans rfl, (blk_cell BK389.out 4).trans rfl, hx404_0, hx404_1⟩ (fun hHeld => ?_); refine with_tabW r29_Rule.tab18 r29_Rule.bits18 (fun HT_ HW_ => ?_)
   generalize wr.drew = w49 at HO_14 HO_16 BK389 HB hx404_0 hx404_1 hHeld ⊢
   refine pu_ 0 (some 80) #[T_,F_,F_,F_,F_,F_,F_,F_,F_,F_,F_,F_,F_] HT_.out rfl rfl ?_
   refine pu_ 2 (some 82) #[T_,F_,T_,F_,F_,F_,F_,F_,F_,F_,F_,F_,F_] HT_.out rfl rfl ?_
   refine pu_ 3 (some 83) #[T_,F_,T_,T_,F_,F_,F_,F_,F_,F_,F_,F_,F_] HT_.out rfl rfl ?_
   refine pu_ 4 (some 84) #[T_,F_,T_,T_,T_,F_,F_,F_,F_,F_,F_,F_,F_] HT_.out rfl rfl ?_
   refine pu_ 5 (some 85) #[T_,F_,T_,T_,T_,T_,F_,F_,F_,F_,F_,F_,F_] HT_.out rfl rfl ?_
   refine take_ (i := 1) (N := some 81) (v := ?_) (a' := ?_) #[T_,T_,T_,T_,T_,T_,F_,F_,F_,F_,F_,F_,F_] rfl rfl (take_ofW HT_.out HW_.out (by kernel_rfl)) (fun _ _ _ h => h) (Or.inl ⟨by rfl, ?_⟩) hHeld ?_ ?_
   rotate_left
   ·rintro w' ⟨s0, s1, s2, s3, s4, s5, s6⟩
    go_simp
    with_reducible rfl
   rotate_left
   ·simp only [Act.put,s1_,s2_,s3_, i64_w, i32_w]
    rfl
   refine take_ (i := 6) (N := some 86) (v := ?_) (a' := ?_) #[T_,T_,T_,T_,T_,T_,T_,F_,F_,F_,F_,F_,F_] rfl rfl (take_ofW HT_.out HW_.out (by kernel_rfl)) (fun _ _ _ h => h) (Or.inl ⟨by rfl, ?_⟩) hHeld ?_ ?_
   rotate_left
   ·rintro w' ⟨s0, s1, s2, s3, s4, s5, s6⟩
    go_simp
    with_reducible rfl
   rotate_left
   ·simp only [Act.put,s1_,s2_,s3_, i64_w, i32_w]
    rfl
   refine one_ (i := 7) (N := some 87) #[T_,T_,T_,T_,T_,T_,T_,T_,F_,F_,F_,F_,F_] rfl rfl (one_of HT_.out (by kernel_rfl)) (by decide) (fun K hK => ?_)
   refine goes_ Tryz.func12 (by kernel_rfl) rfl #[.string a0_2, .string ((rd_T96 t400 x17_1).f0)] (by rfl) rfl rfl mp_ ?_
   with_reducible refine (r29_Match.calls k1 a0_2 ((rd_T96 t400 x17_1).f0) t405 false _ A42.out).mono ?_
   rintro e w50 ⟨v407, rfl, ho0, hb⟩
   have HS5_ := (hb.cell (World.block_lt_of_cell? _ _ (hHeld.2.2.2.2.2.1))).trans (hHeld.2.2.2.2.2.1)
   have HS6_ := (hb.cell (World.block_lt_of_cell? _ _ (hHeld.2.2.2.2.2.2))).trans (hHeld.2.2.2.2.2.2)
   refine ⟨_, rfl, ?_⟩
   have n0_ := A_ (Kd.R_below (rr_ HO_14.out) hb)
   have n1_ := A_ (Kd.R_below (rr_ HO_16.out) hb)
   have n2_ := A_ (Kd.R_lower ho0 (below_size HB.out))
   have n3_ := A_ (blk_below (g := gb389) (o := .cells #[.int .i64 a0_0, .string a0_1, .string a0_2, .string a0_3, .string a0_4] 43 (0, 0)) (bk_ BK389.out) hb)
   have n4_ := A_ (below_step HB.out hb)
   clear HO_14
   clear HO_16
   clear BK389
   clear HB
   have HO_14 := n0_
   have HO_16 := n1_
   have HO408 := n2_
   have BK389 := n3_
   have HB := n4_
   clear n0_ n1_ n2_ n3_ n4_
   (try clear hb)
   (try clear hb2)
   (try clear hk)
   (try clear hi)
   (try clear ho0)
   refine hK.out _ _ ⟨(blk_cell BK389.out 0).trans rfl, (blk_cell BK389.out 1).trans rfl, (blk_cell BK389.out 2).trans rfl, (blk_cell BK389.out 3).trans rfl, (blk_cell BK389.out 4).trans rfl, HS5_, HS6_⟩ (fun hHeld => ?_)
   clear hK K
   refine norm_ (a' := ?_) ?_ ?_
   rotate_left
   ·show Act.put _ (some 87) _ = _
    simp only [Act.put,s1_,s2_,s3_, i64_w, i32_w]
    rfl
   refine pu_ 8 (some 79) #[T_,T_,T_,T_,T_,T_,T_,T_,T_,F_,F_,F_,F_] HT_.out rfl rfl ?_
   refine pu_ 9 (some 88) #[T_,T_,T_,T_,T_,T_,T_,T_,T_,T_,F_,F_,F_] HT_.out rfl rfl ?_
   refine pu_ 10 (some 89) #[T_,T_,T_,T_,T_,T_,T_,T_,T_,T_,T_,F_,F_] HT_.out rfl rfl ?_
   refine pu_ 11 (some 18) #[T_,T_,T_,T_,T_,T_,T_,T_,T_,T_,T_,T_,F_] HT_.out rfl rfl ?_
   refine pu_ 12 (some 19) #[T_,T_,T_,T_,T_,T_,T_,T_,T_,T_,T_,T_,T_] HT_.out rfl rfl ?_
   refine done_ (done_of HT_.out (by kernel_rfl)) ?_
   have p409 : 0 ≤ (x17_1 : Int) := od_
   have q409 : x17_1 < (t400.length : Int) := od_
   (try (obtain ⟨Ax409_, cx409_, ex409_⟩ := Kd.R_slice HO_14.out; subst ex409_))
   obtain ⟨ad409, e409, hx409_0, hx409_1⟩ := at_T96 (Kd.R_reads' HO_14.out).2.2 x17_1 p409 q409
   obtain rfl : ad404 = ad409 := (by injection e409)
   replace p409 := eq_true p409
   replace q409 := eq_true q409
   try go_wp2_with (first | ((with_reducible refine gate_builtin (b := .append) (xs := #[.tmp 92, .tmp 97]) rfl ?_); at_builtin; refine Kd.R_append k96 (w0 := w) w.heap.size rfl (.tmp 92) (.tmp 97) 44 96 (.agg #[(.string ⟨#[]⟩), (.string ⟨#[]⟩)]) 32 rfl Tryz.underlying44 info96 rfl (by decide) (by omega) u16 x16_1 (⟨(rd_T96 t400 x17_1).f0, (rd_T96 t400 x17_1).f1⟩ : S96) [.string ((rd_T96 t400 x17_1).f0), .string ((rd_T96 t400 x17_1).f1)] (fun k_ => some k_ ≠ (.slice (some ad404) t400.length co48 : Value).ownBlock) (fun _ => False) rfl rfl ?aP (fun _ hk => hk.elim) ?aF ?aO ?aB ?aS ?aL ?_; (case aP => exact k96_mkM _ _ _ (⟨(rd_T96 t400 x17_1).f0, (rd_T96 t400 x17_1).f1⟩ : S96)); (case aB => exact HB.out); (case aF => exact (fun k_ hk => Kd.fresh' (Kd.R_lt (rr_ HO_14.out)) k_ hk)); (case aO => exact (rr_ HO_16.out)); (case aS => exact (below_size HB.out)); (case aL => have := LMc47.out; omega); intro v411 w51 ho hb hg hat; rw [← Ny410.out] at ho; have n0_ := A_ (Kd.R_after (ok := (fun _ => True)) (by (with_reducible repeat (first | apply Kd.R_alloc | apply Kd.R_drewN | apply Kd.R_drew)); exact Kd.R_mono HO_14.out (fun _ hk => ⟨trivial, hk⟩)) hg hat); have n1_ := A_ (blk_grown (g := gb389) (o := .cells #[.int .i64 a0_0, .string a0_1, .string a0_2, .string a0_3, .string a0_4] 43 (0, 0)) (bk_ BK389.out) hg (Kd.R_ne HO_16.out BK389.out (by decide))); have n2_ := A_ (Kd.R_over' (rr_ HO408.out) (Kd.R_typed (rr_ HO_16.out)) (by decide) hg); have n3_ := A_ (hb); have n4_ := A_ (ho); clear HO_14; clear BK389; clear HO408; clear HB; clear HO_16; have HO_14 := n0_; have BK389 := n1_; have HO408 := n2_; have HB := n3_; have HO412 := n4_; clear n0_ n1_ n2_ n3_ n4_; clear ho hb hg hat))
   go_roundg k1
   case measure => have := HK1.out; omega
   case rel => exact ⟨(y410), (wrap64 (x17_1 + 1)), (by rfl), H', ⟨by have := HK1.out; omega⟩, ⟨by (with_reducible repeat (first | apply Kd.R_alloc | apply Kd.R_drewN | apply Kd.R_drew)); exact Kd.R_mono HO_14.out (fun _ hk => hk.2)⟩, ⟨rr_ HO412.out⟩, ⟨bk_ BK389.out⟩, ⟨HB.out⟩⟩
end Go.Proofs.YtcikjeiebpmmcaaGreat.PMch
