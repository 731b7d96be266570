/- Pruned. -/
import Derived.Test.YtcikjeiebpmmcaaGreatQyPMchx0
import Derived.Test.YtcikjeiebpmmcaaGreatQyPMchx1
import Derived.Test.YtcikjeiebpmmcaaGreatQyPMchx6
import Derived.Test.YtcikjeiebpmmcaaGreatQyPMchx8
import Derived.Test.YtcikjeiebpmmcaaGreatQyPMchx10
import Derived.Test.YtcikjeiebpmmcaaGreatQyPMchx13
import Derived.Test.YtcikjeiebpmmcaaGreatQyPMchx18
import Derived.Test.YtcikjeiebpmmcaaGreatQyPMchx19
import Derived.Test.YtcikjeiebpmmcaaGreatQyPMchx20
namespace Go.Proofs.YtcikjeiebpmmcaaGreat.PMch
open Go.RowKit Go.Proofs.YtcikjeiebpmmcaaGreatW.PrintWords Go.Proofs.YtcikjeiebpmmcaaGreatW.PrintLast Go.Proofs.YtcikjeiebpmmcaaGreatW.PrintMore
attribute [local go_sem] max2_int max_two
set_option linter.unusedVariables false
set_option linter.unusedSimpArgs false
attribute [local go_sem high] eqA43
def r29_Apply.l0 : Nat → List (S43) → ByteArray → Int → Option (ByteArray × Bool × Int)
 | 0, _, _, _ => none
 | k + 1, x0, x1, x10 => if x10 < (x0.length : Int) then (if 0 ≤ x10 then ((r29_Rule.f k ((rd_T43 x0 x10).f0) ((rd_T43 x0 x10).f1) ((rd_T43 x0 x10).f2) ((rd_T43 x0 x10).f3) ((rd_T43 x0 x10).f4) x1).bind fun bt422 => (if bt422.2.1 = true then (r29_Apply.l0 k x0 bt422.1 (wrap64 (x10 + 1))) else (some ((⟨#[]⟩ : ByteArray), false, bt422.2.2)))) else (none)) else (some (x1, true, 0))
def r29_Apply.f (k : Nat) (l0 : List (S43)) (a1 : ByteArray) : Option (ByteArray × Bool × Int) := (r29_May.f k l0).bind fun t415 => (if t415 = true then ((r03_Parse.f k a1).bind fun bt416 => (if bt416.2.2 = 0 then (r29_Apply.l0 k l0 a1 0) else (some ((⟨#[]⟩ : ByteArray), false, 5)))) else (some ((⟨#[]⟩ : ByteArray), false, 2)))
set_option maxHeartbeats 8000000 in
set_option maxRecDepth 100000 in
theorem r29_Apply.calls (k : Nat) (A0 : Option Addr) (c0 : Nat) (l0 : List (S43)) (a1 : ByteArray) (r1 : ByteArray) (r2 : Bool) (r3 : Int) (w : World) (hr0 : Kd.C k43 w A0 l0.length l0) (hc0 : l0.length ≤ c0) (h : r29_Apply.f k l0 a1 = some (r1, r2, r3)) :
 Calls Tryz.prog 20 #[.slice A0 l0.length c0, .string a1] w fun e w' => e = .returned (.tuple #[.string r1, .bool r2, .int .i64 r3]) ∧ Below w.heap.size w w' := by
 have hu43 := Tryz.underlying43
 have HR0 := A_ hr0
 have HC0 := A_ hc0
 clear hr0 hc0
 have HB := A_ (Below.refl w.heap.size w)
 have H : ((r29_May.f k l0).bind fun t415 => (if t415 = true then ((r03_Parse.f k a1).bind fun bt416 => (if bt416.2.2 = 0 then (r29_Apply.l0 k l0 a1 0) else (some ((⟨#[]⟩ : ByteArray), false, 5)))) else (some ((⟨#[]⟩ : ByteArray), false, 2)))) = some (r1, r2, r3) := h
 clear h
 replace H := Option.bind_eq_some_iff.mp H
 obtain ⟨t415, A30, H⟩ := H
 replace H : (if t415 = true then ((r03_Parse.f k a1).bind fun bt416 => (if bt416.2.2 = 0 then (r29_Apply.l0 k l0 a1 0) else (some ((⟨#[]⟩ : ByteArray), false, 5)))) else (some ((⟨#[]⟩ : ByteArray), false, 2))) = some (r1, r2, r3) := H
 have A3 := A_ A30
 clear A30
 by_cases c4 : t415 = true
 rotate_left
 ·replace c4 := Bool.eq_false_iff.mpr c4
  subst c4
  have H1 : (some ((⟨#[]⟩ : ByteArray), false, 2)) = some (r1, r2, r3) := by rw [if_neg (show ¬ (false = true) by decide)] at H; exact H
  clear H
  have H := H1
  clear H1
  simp only [Option.some.injEq, Prod.mk.injEq] at H
  obtain ⟨rfl, rfl, rfl⟩ := H
  go_enter Tryz.func20, Tryz.ntmps20
  go_wp2_with (first | ((with_reducible refine gate_callee (f := 18) rfl ?_); refine goesL_ (some 15) rfl rfl Tryz.func18 (by kernel_rfl) rfl #[.slice A0 l0.length c0] rfl mp_ ?_; (with_reducible refine (r29_May.calls k _ _ l0 false _ ?side1 ?side2 A3.out).mono ?_); (case side1 => repeat (exact HR0.out)); (case side2 => exact HC0.out); rintro e w17 ⟨rfl, hb⟩; refine ⟨_, rfl, ?_⟩; have n0_ := A_ (below_step HB.out hb); clear HB; have HB := n0_; clear n0_; (try clear hb); (try clear hb2); (try clear hk); (try clear hi)))
  go_ret3
  exact ⟨by rfl, HB.out⟩
 subst c4
 have H1 : ((r03_Parse.f k a1).bind fun bt416 => (if bt416.2.2 = 0 then (r29_Apply.l0 k l0 a1 0) else (some ((⟨#[]⟩ : ByteArray), false, 5)))) = some (r1, r2, r3) := by rw [if_pos rfl] at H; exact H
 clear H
 have H := H1
 clear H1
 replace H := Option.bind_eq_some_iff.mp H
 obtain ⟨⟨t416, t417, t418⟩, A50, H⟩ := H
 replace H : (if t418 = 0 then (r29_Apply.l0 k l0 a1 0) else (some ((⟨#[]⟩ : ByteArray), false, 5))) = some (r1, r2, r3) := H
 have A5 := A_ A50
 clear A50
 by_cases c6 : t418 = 0
 rotate_left
 ·rw [if_neg c6] at H
  have c6b0 : (t418 == 0) = false := beq_eq_false_iff_ne.mpr c6
  have c6b1 : (t418 != 0) = true := bne_iff_ne.mpr c6
  simp only [Option.some.injEq, Prod.mk.injEq] at H
  obtain ⟨rfl, rfl, rfl⟩ := H
  go_enter Tryz.func20, Tryz.ntmps20
  go_wp2_with (first | ((with_reducible refine gate_callee (f := 18) rfl ?_); refine goesL_ (some 15) rfl rfl Tryz.func18 (by kernel_rfl) rfl #[.slice A0 l0.length c0] rfl mp_ ?_; (with_reducible refine (r29_May.calls k _ _ l0 true _ ?side1 ?side2 A3.out).mono ?_); (case side1 => repeat (exact HR0.out)); (case side2 => exact HC0.out); rintro e w15 ⟨rfl, hb⟩; refine ⟨_, rfl, ?_⟩; have n0_ := A_ (below_step HB.out hb); clear HB; have HB := n0_; clear n0_; (try clear hb); (try clear hb2); (try clear hk); (try clear hi)) | ((with_reducible refine gate_callee (f := 23) rfl ?_); refine goesL_ (some 19) rfl rfl Tryz.func23 (by kernel_rfl) rfl #[.string a1] rfl mp_ ?_; (with_reducible refine (r03_Parse.calls k a1 t416 t417 t418 _ A5.out).mono ?_); rintro e w16 ⟨v419, rfl, ho0, hb⟩; refine ⟨_, rfl, ?_⟩; have n0_ := A_ (Kd.R_lower ho0 (below_size HB.out)); have n1_ := A_ (below_step HB.out hb); clear HB; have HO420 := n0_; have HB := n1_; clear n0_ n1_; (try clear hb); (try clear hb2); (try clear hk); (try clear hi); (try clear ho0)))
  go_ret3
  exact ⟨by rfl, HB.out⟩
 rw [if_pos c6] at H
 have c6b0 : (t418 == 0) = true := beq_iff_eq.mpr c6
 have c6b1 : (t418 != 0) = false := bne_eq_false_iff_eq.mpr c6
 clear c6
 have H' := A_ H
 clear H
 go_enter Tryz.func20, Tryz.ntmps20
 go_wp2_with (first | ((with_reducible refine gate_callee (f := 18) rfl ?_); refine goesL_ (some 15) rfl rfl Tryz.func18 (by kernel_rfl) rfl #[.slice A0 l0.length c0] rfl mp_ ?_; (with_reducible refine (r29_May.calls k _ _ l0 true _ ?side1 ?side2 A3.out).mono ?_); (case side1 => repeat (exact HR0.out)); (case side2 => exact HC0.out); rintro e w7 ⟨rfl, hb⟩; refine ⟨_, rfl, ?_⟩; have n0_ := A_ (below_step HB.out hb); clear HB; have HB := n0_; clear n0_; (try clear hb); (try clear hb2); (try clear hk); (try clear hi)) | ((with_reducible refine gate_callee (f := 23) rfl ?_); refine goesL_ (some 19) rfl rfl Tryz.func23 (by kernel_rfl) rfl #[.string a1] rfl mp_ ?_; (with_reducible refine (r03_Parse.calls k a1 t416 t417 t418 _ A5.out).mono ?_); rintro e w8 ⟨v419, rfl, ho0, hb⟩; refine ⟨_, rfl, ?_⟩; have n0_ := A_ (Kd.R_lower ho0 (below_size HB.out)); have n1_ := A_ (below_step HB.out hb); clear HB; have HO420 := n0_; have HB := n1_; clear n0_ n1_; (try clear hb); (try clear hb2); (try clear hk); (try clear hi); (try clear ho0)))
 go_loopg [1, 10] k (fun kq v1 v10 w' => ∃ (x1_1 : ByteArray) (x10_1 : Int), v1 = .string x1_1 ∧ v10 = .int .i64 x10_1 ∧ Aside0 (r29_Apply.l0 kq l0 x1_1 x10_1 = some (r1, r2, r3)) ∧ Aside0 (kq ≤ k) ∧ Aside0 (Below w.heap.size w w'))
 case atStart => exact ⟨(a1), (0), (by rfl), (by rfl), H', ⟨Nat.le_refl _⟩, ⟨HB.out⟩⟩
 case round =>
  clear H'
  try clear c1
  try clear c2
  try clear p2
  try clear c4
  try clear c6
  try clear c6b0
  try clear c6b1
  obtain ⟨x1_1, x10_1, rfl, rfl, HA, HK1, HB⟩ := hrel
  cases gk with
  | zero => exact absurd HA.out (by simp [r29_Apply.l0])
  | succ k1 =>
   have H := HA.out
   clear HA
   simp only [r29_Apply.l0] at H
   by_cases c9 : x10_1 < (l0.length : Int)
   rotate_left
   ·rw [if_neg c9] at H
    have c9b0 := decide_eq_false c9
    clear c9
    simp only [Option.some.injEq, Prod.mk.injEq] at H
    obtain ⟨rfl, rfl, rfl⟩ := H
    go_wp2
    go_ret3
    exact ⟨by rfl, HB.out⟩
   rw [if_pos c9] at H
   have c9b0 := decide_eq_true c9
   clear c9
   by_cases c10 : 0 ≤ x10_1
   rotate_left
   ·rw [if_neg c10] at H
    exact absurd H (by simp)
   rw [if_pos c10] at H
   have c10b0 := decide_eq_true c10
   clear c10
   replace H := Option.bind_eq_some_iff.mp H
   obtain ⟨⟨t422, t423, t424⟩, A110, H⟩ := H
   replace H : (if t423 = true then (r29_Apply.l0 k1 l0 t422 (wrap64 (x10_1 + 1))) else (some ((⟨#[]⟩ : ByteArray), false, t424))) = some (r1, r2, r3) := H
   have A11 := A_ A110
   clear A110
   by_cases c12 : t423 = true
   rotate_left
   ·replace c12 := Bool.eq_false_iff.mpr c12
    subst c12
    have H1 : (some ((⟨#[]⟩ : ByteArray), false, t424)) = some (r1, r2, r3) := by rw [if_neg (show ¬ (false = true) by decide)] at H; exact H
    clear H
    have H := H1
    clear H1
    simp only [Option.some.injEq, Prod.mk.injEq] at H
    obtain ⟨rfl, rfl, rfl⟩ := H
    have p421 : 0 ≤ (x10_1 : Int) := od_
    have q421 : x10_1 < (l0.length : Int) := od_
    obtain ⟨ad421, e421, hx421_0, hx421_1, hx421_2, hx421_3, hx421_4⟩ := at_T43 HR0.out x10_1 p421 q421
    cases e421
    replace hx421_0 := (HB.out.cell (World.block_lt_of_cell? w _ hx421_0)).trans hx421_0
    replace hx421_1 := (HB.out.cell (World.block_lt_of_cell? w _ hx421_1)).trans hx421_1
    replace hx421_2 := (HB.out.cell (World.block_lt_of_cell? w _ hx421_2)).trans hx421_2
    replace hx421_3 := (HB.out.cell (World.block_lt_of_cell? w _ hx421_3)).trans hx421_3
    replace hx421_4 := (HB.out.cell (World.block_lt_of_cell? w _ hx421_4)).trans hx421_4
    replace p421 := eq_true p421
    replace q421 := eq_true q421
    go_wp2_with (first | ((with_reducible refine gate_callee (f := 40) rfl ?_); refine goesL_ (some 37) rfl rfl Tryz.func40 (by kernel_rfl) rfl #[.agg #[.int .i64 ((rd_T43 l0 x10_1).f0), .string ((rd_T43 l0 x10_1).f1), .string ((rd_T43 l0 x10_1).f2), .string ((rd_T43 l0 x10_1).f3), .string ((rd_T43 l0 x10_1).f4)], .string x1_1] rfl mp_ ?_; (with_reducible refine (r29_Rule.calls k1 ((rd_T43 l0 x10_1).f0) ((rd_T43 l0 x10_1).f1) ((rd_T43 l0 x10_1).f2) ((rd_T43 l0 x10_1).f3) ((rd_T43 l0 x10_1).f4) x1_1 t422 false t424 _ A11.out).mono ?_); rintro e w14 ⟨rfl, hb⟩; refine ⟨_, rfl, ?_⟩; have n0_ := A_ (below_step HB.out hb); clear HB; have HB := n0_; clear n0_; (try clear hb); (try clear hb2); (try clear hk); (try clear hi)))
    go_ret3
    exact ⟨by rfl, HB.out⟩
   subst c12
   have H1 : (r29_Apply.l0 k1 l0 t422 (wrap64 (x10_1 + 1))) = some (r1, r2, r3) := by rw [if_pos rfl] at H; exact H
   clear H
   have H := H1
   clear H1
   have H' := A_ H
   clear H
   have p421 : 0 ≤ (x10_1 : Int) := od_
   have q421 : x10_1 < (l0.length : Int) := od_
   obtain ⟨ad421, e421, hx421_0, hx421_1, hx421_2, hx421_3, hx421_4⟩ := at_T43 HR0.out x10_1 p421 q421
   cases e421
   replace hx421_0 := (HB.out.cell (World.block_lt_of_cell? w _ hx421_0)).trans hx421_0
   replace hx421_1 := (HB.out.cell (World.block_lt_of_cell? w _ hx421_1)).trans hx421_1
   replace hx421_2 := (HB.out.cell (World.block_lt_of_cell? w _ hx421_2)).trans hx421_2
   replace hx421_3 := (HB.out.cell (World.block_lt_of_cell? w _ hx421_3)).trans hx421_3
   replace hx421_4 := (HB.out.cell (World.block_lt_of_cell? w _ hx421_4)).trans hx421_4
   replace p421 := eq_true p421
   replace q421 := eq_true q421
   go_wp2_with (first | ((with_reducible refine gate_callee (f := 40) rfl ?_); refine goesL_ (some 37) rfl rfl Tryz.func40 (by kernel_rfl) rfl #[.agg #[.int .i64 ((rd_T43 l0 x10_1).f0), .string ((rd_T43 l0 x10_1).f1), .string ((rd_T43 l0 x10_1).f2), .string ((rd_T43 l0 x10_1).f3), .string ((rd_T43 l0 x10_1).f4)], .string x1_1] rfl mp_ ?_; (with_reducible refine (r29_Rule.calls k1 ((rd_T43 l0 x10_1).f0) ((rd_T43 l0 x10_1).f1) ((rd_T43 l0 x10_1).f2) ((rd_T43 l0 x10_1).f3) ((rd_T43 l0 x10_1).f4) x1_1 t422 true t424 _ A11.out).mono ?_); rintro e w13 ⟨rfl, hb⟩; refine ⟨_, rfl, ?_⟩; have n0_ := A_ (below_step HB.out hb); clear HB; have HB := n0_; clear n0_; (try clear hb); (try clear hb2); (try clear hk); (try clear hi)))
   go_roundg k1
   case measure => have := HK1.out; omega
   case rel => exact ⟨(t422), (wrap64 (x10_1 + 1)), (by rfl), (by rfl), H', ⟨by have := HK1.out; omega⟩, ⟨HB.out⟩⟩
def relabel_Value.f (k : Nat) (a0 : ByteArray) (a1 : ByteArray) : Option ByteArray := (label_Parse.f k a0).bind fun p => if p.2.1.length ≤ 1099511627776 then some (valueF (fun x : S96 => x.f0) (fun x => x.f1) p.1 p.2.1 a1) else none
theorem relabel_Value.calls (k : Nat) (a0 : ByteArray) (a1 : ByteArray) (r : ByteArray) (w : World) (hSH : SH w) (h : relabel_Value.f k a0 a1 = some r) :
 Calls Tryz.prog 21 #[.string a0, .string a1] w fun e w' => e = .returned (.string r) ∧ Below w.heap.size w w' := by
 unfold relabel_Value.f at h
 obtain ⟨⟨m, ls, er⟩, hx, h⟩ := Option.bind_eq_some_iff.1 h
 split at h
 case isFalse => cases h
 case isTrue hl =>
  obtain rfl := Option.some.inj h
  exact values_calls k96 (fun x => x.f0) (fun x => x.f1) rfl k96_open a0 a1 m ls er w hl (label_Parse.calls k a0 m ls er w hSH hx)
mutual
def l29_RelabelApplies.j0 : Nat → List (S43) → ByteArray → ByteArray → Bool → Option (Bool)
 | 0, _, _, _, _ => none
 | k + 1, x0, x1, x2, x29 => if x29 = true then ((l29_known.f k).bind fun t426 => (some t426)) else (if ([] : List (S43)).length + x0.length < 1954687338268 then ((some (([] : List (S43)) ++ x0 : List (S43))).bind fun y427 => ((relabel_Apply.f k y427 x1).bind fun bt430 => ((r29_Apply.f k x0 x1).bind fun bt433 => (if bt430.1.toList = bt433.1.toList then (if (bt430.2.1 != bt433.2.1) = true then (l29_RelabelApplies.j1 k x0 y427 bt430.1 bt430.2.1 true) else (if bt430.2.2 = bt433.2.2 then ((relabel_Value.f k x1 x2).bind fun t436 => ((r29_Value.f k x1 x2).bind fun t437 => (l29_RelabelApplies.j1 k x0 y427 bt430.1 bt430.2.1 (t436.toList != t437.toList)))) else (l29_RelabelApplies.j1 k x0 y427 bt430.1 bt430.2.1 true))) else (l29_RelabelApplies.j1 k x0 y427 bt430.1 bt430.2.1 true))))) else (none))
def l29_RelabelApplies.j1 : Nat → List (S43) → List (S43) → ByteArray → Bool → Bool → Option (Bool)
 | 0, _, _, _, _, _ => none
 | k + 1, x0, x7, x8, x9, x68 => if x68 = true then (some false) else (l29_RelabelApplies.l0 k x0 x7 x8 x9 0)
def l29_RelabelApplies.l0 : Nat → List (S43) → List (S43) → ByteArray → Bool → Int → Option (Bool)
 | 0, _, _, _, _, _ => none
 | k + 1, x0, x7, x8, x9, x14 => if x14 < (x0.length : Int) then (if 0 ≤ x14 then (if x14 < (x7.length : Int) then (if (!(((rd_T43 x7 x14).f0) == ((rd_T43 x0 x14).f0)) || (!((((rd_T43 x7 x14).f1).toList) == (((rd_T43 x0 x14).f1).toList)) || (!((((rd_T43 x7 x14).f2).toList) == (((rd_T43 x0 x14).f2).toList)) || (!((((rd_T43 x7 x14).f3).toList) == (((rd_T43 x0 x14).f3).toList)) || (!((((rd_T43 x7 x14).f4).toList) == (((rd_T43 x0 x14).f4).toList))))))) = true then (some false) else (l29_RelabelApplies.l0 k x0 x7 x8 x9 (wrap64 (x14 + 1)))) else (none)) else (none)) else ((r03_Parse.f k x8).bind fun bt440 => (if (x9 == (bt440.2.2 == 0)) = true then ((l29_known.f k).bind fun t445 => (some t445)) else (some false)))
end
def l29_RelabelApplies.f (k : Nat) (l0 : List (S43)) (a1 : ByteArray) (a2 : ByteArray) : Option (Bool) := (r29_Much.f k l0).bind fun t425 => (if t425 = true then (l29_RelabelApplies.j0 k l0 a1 a2 true) else (if (a1.size : Int) > 2000 then (l29_RelabelApplies.j0 k l0 a1 a2 true) else (l29_RelabelApplies.j0 k l0 a1 a2 (decide ((a2.size : Int) > 300)))))
set_option maxHeartbeats 8000000 in
set_option maxRecDepth 100000 in
theorem l29_RelabelApplies.calls (k : Nat) (A0 : Option Addr) (c0 : Nat) (l0 : List (S43)) (a1 : ByteArray) (a2 : ByteArray) (r : Bool) (w : World) (hSH : SH w) (hr0 : Kd.C k43 w A0 l0.length l0) (hc0 : l0.length ≤ c0) (h : l29_RelabelApplies.f k l0 a1 a2 = some r) :
 Calls Tryz.prog 7 #[.slice A0 l0.length c0, .string a1, .string a2] w fun e w' => e = .returned (.bool r) ∧ Below w.heap.size w w' := by
 have hu43 := Tryz.underlying43
 have HR0 := A_ hr0
 have HC0 := A_ hc0
 clear hr0 hc0
 have HB := A_ (Below.refl w.heap.size w)
 have H : ((r29_Much.f k l0).bind fun t425 => (if t425 = true then (l29_RelabelApplies.j0 k l0 a1 a2 true) else (if (a1.size : Int) > 2000 then (l29_RelabelApplies.j0 k l0 a1 a2 true) else (l29_RelabelApplies.j0 k l0 a1 a2 (decide ((a2.size : Int) > 300)))))) = some r := h
 clear h
 have HC4 := A_ H
 clear H
 go_enter Tryz.func7, Tryz.ntmps7
 go_upto_region 1 with (fail)
 repeat (go_quiet (fail); go_upto_region 1 with (fail))
 go_cut [29] (fun v29 wc => ∃ (kq : Nat) (x29_3 : Bool), v29 = .bool x29_3 ∧ Aside0 (l29_RelabelApplies.j0 kq l0 a1 a2 x29_3 = some r) ∧ Aside0 (kq ≤ k) ∧ Aside0 (Below w.heap.size w wc))
 case first =>
  have H := HC4.out
  clear HC4
  replace H := Option.bind_eq_some_iff.mp H
  obtain ⟨t425, A50, H⟩ := H
  replace H : (if t425 = true then (l29_RelabelApplies.j0 k l0 a1 a2 true) else (if (a1.size : Int) > 2000 then (l29_RelabelApplies.j0 k l0 a1 a2 true) else (l29_RelabelApplies.j0 k l0 a1 a2 (decide ((a2.size : Int) > 300))))) = some r := H
  have A5 := A_ A50
  clear A50
  by_cases c6 : t425 = true
  ·subst c6
   have H1 : (l29_RelabelApplies.j0 k l0 a1 a2 true) = some r := by rw [if_pos rfl] at H; exact H
   clear H
   have H := H1
   clear H1
   have H' := A_ H
   clear H
   go_wp2_with (first | (go_at_call 16; (with_reducible refine (r29_Much.calls k _ _ l0 true _ ?side1 ?side2 A5.out).mono ?_); (case side1 => repeat (exact (Kd.C_below HR0.out HB.out))); (case side2 => exact HC0.out); rintro e w' ⟨rfl, ⟨nd, rfl⟩⟩; (try first | exact ⟨rfl, _, World.drewN_drewN _ _ _⟩ | exact ⟨rfl, _, Eq.trans (World.drewN_drewN _ _ _) (congrArg (World.drewN _) (Nat.add_assoc _ _ _))⟩)))
   repeat (go_quiet (first | (go_at_call 16; (with_reducible refine (r29_Much.calls k _ _ l0 true _ ?side1 ?side2 A5.out).mono ?_); (case side1 => repeat (first | exact (Kd.C_below HR0.out HB.out) | (with_reducible refine Kd.C_alloc ?_ _) | (with_reducible refine Kd.C_drewN ?_ _) | (with_reducible refine Kd.C_drew ?_))); (case side2 => exact HC0.out); rintro e w' ⟨rfl, ⟨nd, rfl⟩⟩; (try first | exact ⟨rfl, _, World.drewN_drewN _ _ _⟩ | exact ⟨rfl, _, Eq.trans (World.drewN_drewN _ _ _) (congrArg (World.drewN _) (Nat.add_assoc _ _ _))⟩))); try go_wp2_with (first | (go_at_call 16; (with_reducible refine (r29_Much.calls k _ _ l0 true _ ?side1 ?side2 A5.out).mono ?_); (case side1 => repeat (first | exact (Kd.C_below HR0.out HB.out) | (with_reducible refine Kd.C_alloc ?_ _) | (with_reducible refine Kd.C_drewN ?_ _) | (with_reducible refine Kd.C_drew ?_))); (case side2 => exact HC0.out); rintro e w' ⟨rfl, ⟨nd, rfl⟩⟩; (try first | exact ⟨rfl, _, World.drewN_drewN _ _ _⟩ | exact ⟨rfl, _, Eq.trans (World.drewN_drewN _ _ _) (congrArg (World.drewN _) (Nat.add_assoc _ _ _))⟩))))
   go_meet
   case rel => exact ⟨_, (true), (by rfl), H', ⟨by omega⟩, ⟨by repeat ((with_reducible first | exact HB.out | apply pw_below_drewN))⟩⟩
  replace c6 := Bool.eq_false_iff.mpr c6
  subst c6
  have H1 : (if (a1.size : Int) > 2000 then (l29_RelabelApplies.j0 k l0 a1 a2 true) else (l29_RelabelApplies.j0 k l0 a1 a2 (decide ((a2.size : Int) > 300)))) = some r := by rw [if_neg (show ¬ (false = true) by decide)] at H; exact H
  clear H
  have H := H1
  clear H1
  by_cases c7 : (a1.size : Int) > 2000
  rotate_left
  ·rw [if_neg c7] at H
   have c7b0 := decide_eq_false c7
   have c7b1 : decide (2000 < a1.size) = false := decide_eq_false (by omega)
   clear c7
   (skip)
   have H' := A_ H
   clear H
   go_wp2_with (first | (go_at_call 16; (with_reducible refine (r29_Much.calls k _ _ l0 false _ ?side1 ?side2 A5.out).mono ?_); (case side1 => repeat (exact (Kd.C_below HR0.out HB.out))); (case side2 => exact HC0.out); rintro e w' ⟨rfl, ⟨nd, rfl⟩⟩; (try first | exact ⟨rfl, _, World.drewN_drewN _ _ _⟩ | exact ⟨rfl, _, Eq.trans (World.drewN_drewN _ _ _) (congrArg (World.drewN _) (Nat.add_assoc _ _ _))⟩)))
   repeat (go_quiet (first | (go_at_call 16; (with_reducible refine (r29_Much.calls k _ _ l0 false _ ?side1 ?side2 A5.out).mono ?_); (case side1 => repeat (first | exact (Kd.C_below HR0.out HB.out) | (with_reducible refine Kd.C_alloc ?_ _) | (with_reducible refine Kd.C_drewN ?_ _) | (with_reducible refine Kd.C_drew ?_))); (case side2 => exact HC0.out); rintro e w' ⟨rfl, ⟨nd, rfl⟩⟩; (try first | exact ⟨rfl, _, World.drewN_drewN _ _ _⟩ | exact ⟨rfl, _, Eq.trans (World.drewN_drewN _ _ _) (congrArg (World.drewN _) (Nat.add_assoc _ _ _))⟩))); try go_wp2_with (first | (go_at_call 16; (with_reducible refine (r29_Much.calls k _ _ l0 false _ ?side1 ?side2 A5.out).mono ?_); (case side1 => repeat (first | exact (Kd.C_below HR0.out HB.out) | (with_reducible refine Kd.C_alloc ?_ _) | (with_reducible refine Kd.C_drewN ?_ _) | (with_reducible refine Kd.C_drew ?_))); (case side2 => exact HC0.out); rintro e w' ⟨rfl, ⟨nd, rfl⟩⟩; (try first | exact ⟨rfl, _, World.drewN_drewN _ _ _⟩ | exact ⟨rfl, _, Eq.trans (World.drewN_drewN _ _ _) (congrArg (World.drewN _) (Nat.add_assoc _ _ _))⟩))))
   go_meet
   case rel => exact ⟨_, (decide ((a2.size : Int) > 300)), (by rfl), H', ⟨by omega⟩, ⟨by repeat ((with_reducible first | exact HB.out | apply pw_below_drewN))⟩⟩
  rw [if_pos c7] at H
  have c7b0 := decide_eq_true c7
  have c7b1 : decide (2000 < a1.size) = true := decide_eq_true (by omega)
  clear c7
  (skip)
  have H' := A_ H
  clear H
  go_wp2_with (first | (go_at_call 16; (with_reducible refine (r29_Much.calls k _ _ l0 false _ ?side1 ?side2 A5.out).mono ?_); (case side1 => repeat (exact (Kd.C_below HR0.out HB.out))); (case side2 => exact HC0.out); rintro e w' ⟨rfl, ⟨nd, rfl⟩⟩; (try first | exact ⟨rfl, _, World.drewN_drewN _ _ _⟩ | exact ⟨rfl, _, Eq.trans (World.drewN_drewN _ _ _) (congrArg (World.drewN _) (Nat.add_assoc _ _ _))⟩)))
  repeat (go_quiet (first | (go_at_call 16; (with_reducible refine (r29_Much.calls k _ _ l0 false _ ?side1 ?side2 A5.out).mono ?_); (case side1 => repeat (first | exact (Kd.C_below HR0.out HB.out) | (with_reducible refine Kd.C_alloc ?_ _) | (with_reducible refine Kd.C_drewN ?_ _) | (with_reducible refine Kd.C_drew ?_))); (case side2 => exact HC0.out); rintro e w' ⟨rfl, ⟨nd, rfl⟩⟩; (try first | exact ⟨rfl, _, World.drewN_drewN _ _ _⟩ | exact ⟨rfl, _, Eq.trans (World.drewN_drewN _ _ _) (congrArg (World.drewN _) (Nat.add_assoc _ _ _))⟩))); try go_wp2_with (first | (go_at_call 16; (with_reducible refine (r29_Much.calls k _ _ l0 false _ ?side1 ?side2 A5.out).mono ?_); (case side1 => repeat (first | exact (Kd.C_below HR0.out HB.out) | (with_reducible refine Kd.C_alloc ?_ _) | (with_reducible refine Kd.C_drewN ?_ _) | (with_reducible refine Kd.C_drew ?_))); (case side2 => exact HC0.out); rintro e w' ⟨rfl, ⟨nd, rfl⟩⟩; (try first | exact ⟨rfl, _, World.drewN_drewN _ _ _⟩ | exact ⟨rfl, _, Eq.trans (World.drewN_drewN _ _ _) (congrArg (World.drewN _) (Nat.add_assoc _ _ _))⟩))))
  go_meet
  case rel => exact ⟨_, (true), (by rfl), H', ⟨by omega⟩, ⟨by repeat ((with_reducible first | exact HB.out | apply pw_below_drewN))⟩⟩
 case rest =>
  clear HC4
  try clear p2
  try clear c6
  try clear c7
  try clear c7b0
  try clear c7b1
  obtain ⟨kq, x29_3, rfl, HA, HJ3, HB⟩ := hcut
  cases kq with
  | zero => exact absurd HA.out (by simp [l29_RelabelApplies.j0])
  | succ kj3 =>
   have H := HA.out
   clear HA
   simp only [l29_RelabelApplies.j0] at H
   by_cases c8 : x29_3 = true
   ·subst c8
    have H1 : ((l29_known.f kj3).bind fun t426 => (some t426)) = some r := by rw [if_pos rfl] at H; exact H
    clear H
    have H := H1
    clear H1
    replace H := Option.bind_eq_some_iff.mp H
    obtain ⟨t426, A90, H⟩ := H
    replace H : (some t426) = some r := H
    have A9 := A_ A90
    clear A90
    obtain rfl := Option.some.inj H
    go_wp2_with (first | (go_at_call 10; (with_reducible refine (l29_known.calls kj3  t426 _ ?side1 A9.out).mono ?_); (case side1 => exact SH.below hSH HB.out); rintro e w10 ⟨rfl, hb⟩; have n0_ := A_ (below_step HB.out hb); clear HB; have HB := n0_; clear n0_; (try clear hb); (try clear hb2); (try clear hk); (try clear hi)))
    repeat (go_quiet (first | (go_at_call 10; (with_reducible refine (l29_known.calls kj3  t426 _ ?side1 A9.out).mono ?_); (case side1 => exact SH.below hSH (bw_ HB.out)); rintro e w10 ⟨rfl, hb⟩; have n0_ := A_ (below_step (bw_ HB.out) hb); clear HB; have HB := n0_; clear n0_; (try clear hb); (try clear hb2); (try clear hk); (try clear hi))); try go_wp2_with (first | (go_at_call 10; (with_reducible refine (l29_known.calls kj3  t426 _ ?side1 A9.out).mono ?_); (case side1 => exact SH.below hSH (bw_ HB.out)); rintro e w10 ⟨rfl, hb⟩; have n0_ := A_ (below_step (bw_ HB.out) hb); clear HB; have HB := n0_; clear n0_; (try clear hb); (try clear hb2); (try clear hk); (try clear hi))))
    go_ret
    exact ⟨by rfl, HB.out⟩
   replace c8 := Bool.eq_false_iff.mpr c8
   subst c8
   have H1 : (if ([] : List (S43)).length + l0.length < 1954687338268 then ((some (([] : List (S43)) ++ l0 : List (S43))).bind fun y427 => ((relabel_Apply.f kj3 y427 a1).bind fun bt430 => ((r29_Apply.f kj3 l0 a1).bind fun bt433 => (if bt430.1.toList = bt433.1.toList then (if (bt430.2.1 != bt433.2.1) = true then (l29_RelabelApplies.j1 kj3 l0 y427 bt430.1 bt430.2.1 true) else (if bt430.2.2 = bt433.2.2 then ((relabel_Value.f kj3 a1 a2).bind fun t436 => ((r29_Value.f kj3 a1 a2).bind fun t437 => (l29_RelabelApplies.j1 kj3 l0 y427 bt430.1 bt430.2.1 (t436.toList != t437.toList)))) else (l29_RelabelApplies.j1 kj3 l0 y427 bt430.1 bt430.2.1 true))) else (l29_RelabelApplies.j1 kj3 l0 y427 bt430.1 bt430.2.1 true))))) else (none)) = some r := by rw [if_neg (show ¬ (false = true) by decide)] at H; exact H
   clear H
   have H := H1
   clear H1
   by_cases c11 : ([] : List (S43)).length + l0.length < 1954687338268
   rotate_left
   ·rw [if_neg c11] at H
    exact absurd H (by simp)
   rw [if_pos c11] at H
   have LMc11 := A_ c11
   clear c11
   obtain ⟨y427, hy427⟩ : ∃ y_ : List (S43), y_ = (([] : List (S43)) ++ l0) := ⟨_, rfl⟩
   replace H : ((relabel_Apply.f kj3 y427 a1).bind fun bt430 => ((r29_Apply.f kj3 l0 a1).bind fun bt433 => (if bt430.1.toList = bt433.1.toList then (if (bt430.2.1 != bt433.2.1) = true then (l29_RelabelApplies.j1 kj3 l0 y427 bt430.1 bt430.2.1 true) else (if bt430.2.2 = bt433.2.2 then ((relabel_Value.f kj3 a1 a2).bind fun t436 => ((r29_Value.f kj3 a1 a2).bind fun t437 => (l29_RelabelApplies.j1 kj3 l0 y427 bt430.1 bt430.2.1 (t436.toList != t437.toList)))) else (l29_RelabelApplies.j1 kj3 l0 y427 bt430.1 bt430.2.1 true))) else (l29_RelabelApplies.j1 kj3 l0 y427 bt430.1 bt430.2.1 true)))) = some r := by (have H2_ := (Option.bind_some _ _).symm.trans H; rw [hy427]; with_reducible exact H2_)
   have Ny427 := A_ hy427
   clear hy427
   replace H := Option.bind_eq_some_iff.mp H
   obtain ⟨⟨t430, t431, t432⟩, A120, H⟩ := H
   replace H : ((r29_Apply.f kj3 l0 a1).bind fun bt433 => (if t430.toList = bt433.1.toList then (if (t431 != bt433.2.1) = true then (l29_RelabelApplies.j1 kj3 l0 y427 t430 t431 true) else (if t432 = bt433.2.2 then ((relabel_Value.f kj3 a1 a2).bind fun t436 => ((r29_Value.f kj3 a1 a2).bind fun t437 => (l29_RelabelApplies.j1 kj3 l0 y427 t430 t431 (t436.toList != t437.toList)))) else (l29_RelabelApplies.j1 kj3 l0 y427 t430 t431 true))) else (l29_RelabelApplies.j1 kj3 l0 y427 t430 t431 true))) = some r := H
   have A12 := A_ A120
   clear A120
   replace H := Option.bind_eq_some_iff.mp H
   obtain ⟨⟨t433, t434, t435⟩, A130, H⟩ := H
   replace H : (if t430.toList = t433.toList then (if (t431 != t434) = true then (l29_RelabelApplies.j1 kj3 l0 y427 t430 t431 true) else (if t432 = t435 then ((relabel_Value.f kj3 a1 a2).bind fun t436 => ((r29_Value.f kj3 a1 a2).bind fun t437 => (l29_RelabelApplies.j1 kj3 l0 y427 t430 t431 (t436.toList != t437.toList)))) else (l29_RelabelApplies.j1 kj3 l0 y427 t430 t431 true))) else (l29_RelabelApplies.j1 kj3 l0 y427 t430 t431 true)) = some r := H
   have A13 := A_ A130
   clear A130
   have HC14 := A_ H
   clear H
   go_upto_region 6 with (first | ((with_reducible refine gate_builtin (b := .append) (xs := #[.const (.slice none 0 0), .tmp 31]) rfl ?_); (try (refine gate_guard (by rfl) ?_; dsimp only)); at_builtin; refine Kd.R_append_rows k43 (w0 := w) w.heap.size rfl (.const (.slice none 0 0)) (.tmp 31) 31 43 (.agg #[(.int .i64 0), (.string ⟨#[]⟩), (.string ⟨#[]⟩), (.string ⟨#[]⟩), (.string ⟨#[]⟩)]) 72 rfl Tryz.underlying31 info43 rfl (by decide) (by omega) (.slice none 0 0) ([] : List (S43)) l0 _ _ _ (fun _ => True) (fun _ => False) rfl rfl ?aO ?aR (fun _ _ h => h) (fun _ h => h.elim) ?aF ?aB ?aS ?aL ?_; (case aR => repeat (exact (Kd.C_below HR0.out HB.out))); (case aB => exact HB.out); (case aF => exact (fun _ _ => trivial)); (case aO => exact ((Kd.R_nil _ _ _ _ (fun _ => True)))); (case aS => exact (below_size HB.out)); (case aL => have := LMc11.out; omega); intro v428 w15 ho hb hg hat; rw [← Ny427.out] at ho; have n0_ := A_ (hb); have n1_ := A_ (ho); clear HB; have HB := n0_; have HO429 := n1_; clear n0_ n1_; clear ho hb hg hat; obtain ⟨Ao16, co16, eo16⟩ := Kd.R_slice HO429.out; subst eo16) | (go_at_call 19; (with_reducible refine (relabel_Apply.calls kj3 _ _ y427 a1 t430 t431 t432 _ ?side3 ?side1 ?side2 A12.out).mono ?_); (case side1 => repeat (exact (Kd.R_reads' HO429.out).2.2)); (case side2 => exact (Kd.R_reads' HO429.out).2.1); (case side3 => exact SH.below hSH HB.out); rintro e w17 ⟨rfl, hb⟩; have n0_ := A_ (Kd.R_below (rr_ HO429.out) hb); have n1_ := A_ (below_step HB.out hb); clear HO429; clear HB; have HO429 := n0_; have HB := n1_; clear n0_ n1_; (try clear hb); (try clear hb2); (try clear hk); (try clear hi)) | (go_at_call 20; (with_reducible refine (r29_Apply.calls kj3 _ _ l0 a1 t433 t434 t435 _ ?side1 ?side2 A13.out).mono ?_); (case side1 => repeat (exact (Kd.C_below HR0.out HB.out))); (case side2 => exact HC0.out); rintro e w18 ⟨rfl, hb⟩; have n0_ := A_ (Kd.R_below (rr_ HO429.out) hb); have n1_ := A_ (below_step HB.out hb); clear HO429; clear HB; have HO429 := n0_; have HB := n1_; clear n0_ n1_; (try clear hb); (try clear hb2); (try clear hk); (try clear hi)))
   repeat (go_quiet (first | ((with_reducible refine gate_builtin (b := .append) (xs := #[.const (.slice none 0 0), .tmp 31]) rfl ?_); (try (refine gate_guard (by rfl) ?_; dsimp only)); at_builtin; refine Kd.R_append_rows k43 (w0 := w) w.heap.size rfl (.const (.slice none 0 0)) (.tmp 31) 31 43 (.agg #[(.int .i64 0), (.string ⟨#[]⟩), (.string ⟨#[]⟩), (.string ⟨#[]⟩), (.string ⟨#[]⟩)]) 72 rfl Tryz.underlying31 info43 rfl (by decide) (by omega) (.slice none 0 0) ([] : List (S43)) l0 _ _ _ (fun _ => True) (fun _ => False) rfl rfl ?aO ?aR (fun _ _ h => h) (fun _ h => h.elim) ?aF ?aB ?aS ?aL ?_; (case aR => repeat (first | exact (Kd.C_below HR0.out HB.out) | (with_reducible refine Kd.C_alloc ?_ _) | (with_reducible refine Kd.C_drewN ?_ _) | (with_reducible refine Kd.C_drew ?_))); (case aB => exact (bw_ HB.out)); (case aF => exact (fun _ _ => trivial)); (case aO => exact ((Kd.R_nil _ _ _ _ (fun _ => True)))); (case aS => exact (below_size (bw_ HB.out))); (case aL => have := LMc11.out; omega); intro v428 w15 ho hb hg hat; rw [← Ny427.out] at ho; have n0_ := A_ (hb); have n1_ := A_ (ho); clear HB; have HB := n0_; have HO429 := n1_; clear n0_ n1_; clear ho hb hg hat; obtain ⟨Ao16, co16, eo16⟩ := Kd.R_slice HO429.out; subst eo16) | (go_at_call 19; (with_reducible refine (relabel_Apply.calls kj3 _ _ y427 a1 t430 t431 t432 _ ?side3 ?side1 ?side2 A12.out).mono ?_); (case side1 => repeat (first | exact (Kd.R_reads' HO429.out).2.2 | (with_reducible refine Kd.C_alloc ?_ _) | (with_reducible refine Kd.C_drewN ?_ _) | (with_reducible refine Kd.C_drew ?_))); (case side2 => exact (Kd.R_reads' HO429.out).2.1); (case side3 => exact SH.below hSH (bw_ HB.out)); rintro e w17 ⟨rfl, hb⟩; have n0_ := A_ (Kd.R_below (rr_ HO429.out) hb); have n1_ := A_ (below_step (bw_ HB.out) hb); clear HO429; clear HB; have HO429 := n0_; have HB := n1_; clear n0_ n1_; (try clear hb); (try clear hb2); (try clear hk); (try clear hi)) | (go_at_call 20; (with_reducible refine (r29_Apply.calls kj3 _ _ l0 a1 t433 t434 t435 _ ?side1 ?side2 A13.out).mono ?_); (case side1 => repeat (first | exact (Kd.C_below HR0.out HB.out) | (with_reducible refine Kd.C_alloc ?_ _) | (with_reducible refine Kd.C_drewN ?_ _) | (with_reducible refine Kd.C_drew ?_))); (case side2 => exact HC0.out); rintro e w18 ⟨rfl, hb⟩; have n0_ := A_ (Kd.R_below (rr_ HO429.out) hb); have n1_ := A_ (below_step (bw_ HB.out) hb); clear HO429; clear HB; have HO429 := n0_; have HB := n1_; clear n0_ n1_; (try clear hb); (try clear hb2); (try clear hk); (try clear hi))); go_upto_region 6 with (first | ((with_reducible refine gate_builtin (b := .append) (xs := #[.const (.slice none 0 0), .tmp 31]) rfl ?_); (try (refine gate_guard (by rfl) ?_; dsimp only)); at_builtin; refine Kd.R_append_rows k43 (w0 := w) w.heap.size rfl (.const (.slice none 0 0)) (.tmp 31) 31 43 (.agg #[(.int .i64 0), (.string ⟨#[]⟩), (.string ⟨#[]⟩), (.string ⟨#[]⟩), (.string ⟨#[]⟩)]) 72 rfl Tryz.underlying31 info43 rfl (by decide) (by omega) (.slice none 0 0) ([] : List (S43)) l0 _ _ _ (fun _ => True) (fun _ => False) rfl rfl ?aO ?aR (fun _ _ h => h) (fun _ h => h.elim) ?aF ?aB ?aS ?aL ?_; (case aR => repeat (first | exact (Kd.C_below HR0.out HB.out) | (with_reducible refine Kd.C_alloc ?_ _) | (with_reducible refine Kd.C_drewN ?_ _) | (with_reducible refine Kd.C_drew ?_))); (case aB => exact (bw_ HB.out)); (case aF => exact (fun _ _ => trivial)); (case aO => exact ((Kd.R_nil _ _ _ _ (fun _ => True)))); (case aS => exact (below_size (bw_ HB.out))); (case aL => have := LMc11.out; omega); intro v428 w15 ho hb hg hat; rw [← Ny427.out] at ho; have n0_ := A_ (hb); have n1_ := A_ (ho); clear HB; have HB := n0_; have HO429 := n1_; clear n0_ n1_; clear ho hb hg hat; obtain ⟨Ao16, co16, eo16⟩ := Kd.R_slice HO429.out; subst eo16) | (go_at_call 19; (with_reducible refine (relabel_Apply.calls kj3 _ _ y427 a1 t430 t431 t432 _ ?side3 ?side1 ?side2 A12.out).mono ?_); (case side1 => repeat (first | exact (Kd.R_reads' HO429.out).2.2 | (with_reducible refine Kd.C_alloc ?_ _) | (with_reducible refine Kd.C_drewN ?_ _) | (with_reducible refine Kd.C_drew ?_))); (case side2 => exact (Kd.R_reads' HO429.out).2.1); (case side3 => exact SH.below hSH (bw_ HB.out)); rintro e w17 ⟨rfl, hb⟩; have n0_ := A_ (Kd.R_below (rr_ HO429.out) hb); have n1_ := A_ (below_step (bw_ HB.out) hb); clear HO429; clear HB; have HO429 := n0_; have HB := n1_; clear n0_ n1_; (try clear hb); (try clear hb2); (try clear hk); (try clear hi)) | (go_at_call 20; (with_reducible refine (r29_Apply.calls kj3 _ _ l0 a1 t433 t434 t435 _ ?side1 ?side2 A13.out).mono ?_); (case side1 => repeat (first | exact (Kd.C_below HR0.out HB.out) | (with_reducible refine Kd.C_alloc ?_ _) | (with_reducible refine Kd.C_drewN ?_ _) | (with_reducible refine Kd.C_drew ?_))); (case side2 => exact HC0.out); rintro e w18 ⟨rfl, hb⟩; have n0_ := A_ (Kd.R_below (rr_ HO429.out) hb); have n1_ := A_ (below_step (bw_ HB.out) hb); clear HO429; clear HB; have HO429 := n0_; have HB := n1_; clear n0_ n1_; (try clear hb); (try clear hb2); (try clear hk); (try clear hi))))
   (try simp only [Act.put,s1_,s2_,s3_])
   go_cut [68] (fun v68 wc => ∃ (kq : Nat) (x68_13 : Bool), v68 = .bool x68_13 ∧ Aside0 (l29_RelabelApplies.j1 kq l0 y427 t430 t431 x68_13 = some r) ∧ Aside0 (kq ≤ kj3) ∧ Aside0 (Kd.R k43 43 wc w.heap.size (fun _ => True) (.slice Ao16 y427.length co16) y427) ∧ Aside0 (Below w.heap.size w wc))
   case first =>
    have H := HC14.out
    clear HC14
    by_cases c19 : t430.toList = t433.toList
    rotate_left
    ·rw [if_neg c19] at H
     have c19b0 : (t430.toList == t433.toList) = false := beq_eq_false_iff_ne.mpr c19
     have c19b1 : (t430.toList != t433.toList) = true := bne_iff_ne.mpr c19
     (skip)
     have H' := A_ H
     clear H
     go_wp2
     repeat (go_quiet (fail); try go_wp2)
     go_meet
     case rel => exact ⟨_, (true), (by rfl), H', ⟨by have := HJ3.out; omega⟩, ⟨rr_ HO429.out⟩, ⟨HB.out⟩⟩
    rw [if_pos c19] at H
    have c19b0 : (t430.toList == t433.toList) = true := beq_iff_eq.mpr c19
    have c19b1 : (t430.toList != t433.toList) = false := bne_eq_false_iff_eq.mpr c19
    clear c19
    (skip)
    by_cases c20 : (t431 != t434) = true
    ·rw [if_pos c20] at H
     have c20b0 : (t431 != t434) = true := c20
     (try (have c20b1 : decide (t431 = t434) = false := by simpa using c20))
     (try (have c20b2 : (t431 == t434) = false := by simpa using c20))
     (try (have c20b3 : ¬ (t431 = t434) := by simpa using c20))
     clear c20
     have H' := A_ H
     clear H
     go_wp2
     repeat (go_quiet (fail); try go_wp2)
     go_meet
     case rel => exact ⟨_, (true), (by rfl), H', ⟨by have := HJ3.out; omega⟩, ⟨rr_ HO429.out⟩, ⟨HB.out⟩⟩
    rw [if_neg c20] at H
    have c20b0 : (t431 != t434) = false := by simpa using c20
    (try (have c20b1 : decide (t431 = t434) = true := by simpa using c20))
    (try (have c20b2 : (t431 == t434) = true := by simpa using c20))
    clear c20
    by_cases c21 : t432 = t435
    rotate_left
    ·rw [if_neg c21] at H
     have c21b0 : (t432 == t435) = false := beq_eq_false_iff_ne.mpr c21
     have c21b1 : (t432 != t435) = true := bne_iff_ne.mpr c21
     have H' := A_ H
     clear H
     go_wp2
     repeat (go_quiet (fail); try go_wp2)
     go_meet
     case rel => exact ⟨_, (true), (by rfl), H', ⟨by have := HJ3.out; omega⟩, ⟨rr_ HO429.out⟩, ⟨HB.out⟩⟩
    rw [if_pos c21] at H
    have c21b0 : (t432 == t435) = true := beq_iff_eq.mpr c21
    have c21b1 : (t432 != t435) = false := bne_eq_false_iff_eq.mpr c21
    clear c21
    replace H := Option.bind_eq_some_iff.mp H
    obtain ⟨t436, A220, H⟩ := H
    replace H : ((r29_Value.f kj3 a1 a2).bind fun t437 => (l29_RelabelApplies.j1 kj3 l0 y427 t430 t431 (t436.toList != t437.toList))) = some r := H
    have A22 := A_ A220
    clear A220
    replace H := Option.bind_eq_some_iff.mp H
    obtain ⟨t437, A230, H⟩ := H
    replace H : (l29_RelabelApplies.j1 kj3 l0 y427 t430 t431 (t436.toList != t437.toList)) = some r := H
    have A23 := A_ A230
    clear A230
    have H' := A_ H
    clear H
    go_wp2_with (first | (go_at_call 21; (with_reducible refine (relabel_Value.calls kj3 a1 a2 t436 _ ?side1 A22.out).mono ?_); (case side1 => exact SH.below hSH HB.out); rintro e w24 ⟨rfl, hb⟩; have n0_ := A_ (Kd.R_below (rr_ HO429.out) hb); have n1_ := A_ (below_step HB.out hb); clear HO429; clear HB; have HO429 := n0_; have HB := n1_; clear n0_ n1_; (try clear hb); (try clear hb2); (try clear hk); (try clear hi)) | (go_at_call 22; (with_reducible refine (r29_Value.calls kj3 a1 a2 t437 _ A23.out).mono ?_); rintro e w25 ⟨rfl, hb⟩; have n0_ := A_ (Kd.R_below (rr_ HO429.out) hb); have n1_ := A_ (below_step HB.out hb); clear HO429; clear HB; have HO429 := n0_; have HB := n1_; clear n0_ n1_; (try clear hb); (try clear hb2); (try clear hk); (try clear hi)))
    repeat (go_quiet (first | (go_at_call 21; (with_reducible refine (relabel_Value.calls kj3 a1 a2 t436 _ ?side1 A22.out).mono ?_); (case side1 => exact SH.below hSH (bw_ HB.out)); rintro e w24 ⟨rfl, hb⟩; have n0_ := A_ (Kd.R_below (rr_ HO429.out) hb); have n1_ := A_ (below_step (bw_ HB.out) hb); clear HO429; clear HB; have HO429 := n0_; have HB := n1_; clear n0_ n1_; (try clear hb); (try clear hb2); (try clear hk); (try clear hi)) | (go_at_call 22; (with_reducible refine (r29_Value.calls kj3 a1 a2 t437 _ A23.out).mono ?_); rintro e w25 ⟨rfl, hb⟩; have n0_ := A_ (Kd.R_below (rr_ HO429.out) hb); have n1_ := A_ (below_step (bw_ HB.out) hb); clear HO429; clear HB; have HO429 := n0_; have HB := n1_; clear n0_ n1_; (try clear hb); (try clear hb2); (try clear hk); (try clear hi))); try go_wp2_with (first | (go_at_call 21; (with_reducible refine (relabel_Value.calls kj3 a1 a2 t436 _ ?side1 A22.out).mono ?_); (case side1 => exact SH.below hSH (bw_ HB.out)); rintro e w24 ⟨rfl, hb⟩; have n0_ := A_ (Kd.R_below (rr_ HO429.out) hb); have n1_ := A_ (below_step (bw_ HB.out) hb); clear HO429; clear HB; have HO429 := n0_; have HB := n1_; clear n0_ n1_; (try clear hb); (try clear hb2); (try clear hk); (try clear hi)) | (go_at_call 22; (with_reducible refine (r29_Value.calls kj3 a1 a2 t437 _ A23.out).mono ?_); rintro e w25 ⟨rfl, hb⟩; have n0_ := A_ (Kd.R_below (rr_ HO429.out) hb); have n1_ := A_ (below_step (bw_ HB.out) hb); clear HO429; clear HB; have HO429 := n0_; have HB := n1_; clear n0_ n1_; (try clear hb); (try clear hb2); (try clear hk); (try clear hi))))
    go_meet
    case rel => exact ⟨_, ((t436.toList != t437.toList)), (by rfl), H', ⟨by have := HJ3.out; omega⟩, ⟨rr_ HO429.out⟩, ⟨HB.out⟩⟩
   case rest =>
    clear HC14
    try clear c1
    try clear c2
    try clear p2
    try clear c6
    try clear c7
    try clear c7b0
    try clear c7b1
    try clear c8
    try clear c11
    try clear c19
    try clear c19b0
    try clear c19b1
    try clear c20
    try clear c20b0
    try clear c20b1
    try clear c20b2
    try clear c21
    try clear c21b0
    try clear c21b1
    try clear p2
    obtain ⟨kq, x68_13, rfl, HA, HJ13, HO_7, HB⟩ := hcut
    cases kq with
    | zero => exact absurd HA.out (by simp [l29_RelabelApplies.j1])
    | succ kj13 =>
     have H := HA.out
     clear HA
     simp only [l29_RelabelApplies.j1] at H
     by_cases c26 : x68_13 = true
     ·subst c26
      have H1 : (some false) = some r := by rw [if_pos rfl] at H; exact H
      clear H
      have H := H1
      clear H1
      obtain rfl := Option.some.inj H
      go_wp2
      repeat (go_quiet (fail); try go_wp2)
      go_ret
      exact ⟨by rfl, HB.out⟩
     replace c26 := Bool.eq_false_iff.mpr c26
     subst c26
     have H1 : (l29_RelabelApplies.l0 kj13 l0 y427 t430 t431 0) = some r := by rw [if_neg (show ¬ (false = true) by decide)] at H; exact H
     clear H
     have H := H1
     clear H1
     have H' := A_ H
     clear H
     go_wp2
     repeat (go_quiet (fail); try go_wp2)
     go_loopg [14] kj13 (fun kq v14 w' => ∃ (x14_3 : Int), v14 = .int .i64 x14_3 ∧ Aside0 (l29_RelabelApplies.l0 kq l0 y427 t430 t431 x14_3 = some r) ∧ Aside0 (kq ≤ kj13) ∧ Aside0 (Kd.R k43 43 w' w.heap.size (fun _ => True) (.slice Ao16 y427.length co16) y427) ∧ Aside0 (Below w.heap.size w w'))
     case atStart => exact ⟨(0), (by rfl), H', ⟨Nat.le_refl _⟩, ⟨rr_ HO_7.out⟩, ⟨HB.out⟩⟩
     case round =>
      clear H'
      try clear c1
      try clear c2
      try clear p2
      try clear c6
      try clear c7
      try clear c7b0
      try clear c7b1
      try clear c8
      try clear c11
      try clear c19
      try clear c19b0
      try clear c19b1
      try clear c20
      try clear c20b0
      try clear c20b1
      try clear c20b2
      try clear c21
      try clear c21b0
      try clear c21b1
      try clear c26
      try clear p2
      obtain ⟨x14_3, rfl, HA, HK3, HO_7, HB⟩ := hrel
      cases gk with
      | zero => exact absurd HA.out (by simp [l29_RelabelApplies.l0])
      | succ k3 =>
       have H := HA.out
       clear HA
       simp only [l29_RelabelApplies.l0] at H
       by_cases c27 : x14_3 < (l0.length : Int)
       rotate_left
       ·rw [if_neg c27] at H
        have c27b0 := decide_eq_false c27
        clear c27
        replace H := Option.bind_eq_some_iff.mp H
        obtain ⟨⟨t440, t441, t442⟩, A310, H⟩ := H
        replace H : (if (t431 == (t442 == 0)) = true then ((l29_known.f k3).bind fun t445 => (some t445)) else (some false)) = some r := H
        have A31 := A_ A310
        clear A310
        by_cases c32 : (t431 == (t442 == 0)) = true
        rotate_left
        ·rw [if_neg c32] at H
         have c32b0 : (t431 == (t442 == 0)) = false := by simpa using c32
         (try (have c32b1 : decide (t431 = (t442 == 0)) = false := by simpa using c32))
         (try (have c32b2 : (t431 == (t442 == 0)) = false := by simpa using c32))
         (try (have c32b3 : ¬ (t431 = (t442 == 0)) := by simpa using c32))
         clear c32
         obtain rfl := Option.some.inj H
         go_wp2_with (first | (go_at_call 23; (with_reducible refine (r03_Parse.calls k3 t430 t440 t441 t442 _ A31.out).mono ?_); rintro e w36 ⟨v443, rfl, ho0, hb⟩; have n0_ := A_ (Kd.R_below (rr_ HO_7.out) hb); have n1_ := A_ (Kd.R_lower ho0 (below_size HB.out)); have n2_ := A_ (below_step HB.out hb); clear HO_7; clear HB; have HO_7 := n0_; have HO444 := n1_; have HB := n2_; clear n0_ n1_ n2_; (try clear hb); (try clear hb2); (try clear hk); (try clear hi); (try clear ho0)))
         repeat (go_quiet (first | (go_at_call 23; (with_reducible refine (r03_Parse.calls k3 t430 t440 t441 t442 _ A31.out).mono ?_); rintro e w36 ⟨v443, rfl, ho0, hb⟩; have n0_ := A_ (Kd.R_below (rr_ HO_7.out) hb); have n1_ := A_ (Kd.R_lower ho0 (below_size (bw_ HB.out))); have n2_ := A_ (below_step (bw_ HB.out) hb); clear HO_7; clear HB; have HO_7 := n0_; have HO444 := n1_; have HB := n2_; clear n0_ n1_ n2_; (try clear hb); (try clear hb2); (try clear hk); (try clear hi); (try clear ho0))); try go_wp2_with (first | (go_at_call 23; (with_reducible refine (r03_Parse.calls k3 t430 t440 t441 t442 _ A31.out).mono ?_); rintro e w36 ⟨v443, rfl, ho0, hb⟩; have n0_ := A_ (Kd.R_below (rr_ HO_7.out) hb); have n1_ := A_ (Kd.R_lower ho0 (below_size (bw_ HB.out))); have n2_ := A_ (below_step (bw_ HB.out) hb); clear HO_7; clear HB; have HO_7 := n0_; have HO444 := n1_; have HB := n2_; clear n0_ n1_ n2_; (try clear hb); (try clear hb2); (try clear hk); (try clear hi); (try clear ho0))))
         go_ret
         exact ⟨by rfl, HB.out⟩
        rw [if_pos c32] at H
        have c32b0 : (t431 == (t442 == 0)) = true := c32
        (try (have c32b1 : decide (t431 = (t442 == 0)) = true := by simpa using c32))
        (try (have c32b2 : (t431 == (t442 == 0)) = true := by simpa using c32))
        clear c32
        replace H := Option.bind_eq_some_iff.mp H
        obtain ⟨t445, A330, H⟩ := H
        replace H : (some t445) = some r := H
        have A33 := A_ A330
        clear A330
        obtain rfl := Option.some.inj H
        go_wp2_with (first | (go_at_call 23; (with_reducible refine (r03_Parse.calls k3 t430 t440 t441 t442 _ A31.out).mono ?_); rintro e w34 ⟨v443, rfl, ho0, hb⟩; have n0_ := A_ (Kd.R_below (rr_ HO_7.out) hb); have n1_ := A_ (Kd.R_lower ho0 (below_size HB.out)); have n2_ := A_ (below_step HB.out hb); clear HO_7; clear HB; have HO_7 := n0_; have HO444 := n1_; have HB := n2_; clear n0_ n1_ n2_; (try clear hb); (try clear hb2); (try clear hk); (try clear hi); (try clear ho0)) | (go_at_call 10; (with_reducible refine (l29_known.calls k3  t445 _ ?side1 A33.out).mono ?_); (case side1 => exact SH.below hSH HB.out); rintro e w35 ⟨rfl, hb⟩; have n0_ := A_ (Kd.R_below (rr_ HO_7.out) hb); have n1_ := A_ (Kd.R_below (rr_ HO444.out) hb); have n2_ := A_ (below_step HB.out hb); clear HO_7; clear HO444; clear HB; have HO_7 := n0_; have HO444 := n1_; have HB := n2_; clear n0_ n1_ n2_; (try clear hb); (try clear hb2); (try clear hk); (try clear hi)))
        repeat (go_quiet (first | (go_at_call 23; (with_reducible refine (r03_Parse.calls k3 t430 t440 t441 t442 _ A31.out).mono ?_); rintro e w34 ⟨v443, rfl, ho0, hb⟩; have n0_ := A_ (Kd.R_below (rr_ HO_7.out) hb); have n1_ := A_ (Kd.R_lower ho0 (below_size (bw_ HB.out))); have n2_ := A_ (below_step (bw_ HB.out) hb); clear HO_7; clear HB; have HO_7 := n0_; have HO444 := n1_; have HB := n2_; clear n0_ n1_ n2_; (try clear hb); (try clear hb2); (try clear hk); (try clear hi); (try clear ho0)) | (go_at_call 10; (with_reducible refine (l29_known.calls k3  t445 _ ?side1 A33.out).mono ?_); (case side1 => exact SH.below hSH (bw_ HB.out)); rintro e w35 ⟨rfl, hb⟩; have n0_ := A_ (Kd.R_below (rr_ HO_7.out) hb); have n1_ := A_ (Kd.R_below (rr_ HO444.out) hb); have n2_ := A_ (below_step (bw_ HB.out) hb); clear HO_7; clear HO444; clear HB; have HO_7 := n0_; have HO444 := n1_; have HB := n2_; clear n0_ n1_ n2_; (try clear hb); (try clear hb2); (try clear hk); (try clear hi))); try go_wp2_with (first | (go_at_call 23; (with_reducible refine (r03_Parse.calls k3 t430 t440 t441 t442 _ A31.out).mono ?_); rintro e w34 ⟨v443, rfl, ho0, hb⟩; have n0_ := A_ (Kd.R_below (rr_ HO_7.out) hb); have n1_ := A_ (Kd.R_lower ho0 (below_size (bw_ HB.out))); have n2_ := A_ (below_step (bw_ HB.out) hb); clear HO_7; clear HB; have HO_7 := n0_; have HO444 := n1_; have HB := n2_; clear n0_ n1_ n2_; (try clear hb); (try clear hb2); (try clear hk); (try clear hi); (try clear ho0)) | (go_at_call 10; (with_reducible refine (l29_known.calls k3  t445 _ ?side1 A33.out).mono ?_); (case side1 => exact SH.below hSH (bw_ HB.out)); rintro e w35 ⟨rfl, hb⟩; have n0_ := A_ (Kd.R_below (rr_ HO_7.out) hb); have n1_ := A_ (Kd.R_below (rr_ HO444.out) hb); have n2_ := A_ (below_step (bw_ HB.out) hb); clear HO_7; clear HO444; clear HB; have HO_7 := n0_; have HO444 := n1_; have HB := n2_; clear n0_ n1_ n2_; (try clear hb); (try clear hb2); (try clear hk); (try clear hi))))
        go_ret
        exact ⟨by rfl, HB.out⟩
       rw [if_pos c27] at H
       have c27b0 := decide_eq_true c27
       clear c27
       by_cases c28 : 0 ≤ x14_3
       rotate_left
       ·rw [if_neg c28] at H
        exact absurd H (by simp)
       rw [if_pos c28] at H
       have c28b0 := decide_eq_true c28
       clear c28
       by_cases c29 : x14_3 < (y427.length : Int)
       rotate_left
       ·rw [if_neg c29] at H
        exact absurd H (by simp)
       rw [if_pos c29] at H
       have c29b0 := decide_eq_true c29
       clear c29
       by_cases c30 : (!(((rd_T43 y427 x14_3).f0) == ((rd_T43 l0 x14_3).f0)) || (!((((rd_T43 y427 x14_3).f1).toList) == (((rd_T43 l0 x14_3).f1).toList)) || (!((((rd_T43 y427 x14_3).f2).toList) == (((rd_T43 l0 x14_3).f2).toList)) || (!((((rd_T43 y427 x14_3).f3).toList) == (((rd_T43 l0 x14_3).f3).toList)) || (!((((rd_T43 y427 x14_3).f4).toList) == (((rd_T43 l0 x14_3).f4).toList))))))) = true
       ·rw [if_pos c30] at H
        have c30b0 : (!(((rd_T43 y427 x14_3).f0) == ((rd_T43 l0 x14_3).f0)) || (!((((rd_T43 y427 x14_3).f1).toList) == (((rd_T43 l0 x14_3).f1).toList)) || (!((((rd_T43 y427 x14_3).f2).toList) == (((rd_T43 l0 x14_3).f2).toList)) || (!((((rd_T43 y427 x14_3).f3).toList) == (((rd_T43 l0 x14_3).f3).toList)) || (!((((rd_T43 y427 x14_3).f4).toList) == (((rd_T43 l0 x14_3).f4).toList))))))) = true := c30
        clear c30
        obtain rfl := Option.some.inj H
        have p438 : 0 ≤ (x14_3 : Int) := od_
        have q438 : x14_3 < (y427.length : Int) := od_
        (try (obtain ⟨Ax438_, cx438_, ex438_⟩ := Kd.R_slice HO_7.out; subst ex438_))
        obtain ⟨ad438, e438, hx438_0, hx438_1, hx438_2, hx438_3, hx438_4⟩ := at_T43 (Kd.R_reads' HO_7.out).2.2 x14_3 p438 q438
        cases e438
        replace p438 := eq_true p438
        replace q438 := eq_true q438
        have p439 : 0 ≤ (x14_3 : Int) := od_
        have q439 : x14_3 < (l0.length : Int) := od_
        obtain ⟨ad439, e439, hx439_0, hx439_1, hx439_2, hx439_3, hx439_4⟩ := at_T43 HR0.out x14_3 p439 q439
        cases e439
        replace hx439_0 := (HB.out.cell (World.block_lt_of_cell? w _ hx439_0)).trans hx439_0
        replace hx439_1 := (HB.out.cell (World.block_lt_of_cell? w _ hx439_1)).trans hx439_1
        replace hx439_2 := (HB.out.cell (World.block_lt_of_cell? w _ hx439_2)).trans hx439_2
        replace hx439_3 := (HB.out.cell (World.block_lt_of_cell? w _ hx439_3)).trans hx439_3
        replace hx439_4 := (HB.out.cell (World.block_lt_of_cell? w _ hx439_4)).trans hx439_4
        replace p439 := eq_true p439
        replace q439 := eq_true q439
        go_wp2
        repeat (go_quiet (fail); try go_wp2)
        go_ret
        exact ⟨by rfl, by repeat ((with_reducible first | exact HB.out | apply pw_below_drewN))⟩
       rw [if_neg c30] at H
       have c30b0 : (!(((rd_T43 y427 x14_3).f0) == ((rd_T43 l0 x14_3).f0)) || (!((((rd_T43 y427 x14_3).f1).toList) == (((rd_T43 l0 x14_3).f1).toList)) || (!((((rd_T43 y427 x14_3).f2).toList) == (((rd_T43 l0 x14_3).f2).toList)) || (!((((rd_T43 y427 x14_3).f3).toList) == (((rd_T43 l0 x14_3).f3).toList)) || (!((((rd_T43 y427 x14_3).f4).toList) == (((rd_T43 l0 x14_3).f4).toList))))))) = false := by simpa using c30
       clear c30
       have H' := A_ H
       clear H
       have p438 : 0 ≤ (x14_3 : Int) := od_
       have q438 : x14_3 < (y427.length : Int) := od_
       (try (obtain ⟨Ax438_, cx438_, ex438_⟩ := Kd.R_slice HO_7.out; subst ex438_))
       obtain ⟨ad438, e438, hx438_0, hx438_1, hx438_2, hx438_3, hx438_4⟩ := at_T43 (Kd.R_reads' HO_7.out).2.2 x14_3 p438 q438
       cases e438
       replace p438 := eq_true p438
       replace q438 := eq_true q438
       have p439 : 0 ≤ (x14_3 : Int) := od_
       have q439 : x14_3 < (l0.length : Int) := od_
       obtain ⟨ad439, e439, hx439_0, hx439_1, hx439_2, hx439_3, hx439_4⟩ := at_T43 HR0.out x14_3 p439 q439
       cases e439
       replace hx439_0 := (HB.out.cell (World.block_lt_of_cell? w _ hx439_0)).trans hx439_0
       replace hx439_1 := (HB.out.cell (World.block_lt_of_cell? w _ hx439_1)).trans hx439_1
       replace hx439_2 := (HB.out.cell (World.block_lt_of_cell? w _ hx439_2)).trans hx439_2
       replace hx439_3 := (HB.out.cell (World.block_lt_of_cell? w _ hx439_3)).trans hx439_3
       replace hx439_4 := (HB.out.cell (World.block_lt_of_cell? w _ hx439_4)).trans hx439_4
       replace p439 := eq_true p439
       replace q439 := eq_true q439
       go_wp2
       repeat (go_quiet (fail); try go_wp2)
       go_roundg k3
       case measure => have := HJ3.out; have := HJ13.out; have := HK3.out; omega
       case rel => exact ⟨(wrap64 (x14_3 + 1)), (by rfl), H', ⟨by have := HJ3.out; have := HJ13.out; have := HK3.out; omega⟩, ⟨by (with_reducible repeat (apply Kd.R_drewN)); exact HO_7.out⟩, ⟨by repeat ((with_reducible first | exact HB.out | apply pw_below_drewN))⟩⟩
end Go.Proofs.YtcikjeiebpmmcaaGreat.PMch
