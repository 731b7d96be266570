/- A text of this claim, pruned by a program of the session (prune.py) to what the theorem rests on. -/
import Derived.Test.YtedchpflcemdkaaQkGCSa
import Derived.Test.YtedchpflcemdkaaQkGRSa
import Derived.Test.YtedchpflcemdkaaQkGCpy
import Derived.Test.YtedchpflcemdkaaQkPKnox0
import Derived.Test.YtedchpflcemdkaaQkPKnox1
import Derived.Test.YtedchpflcemdkaaQkPKnox2
import Derived.Test.YtedchpflcemdkaaQkPKnox3
import Derived.Test.YtedchpflcemdkaaQkGBoth
import Derived.Deep.RegionHeld3
import Derived.Lib.QuietBelow
namespace Go.Proofs.Ytedchpflcemdkaa
open Go.RowKit Go.Proofs.YtedchpflcemdkaaW.PrintWords Go.Proofs.YtedchpflcemdkaaW.PrintLast Go.Proofs.YtedchpflcemdkaaW.PrintMore Go.Proofs.Ytedchpflcemdkaa.PKno
set_option linter.unusedVariables false
set_option linter.unusedSimpArgs false
theorem known_40 : odometerlaw13_known.f 40 = some true := by kernel_rfl
theorem known_calls (w : World) : Calls Try.prog 6 #[] w fun e w' => e = .returned (.bool true) ∧ Below w.heap.size w w' := odometerlaw13_known.calls 40 true w known_40
theorem ca_at {P : Program} {f : FuncId} {args : Array Value} {Q : Ending → World → Prop} {w : World} (p : World → Prop) (hp : p w) (h : ∀ w', p w' → Calls P f args w' Q) : Calls P f args w Q := h w hp
set_option maxRecDepth 100000 in
set_option maxHeartbeats 16000000 in
theorem copies_calls (A1 A2 B1 B2 : Option Addr) (c1 c2 d1 d2 : Nat) (x y : Cfg) (w : World) (hx : CfgAt w A1 A2 x) (hy : CfgAt w B1 B2 y) :
    Calls Try.prog 5 #[.agg (cfgL A1 c1 A2 c2 x).toArray, .agg (cfgL B1 d1 B2 d2 y).toArray] w fun e w' => e = .returned (.bool true) ∧ Below w.heap.size w w' := by
  have HX := Aside0.mk hx
  have HY := Aside0.mk hy
  clear hx hy
  unfold cfgL
  go_enter Try.func5, Try.ntmps5
  go_wp2_with fail
  refine ca_at (fun W => CfgB W w.heap.size A1 c1 A2 c2 x ∧ CfgB W (w.heap.size + 1) B1 d1 B2 d2 y ∧ Below w.heap.size w W) ⟨blk_alloc (blk_new w _) _, by have := blk_new (w.alloc (.cells (cfgL A1 c1 A2 c2 x).toArray 38)) (.cells (cfgL B1 d1 B2 d2 y).toArray 38); rwa [World.size_alloc] at this, ((Below.refl _ w).alloc (Nat.le_refl _) _).alloc (by simp) _⟩ ?_
  rintro w0 ⟨g1, g2, hb0⟩
  have x0 := g1.cell 0 _ rfl
  have x1 := g1.cell 1 _ rfl
  have x2 := g1.cell 2 _ rfl
  have x3 := g1.cell 3 _ rfl
  have x4 := g1.cell 4 _ rfl
  have x5 := g1.cell 5 _ rfl
  have x6 := g1.cell 6 _ rfl
  have x7 := g1.cell 7 _ rfl
  have x8 := g1.cell 8 _ rfl
  have x9 := g1.cell 9 _ rfl
  have x10 := g1.cell 10 _ rfl
  go_wp2_with fail
  clear x0 x1 x2 x3 x4 x5 x6 x7 x8 x9 x10
  refine (much_calls A1 A2 c1 c2 x w0 (HX.out.below hb0)).mono ?_
  rintro e w1 ⟨b1, rfl, hb1⟩
  have g12 := g1.below hb1
  have g22 := g2.below hb1
  have HB1 := Aside0.mk (hb0.trans (hb1.mono hb0.size))
  clear g1 g2 hb0 hb1
  cases b1 with
  | true =>
    clear g12 g22
    go_wp2_with fail
    refine (known_calls w1).mono ?_
    rintro e w2 ⟨rfl, hb2⟩
    go_wp2_with fail
    go_ret
    exact ⟨rfl, HB1.out.trans (hb2.mono HB1.out.size)⟩
  | false =>
    have y0 := g22.cell 0 _ rfl
    have y1 := g22.cell 1 _ rfl
    have y2 := g22.cell 2 _ rfl
    have y3 := g22.cell 3 _ rfl
    have y4 := g22.cell 4 _ rfl
    have y5 := g22.cell 5 _ rfl
    have y6 := g22.cell 6 _ rfl
    have y7 := g22.cell 7 _ rfl
    have y8 := g22.cell 8 _ rfl
    have y9 := g22.cell 9 _ rfl
    have y10 := g22.cell 10 _ rfl
    go_wp2_with fail
    refine (much_calls B1 B2 d1 d2 y w1 (HY.out.below HB1.out)).mono ?_
    rintro e w2 ⟨b2, rfl, hb2⟩
    have g13 := g12.below hb2
    have g23 := g22.below hb2
    have HB2 := Aside0.mk (HB1.out.trans (hb2.mono HB1.out.size))
    clear g12 g22 hb2 y0 y1 y2 y3 y4 y5 y6 y7 y8 y9 y10
    cases b2 with
    | true =>
      clear g13 g23
      go_wp2_with fail
      refine (known_calls w2).mono ?_
      rintro e w3 ⟨rfl, hb3⟩
      go_wp2_with fail
      go_ret
      exact ⟨rfl, HB2.out.trans (hb3.mono HB2.out.size)⟩
    | false =>
      have G1 := Aside0.mk g13
      have G2 := Aside0.mk g23
      clear g13 g23
      obtain ⟨r, hr⟩ : ∃ r, decide (x = y) = r := ⟨_, rfl⟩
      have hr2 : decide (y = x) = r := by rw [← hr]; exact decide_eq_decide.2 ⟨Eq.symm, Eq.symm⟩
      have hS1 := fun W hb => same_calls A1 A2 B1 B2 c1 c2 d1 d2 x y W (HX.out.below hb) (HY.out.below hb)
      have hS2 := fun W hb => same_calls B1 B2 A1 A2 d1 d2 c1 c2 y x W (HY.out.below hb) (HX.out.below hb)
      have hR1 := fun W hb => rsame_calls A1 A2 B1 B2 c1 c2 d1 d2 x y W (HX.out.below hb) (HY.out.below hb)
      have hR2 := fun W hb => rsame_calls B1 B2 A1 A2 d1 d2 c1 c2 y x W (HY.out.below hb) (HX.out.below hb)
      rw [hr] at hS1 hR1
      rw [hr2] at hS2 hR2
      have lft : ∀ d os, Below w.heap.size w (Sort.grow (redrawn w2 d) os) := fun d os => HB2.out.trans ((below_regrown w2 d os).mono HB2.out.size)
      have cS1 := fun d os => Calls.regrown_of (hS1 _ (lft d os))
      have cS2 := fun d os => Calls.regrown_of (hS2 _ (lft d os))
      have cR1 := fun d os => Calls.regrown_of (hR1 _ (lft d os))
      have cR2 := fun d os => Calls.regrown_of (hR2 _ (lft d os))
      have ld1 : ∀ W, (∃ p : Regrown, W = Sort.grow (redrawn w2 p.d) p.os) → CfgB W w.heap.size A1 c1 A2 c2 x := fun W ⟨p, e⟩ => e ▸ G1.out.below (below_regrown w2 p.d p.os)
      have ld2 : ∀ W, (∃ p : Regrown, W = Sort.grow (redrawn w2 p.d) p.os) → CfgB W (w.heap.size + 1) B1 d1 B2 d2 y := fun W ⟨p, e⟩ => e ▸ G2.out.below (below_regrown w2 p.d p.os)
      clear hS1 hS2 hR1 hR2
      generalize Value.agg #[Value.slice A1 x.ts.length c1, Value.int .i64 x.win, Value.int .i64 x.late, Value.slice A2 x.ws.length c2, Value.int .i64 x.ser, Value.int .i64 x.wins, Value.int .i64 x.que, Value.int .i64 x.con, Value.int .i64 x.bod, Value.int .i64 x.bas, Value.int .i64 x.mos] = V1
      generalize Value.agg #[Value.slice B1 y.ts.length d1, Value.int .i64 y.win, Value.int .i64 y.late, Value.slice B2 y.ws.length d2, Value.int .i64 y.ser, Value.int .i64 y.wins, Value.int .i64 y.que, Value.int .i64 y.con, Value.int .i64 y.bod, Value.int .i64 y.bas, Value.int .i64 y.mos] = V2
      go_wp2_with fail
      refine wp_region_quiet_below (by kernel_rfl) (by kernel_rfl) ?_
      refine wpQuiet_step (fun K hK => ?_)
      refine quiet_load (by rfl) _ _ rfl rfl (fun W h => load_cfg (ld1 W h)) (hK _ ?_)
      clear hK K
      refine wpQuiet_step (fun K hK => ?_)
      refine quiet_load (by rfl) _ _ rfl rfl (fun W h => load_cfg (ld2 W h)) (hK _ ?_)
      clear hK K
      refine wpQuiet_step (fun K hK => ?_)
      go_simp
      refine ⟨_, fun _ => cS1 _ _, hK _ ?_⟩
      clear hK K
      refine wpQuiet_step (fun K hK => ?_)
      refine quiet_load (by rfl) _ _ rfl rfl (fun W h => load_cfg (ld1 W h)) (hK _ ?_)
      clear hK K
      refine wpQuiet_step (fun K hK => ?_)
      refine quiet_load (by rfl) _ _ rfl rfl (fun W h => load_cfg (ld2 W h)) (hK _ ?_)
      clear hK K
      refine wpQuiet_step (fun K hK => ?_)
      go_simp
      refine ⟨_, fun _ => cR1 _ _, hK _ ?_⟩
      clear hK K
      refine wpQuiet_step (fun K hK => ?_)
      go_simp
      refine hK _ ?_
      clear hK K
      refine wpQuiet_step (fun K hK => ?_)
      go_simp
      refine hK _ ?_
      clear hK K
      refine wpQuiet_step (fun K hK => ?_)
      refine quiet_load (by go_simp) _ _ rfl rfl (fun W h => load_cfg (ld2 W h)) (hK _ ?_)
      clear hK K
      refine wpQuiet_step (fun K hK => ?_)
      refine quiet_load (by go_simp) _ _ rfl rfl (fun W h => load_cfg (ld1 W h)) (hK _ ?_)
      clear hK K
      refine wpQuiet_step (fun K hK => ?_)
      go_simp
      refine ⟨_, fun _ => cS2 _ _, hK _ ?_⟩
      clear hK K
      refine wpQuiet_step (fun K hK => ?_)
      refine quiet_load (by go_simp) _ _ rfl rfl (fun W h => load_cfg (ld1 W h)) (hK _ ?_)
      clear hK K
      refine wpQuiet_step (fun K hK => ?_)
      refine quiet_load (by go_simp) _ _ rfl rfl (fun W h => load_cfg (ld2 W h)) (hK _ ?_)
      clear hK K
      refine wpQuiet_step (fun K hK => ?_)
      go_simp
      refine ⟨_, fun _ => cR1 _ _, hK _ ?_⟩
      clear hK K
      refine wpQuiet_step (fun K hK => ?_)
      go_simp
      refine hK _ ?_
      clear hK K
      refine wpQuiet_step (fun K hK => ?_)
      go_simp
      refine hK _ ?_
      clear hK K
      refine wpQuiet_nil ?_
      intro w3 hw'
      have hb3 : Below w2.heap.size w2 w3 := by obtain ⟨p, e⟩ := hw'; exact e ▸ below_regrown w2 p.d p.os
      have HB3 := Aside0.mk (HB2.out.trans (hb3.mono HB2.out.size))
      have G13 := Aside0.mk (G1.out.below hb3)
      have G23 := Aside0.mk (G2.out.below hb3)
      clear cS1 cS2 cR1 cR2 ld1 ld2 lft G1 G2 hw' hb3
      generalize Value.agg (cfgL A1 c1 A2 c2 x).toArray = V3
      generalize Value.agg (cfgL B1 d1 B2 d2 y).toArray = V4
      have hcp : ∀ W, Below w3.heap.size w3 W → Calls Try.prog 18 #[.agg (cfgL A1 c1 A2 c2 x).toArray] W (CopyOf W A2 x) := fun W hb => copy_calls A1 A2 c1 c2 x W (HX.out.below (HB3.out.trans (hb.mono HB3.out.size)))
      have hld : ∀ W, Below w3.heap.size w3 W → CfgB W w.heap.size A1 c1 A2 c2 x := fun W hb => G13.out.below hb
      go_wp2_with fail
      refine region_inv (by kernel_rfl) (fun listed a W => (∃ (b0 b1 b2 b3 b4 b5 : Bool) (t5 t6 t32 t33 t34 t35 : Value), listed = #[b0, b1, b2, b3, b4, b5, false, false] ∧ a = (⟨#[V1, V2, .pointer (some ⟨w.heap.size, 0, none⟩), .pointer (some ⟨w.heap.size + 1, 0, none⟩), .bool false, t5, t6, undef, undef, V1, .bool false, .bool false, V2, .bool false, .bool false, undef, V3, V4, .bool r, V3, V4, .bool r, .bool false, .bool false, V4, V3, .bool r, V3, V4, .bool r, .bool false, .bool false, t32, t33, t34, t35, undef, undef, undef, undef, undef, undef, undef, undef, undef, undef, undef, undef, undef, undef, undef, undef, undef, undef, undef, undef, undef, undef, undef, undef, undef, undef, undef, undef, undef, undef, undef, undef, undef, undef, undef, undef, undef, undef, undef, undef, undef, undef, undef, undef, undef, undef, undef, undef, undef], []⟩ : Act) ∧ (b3 = true → b2 = true) ∧ J0 w3 x A2.isNone (.agg (cfgL A1 c1 A2 c2 x).toArray) b0 b1 b2 b3 b4 b5 t5 t6 t32 t33 t34 t35 W) ∨ (∃ (t5 t6 t32 t33 t34 t35 : Value), listed = #[true, true, true, true, true, true, true, false] ∧ a = (⟨#[V1, V2, .pointer (some ⟨w.heap.size, 0, none⟩), .pointer (some ⟨w.heap.size + 1, 0, none⟩), .bool false, t5, t6, undef, undef, V1, .bool false, .bool false, V2, .bool false, .bool false, undef, V3, V4, .bool r, V3, V4, .bool r, .bool false, .bool false, V4, V3, .bool r, V3, V4, .bool r, .bool false, .bool false, t32, t33, t34, t35, undef, undef, undef, undef, undef, undef, undef, undef, undef, undef, undef, undef, undef, undef, undef, undef, undef, undef, undef, undef, undef, undef, undef, undef, undef, undef, undef, undef, undef, undef, undef, undef, undef, undef, undef, undef, undef, undef, undef, undef, undef, undef, undef, undef, undef, undef, undef, undef, undef], []⟩ : Act) ∧ J1 w3 x A2.isNone true false t5 t6 t33 t35 W) ∨ (∃ (t5 t6 t32 t33 t34 t35 : Value), listed = #[true, true, true, true, true, true, true, true] ∧ a = (⟨#[V1, V2, .pointer (some ⟨w.heap.size, 0, none⟩), .pointer (some ⟨w.heap.size + 1, 0, none⟩), .bool false, t5, t6, undef, undef, V1, .bool false, .bool false, V2, .bool false, .bool false, undef, V3, V4, .bool r, V3, V4, .bool r, .bool false, .bool false, V4, V3, .bool r, V3, V4, .bool r, .bool false, .bool false, t32, t33, t34, t35, undef, undef, undef, undef, undef, undef, undef, undef, undef, undef, undef, undef, undef, undef, undef, undef, undef, undef, undef, undef, undef, undef, undef, undef, undef, undef, undef, undef, undef, undef, undef, undef, undef, undef, undef, undef, undef, undef, undef, undef, undef, undef, undef, undef, undef, undef, undef, undef, undef], []⟩ : Act) ∧ J1 w3 x A2.isNone true true t5 t6 t33 t35 W)) ?_ ?_ ?_
      · exact .inl ⟨false, false, false, false, false, false, undef, undef, undef, undef, undef, undef, rfl, rfl, nofun, J0.start⟩
      · intro i o listed a W hi hI hl hd K hK
        rcases hI with ⟨b0, b1, b2, b3, b4, b5, t5, t6, t32, t33, t34, t35, rfl, rfl, h32, hJ⟩ | ⟨t5, t6, t32, t33, t34, t35, rfl, rfl, hJ⟩ | ⟨t5, t6, t32, t33, t34, t35, rfl, rfl, hJ⟩
        · rcases i with _ | _ | _ | _ | _ | _ | _ | _ | i
          · cases hi
            exact wp_load_cfg rfl _ rfl rfl (hld W hJ.1) (hK _ _ (.inl ⟨true, b1, b2, b3, b4, b5, t5, t6, _, t33, t34, t35, rfl, rfl, h32, hJ.load0⟩))
          · cases hi
            obtain rfl : b0 = true := hd ⟨0, .data⟩ (by simp) rfl
            obtain rfl := hJ.2.1 rfl
            go_simp
            go_at_call 18
            refine (hcp W hJ.1).mono ?_
            intro e W' hc
            obtain ⟨v, rfl, hv, hb⟩ := copyV_of hc
            exact hK _ _ (.inl ⟨true, true, b2, b3, b4, b5, t5, t6, _, v, t34, t35, rfl, rfl, h32, hJ.call1 hv hb⟩)
          · cases hi
            exact wp_load_cfg rfl _ rfl rfl (hld W hJ.1) (hK _ _ (.inl ⟨b0, b1, true, b3, b4, b5, t5, t6, t32, t33, _, t35, rfl, rfl, fun _ => rfl, hJ.load2⟩))
          · cases hi
            obtain rfl : b2 = true := hd ⟨2, .data⟩ (by simp) rfl
            obtain rfl := hJ.2.2.1 rfl
            go_simp
            go_at_call 18
            refine (hcp W hJ.1).mono ?_
            intro e W' hc
            obtain ⟨v, rfl, hv, hb⟩ := copyV_of hc
            exact hK _ _ (.inl ⟨b0, b1, true, true, b4, b5, t5, t6, t32, t33, _, v, rfl, rfl, fun _ => rfl, hJ.call3 hv hb⟩)
          · cases hi
            go_simp
            exact hK _ _ (.inl ⟨b0, b1, b2, b3, true, b5, _, t6, t32, t33, t34, t35, rfl, rfl, h32, hJ.alloc4⟩)
          · cases hi
            go_simp
            exact hK _ _ (.inl ⟨b0, b1, b2, b3, b4, true, t5, _, t32, t33, t34, t35, rfl, rfl, h32, hJ.alloc5⟩)
          · cases hi
            obtain rfl : b4 = true := hd ⟨4, .data⟩ (by simp) rfl
            obtain rfl : b1 = true := hd ⟨1, .data⟩ (by simp) rfl
            obtain rfl : b3 = true := hd ⟨3, .chain⟩ (by simp) rfl
            obtain rfl : b0 = true := hd ⟨0, .phase⟩ (by simp) rfl
            obtain rfl : b5 = true := hd ⟨5, .phase⟩ (by simp) rfl
            obtain rfl := h32 rfl
            obtain ⟨p, E1, e1, E2, e2, rfl, rfl, hz, hJ'⟩ := hJ.full.store6
            exact wp_store_cfg rfl _ _ rfl rfl rfl hz (hK _ _ (.inr (.inl ⟨_, t6, t32, _, t34, t35, rfl, rfl, hJ'⟩)))
          · cases hi
            exact absurd (hd ⟨6, .chain⟩ (by simp) rfl) (by simp)
          · simp at hi
        · rcases i with _ | _ | _ | _ | _ | _ | _ | _ | i
          · simp at hl
          · simp at hl
          · simp at hl
          · simp at hl
          · simp at hl
          · simp at hl
          · simp at hl
          · cases hi
            obtain ⟨q, E1, e1, E2, e2, rfl, rfl, hz, hJ'⟩ := hJ.store7
            exact wp_store_cfg rfl _ _ rfl rfl rfl hz (hK _ _ (.inr (.inr ⟨t5, _, t32, t33, t34, _, rfl, rfl, hJ'⟩)))
          · simp at hi
        · rcases i with _ | _ | _ | _ | _ | _ | _ | _ | i
          · simp at hl
          · simp at hl
          · simp at hl
          · simp at hl
          · simp at hl
          · simp at hl
          · simp at hl
          · simp at hl
          · simp at hi
      intro listed a w4 hI hno
      rcases hI with ⟨b0, b1, b2, b3, b4, b5, t5, t6, t32, t33, t34, t35, rfl, rfl, h32, hJ⟩ | ⟨t5, t6, t32, t33, t34, t35, rfl, rfl, hJ⟩ | ⟨t5, t6, t32, t33, t34, t35, rfl, rfl, hJ⟩
      · exfalso
        have e0 : b0 = true := by cases b0 with | true => rfl | false => (obtain ⟨e, he, -⟩ := hno 0 _ rfl rfl; simp at he)
        have e2 : b2 = true := by cases b2 with | true => rfl | false => (obtain ⟨e, he, -⟩ := hno 2 _ rfl rfl; simp at he)
        have e4 : b4 = true := by cases b4 with | true => rfl | false => (obtain ⟨e, he, -⟩ := hno 4 _ rfl rfl; simp at he)
        have e5 : b5 = true := by cases b5 with | true => rfl | false => (obtain ⟨e, he, -⟩ := hno 5 _ rfl rfl; simp at he)
        subst e0 e2 e4 e5
        have e1 : b1 = true := by cases b1 with | true => rfl | false => (obtain ⟨e, he, -, hf⟩ := hno 1 _ rfl rfl; simp at he; subst he; cases hf)
        subst e1
        have e3 : b3 = true := by cases b3 with | true => rfl | false => (obtain ⟨e, he, -, hf⟩ := hno 3 _ rfl rfl; simp at he; rcases he with rfl | rfl <;> cases hf)
        subst e3
        obtain ⟨e, he, -, hf⟩ := hno 6 _ rfl rfl
        simp at he
        rcases he with rfl | rfl | rfl | rfl | rfl | rfl | rfl | rfl | rfl <;> cases hf
      · exfalso
        obtain ⟨e, he, -, hf⟩ := hno 7 _ rfl rfl
        simp at he
        rcases he with rfl | rfl | rfl | rfl | rfl | rfl | rfl | rfl | rfl | rfl <;> cases hf
      clear hno hld hcp
      obtain ⟨p, q, E1, e1, E2, e2, F1, f1, F2, f2, SE, SF, rfl, rfl, hT⟩ := hJ.done HB3.out G13.out
      have HT4 := Aside0.mk hT
      clear hJ G13 G23 HB3
      have x0 := hT.ba.cell 0 _ rfl
      have x1 := hT.ba.cell 1 _ rfl
      have x2 := hT.ba.cell 2 _ rfl
      have x3 := hT.ba.cell 3 _ rfl
      have x4 := hT.ba.cell 4 _ rfl
      have x5 := hT.ba.cell 5 _ rfl
      have x6 := hT.ba.cell 6 _ rfl
      have x7 := hT.ba.cell 7 _ rfl
      have x8 := hT.ba.cell 8 _ rfl
      have x9 := hT.ba.cell 9 _ rfl
      have x10 := hT.ba.cell 10 _ rfl
      have y0 := hT.bp.cell 0 _ rfl
      have y1 := hT.bp.cell 1 _ rfl
      have y2 := hT.bp.cell 2 _ rfl
      have y3 := hT.bp.cell 3 _ rfl
      have y4 := hT.bp.cell 4 _ rfl
      have y5 := hT.bp.cell 5 _ rfl
      have y6 := hT.bp.cell 6 _ rfl
      have y7 := hT.bp.cell 7 _ rfl
      have y8 := hT.bp.cell 8 _ rfl
      have y9 := hT.bp.cell 9 _ rfl
      have y10 := hT.bp.cell 10 _ rfl
      clear hT
      go_wp2_with fail
      have hrs := rsame_calls E1 E2 A1 A2 e1 e2 c1 c2 x x w4 (HX.out.copy HT4.out.rE HT4.out.sE HT4.out.nE) (HX.out.below HT4.out.below)
      rw [decide_eq_true rfl] at hrs
      refine hrs.mono ?_
      clear hrs
      rintro e w5 ⟨rfl, hb5⟩
      have hT := HT4.out.grow hb5
      have HT5 := Aside0.mk hT
      clear hb5 HT4 x0 x1 x2 x3 x4 x5 x6 x7 x8 x9 x10 y0 y1 y2 y3 y4 y5 y6 y7 y8 y9 y10
      have x0 := hT.ba.cell 0 _ rfl
      have x1 := hT.ba.cell 1 _ rfl
      have x2 := hT.ba.cell 2 _ rfl
      have x3 := hT.ba.cell 3 _ rfl
      have x4 := hT.ba.cell 4 _ rfl
      have x5 := hT.ba.cell 5 _ rfl
      have x6 := hT.ba.cell 6 _ rfl
      have x7 := hT.ba.cell 7 _ rfl
      have x8 := hT.ba.cell 8 _ rfl
      have x9 := hT.ba.cell 9 _ rfl
      have x10 := hT.ba.cell 10 _ rfl
      have y0 := hT.bp.cell 0 _ rfl
      have y1 := hT.bp.cell 1 _ rfl
      have y2 := hT.bp.cell 2 _ rfl
      have y3 := hT.bp.cell 3 _ rfl
      have y4 := hT.bp.cell 4 _ rfl
      have y5 := hT.bp.cell 5 _ rfl
      have y6 := hT.bp.cell 6 _ rfl
      have y7 := hT.bp.cell 7 _ rfl
      have y8 := hT.bp.cell 8 _ rfl
      have y9 := hT.bp.cell 9 _ rfl
      have y10 := hT.bp.cell 10 _ rfl
      clear hT
      go_wp2_with fail
      have hrs := same_calls E1 E2 A1 A2 e1 e2 c1 c2 x x w5 (HX.out.copy HT5.out.rE HT5.out.sE HT5.out.nE) (HX.out.below HT5.out.below)
      rw [decide_eq_true rfl] at hrs
      refine hrs.mono ?_
      clear hrs
      rintro e w6 ⟨rfl, hb6⟩
      have hT := HT5.out.grow hb6
      have HT6 := Aside0.mk hT
      have z0 := hT.bp.cell 0 _ rfl
      have z3 := hT.bp.cell 3 _ rfl
      clear hb6 HT5 hT x0 x1 x2 x3 x4 x5 x6 x7 x8 x9 x10 y0 y1 y2 y3 y4 y5 y6 y7 y8 y9 y10
      go_wp2_with fail
      generalize Value.agg #[Value.slice E1 x.ts.length e1, Value.int .i64 x.win, Value.int .i64 x.late, Value.slice E2 x.ws.length e2, Value.int .i64 x.ser, Value.int .i64 x.wins, Value.int .i64 x.que, Value.int .i64 x.con, Value.int .i64 x.bod, Value.int .i64 x.bas, Value.int .i64 x.mos] = V5
      generalize Value.agg #[Value.slice A1 x.ts.length c1, Value.int .i64 x.win, Value.int .i64 x.late, Value.slice A2 x.ws.length c2, Value.int .i64 x.ser, Value.int .i64 x.wins, Value.int .i64 x.que, Value.int .i64 x.con, Value.int .i64 x.bod, Value.int .i64 x.bas, Value.int .i64 x.mos] = V6
      have hlx := HX.out.lt
      have hlw := HX.out.ls
      go_loopw [7] (fun v wr => ∃ j : Nat, j ≤ x.ts.length ∧ v = .int .i64 j ∧ ∃ ts, Two w w3.heap.size x A1 c1 A2 c2 p q E1 e1 E2 e2 F1 f1 F2 f2 SE SF ts x.ws wr) (fun v _ => x.ts.length - (intOf v).toNat)
      case atStart => exact ⟨0, Nat.zero_le _, by go_num, x.ts, HT6.out⟩
      case round =>
        clear z0 z3 HT6
        obtain ⟨j, hj, rfl, ts, hT⟩ := hrel
        have HT := Aside0.mk hT
        have z0 := hT.bp.cell 0 _ rfl
        have z3 := hT.bp.cell 3 _ rfl
        clear hT
        by_cases hlt : j < x.ts.length
        · have hlti : (j : Int) < (x.ts.length : Int) := by omega
          obtain ⟨g, rfl, m, n3, f3, hst⟩ := HT.out.cellE hlt
          have HST := Aside0.mk hst
          clear hst
          go_wp2_with fail
          exact ⟨⟨j + 1, by omega, by go_num, HST.out _⟩, by simp [intOf]; omega⟩
        · have hlti : ¬ (j : Int) < (x.ts.length : Int) := by omega
          go_wp2_with fail
          go_loopw [8] (fun v wr => ∃ j : Nat, j ≤ x.ws.length ∧ v = .int .i64 j ∧ ∃ ts ws, (∀ k, j ≤ k → ws[k]? = x.ws[k]?) ∧ Two w w3.heap.size x A1 c1 A2 c2 p q E1 e1 E2 e2 F1 f1 F2 f2 SE SF ts ws wr) (fun v _ => x.ws.length - (intOf v).toNat)
          case atStart => exact ⟨0, Nat.zero_le _, by go_num, ts, x.ws, fun _ _ => rfl, HT.out⟩
          case round =>
            clear z0 z3 HT hlt hlti
            obtain ⟨i, hi, rfl, ts, ws, hws, hT⟩ := hrel
            have HT := Aside0.mk hT
            have z3 := hT.bp.cell 3 _ rfl
            clear hT
            by_cases hlt : i < x.ws.length
            · have hlti : (i : Int) < (x.ws.length : Int) := by omega
              obtain ⟨g, rfl, s, hs, n3d, f3d, hst⟩ := (HT.out.grow (below_drew (Below.refl _ _) : Below wr.heap.size wr wr.drew)).wordE hlt
              have n3 : wr.cell? ⟨g, i, none⟩ = some (.string s) := n3d
              have f3 : wr.frozen? ⟨g, i, none⟩ = false := f3d
              clear n3d f3d
              have hsz := HX.out.sz s (List.mem_of_getElem? ((hws i (Nat.le_refl _)).symm.trans hs))
              have HST := Aside0.mk hst
              have HWS := Aside0.mk (show ∀ s' k, i + 1 ≤ k → (ws.set i s')[k]? = x.ws[k]? from fun s' k hk => by rw [List.getElem?_set_ne (by omega)]; exact hws k (by omega))
              clear hst hws hs
              go_wp2_with fail
              go_region
              all_goals go_wp2_with fail
              all_goals exact ⟨⟨i + 1, by omega, by go_num, ts, _, HWS.out _, HST.out _⟩, by simp [intOf]; omega⟩
            · have hlti : ¬ (i : Int) < (x.ws.length : Int) := by omega
              have hT := HT.out
              have x0 := hT.ba.cell 0 _ rfl
              have x1 := hT.ba.cell 1 _ rfl
              have x2 := hT.ba.cell 2 _ rfl
              have x3 := hT.ba.cell 3 _ rfl
              have x4 := hT.ba.cell 4 _ rfl
              have x5 := hT.ba.cell 5 _ rfl
              have x6 := hT.ba.cell 6 _ rfl
              have x7 := hT.ba.cell 7 _ rfl
              have x8 := hT.ba.cell 8 _ rfl
              have x9 := hT.ba.cell 9 _ rfl
              have x10 := hT.ba.cell 10 _ rfl
              have y0 := hT.bq.cell 0 _ rfl
              have y1 := hT.bq.cell 1 _ rfl
              have y2 := hT.bq.cell 2 _ rfl
              have y3 := hT.bq.cell 3 _ rfl
              have y4 := hT.bq.cell 4 _ rfl
              have y5 := hT.bq.cell 5 _ rfl
              have y6 := hT.bq.cell 6 _ rfl
              have y7 := hT.bq.cell 7 _ rfl
              have y8 := hT.bq.cell 8 _ rfl
              have y9 := hT.bq.cell 9 _ rfl
              have y10 := hT.bq.cell 10 _ rfl
              clear hT hws
              go_wp2_with fail
              have hrs := rsame_calls F1 F2 A1 A2 f1 f2 c1 c2 x x wr (HX.out.copy HT.out.rF HT.out.sF HT.out.nF) (HX.out.below HT.out.below)
              rw [decide_eq_true rfl] at hrs
              refine hrs.mono ?_
              clear hrs
              rintro e w7 ⟨rfl, hb7⟩
              have HT7 := Aside0.mk (HT.out.grow hb7).below
              clear hb7 HT x0 x1 x2 x3 x4 x5 x6 x7 x8 x9 x10 y0 y1 y2 y3 y4 y5 y6 y7 y8 y9 y10
              go_wp2_with fail
              refine (known_calls w7).mono ?_
              rintro e w8 ⟨rfl, hb8⟩
              go_wp2_with fail
              go_ret
              exact ⟨rfl, HT7.out.trans (hb8.mono HT7.out.size)⟩
end Go.Proofs.Ytedchpflcemdkaa
