/- A text of this claim, pruned by a program of the session (prune.py) to what the theorem rests on. -/
import Derived.Test.YtedchpflcemdkaaQkGCfg
import Derived.Deep.RegionWith
import Derived.Deep.RegionLaw
import Derived.Deep.AppendLies
namespace Go.Proofs.Ytedchpflcemdkaa
open Go.RowKit Go.Proofs.YtedchpflcemdkaaW.PrintWords Go.Proofs.YtedchpflcemdkaaW.PrintLast Go.Proofs.YtedchpflcemdkaaW.PrintMore
set_option linter.unusedVariables false
set_option linter.unusedSimpArgs false
def SomeBool (w : World) (e : Ending) (w' : World) : Prop := ∃ b, e = .returned (.bool b) ∧ Below w.heap.size w w'
set_option maxRecDepth 100000 in
set_option maxHeartbeats 4000000 in
theorem much_calls (A1 A2 : Option Addr) (c1 c2 : Nat) (x : Cfg) (w : World) (hx : CfgAt w A1 A2 x) :
    Calls Try.prog 15 #[.agg (cfgL A1 c1 A2 c2 x).toArray] w (SomeBool w) := by
  have HX := Aside0.mk hx
  have hlx := hx.lt
  have hls := hx.ls
  clear hx
  unfold cfgL
  go_enter Try.func15, Try.ntmps15
  go_wp2_with fail
  refine wp_at (fun W => CfgB W w.heap.size A1 c1 A2 c2 x ∧ Below w.heap.size w W) ⟨blk_new w _, (Below.refl _ w).alloc (Nat.le_refl _) _⟩ ?_
  rintro w0 ⟨g1, hb0⟩
  have x0 := g1.cell 0 _ rfl
  have x3 := g1.cell 3 _ rfl
  have HB0 := Aside0.mk hb0
  clear g1 hb0
  go_loopw [3, 4] (fun n v wr => ∃ (m : Int) (j q : Nat), n = .int .i64 m ∧ j ≤ x.ts.length ∧ v = .int .i64 j ∧ wr = w0.drewN q) (fun _ v _ => x.ts.length - (intOf v).toNat)
  case atStart => exact ⟨0, 0, 0, by go_num, Nat.zero_le _, by go_num, rfl⟩
  case round =>
    obtain ⟨n, j, q, rfl, hj, rfl, rfl⟩ := hrel
    by_cases hlt : j < x.ts.length
    · have hlti : (j : Int) < (x.ts.length : Int) := by omega
      by_cases h20 : (j : Int) ≤ 20
      · obtain ⟨h1, o1, rfl, hg1, hc1⟩ := tgt_cells (HX.out.below HB0.out).rt (by omega)
        have hx := List.getElem?_eq_getElem hlt
        generalize x.ts[j] = u at *
        have n0 : w0.cell? ⟨h1, o1 + j * 5, none⟩ = some (.string u.job) := hc1 j u hx 0 _ rfl
        have n1 : w0.cell? ⟨h1, o1 + j * 5 + 1, none⟩ = some (.string u.host) := hc1 j u hx 1 _ rfl
        have n2 : w0.cell? ⟨h1, o1 + j * 5 + 2, none⟩ = some (.string u.path) := hc1 j u hx 2 _ rfl
        clear hc1 hx
        go_wp2_with fail
        go_quiet (fail)
        go_wp2_with fail
        exact ⟨⟨_, j + 1, _, rfl, by omega, by go_num, rfl⟩, by simp [intOf]; omega⟩
      · go_wp2_with fail
        go_loopw [3, 5] (fun n v wr => ∃ (m : Int) (j q : Nat), n = .int .i64 m ∧ j ≤ x.ws.length ∧ v = .int .i64 j ∧ wr = w0.drewN q) (fun _ v _ => x.ws.length - (intOf v).toNat)
        case atStart => exact ⟨_, 0, _, rfl, Nat.zero_le _, by go_num, rfl⟩
        case round =>
          obtain ⟨n, i, p, rfl, hi, rfl, rfl⟩ := hrel
          by_cases hlu : i < x.ws.length
          · have hlui : (i : Int) < (x.ws.length : Int) := by omega
            by_cases h30 : (i : Int) ≤ 20
            · obtain ⟨h1, o1, rfl, hg1, hc1⟩ := str_cells (HX.out.below HB0.out).rs (by omega)
              have hx := List.getElem?_eq_getElem hlu
              generalize x.ws[i] = u at *
              have n0 : w0.cell? ⟨h1, o1 + i, none⟩ = some (.string u) := hc1 i u hx
              clear hc1 hx
              go_wp2_with fail
              exact ⟨⟨_, i + 1, _, rfl, by omega, by go_num, rfl⟩, by simp [intOf]; omega⟩
            · have hh : (20 : Int) < (x.ws.length : Int) := by omega
              by_cases hg : (20 : Int) < (x.ts.length : Int)
              · go_wp2_with fail
                go_ret
                exact ⟨_, rfl, pw_below_drewN HB0.out _⟩
              · exfalso; omega
          · have hlui : ¬ (i : Int) < (x.ws.length : Int) := by omega
            by_cases hg : (20 : Int) < (x.ts.length : Int)
            · go_wp2_with fail
              go_ret
              exact ⟨_, rfl, pw_below_drewN HB0.out _⟩
            · exfalso; omega
    · have hlti : ¬ (j : Int) < (x.ts.length : Int) := by omega
      go_wp2_with fail
      go_loopw [3, 5] (fun n v wr => ∃ (m : Int) (j q : Nat), n = .int .i64 m ∧ j ≤ x.ws.length ∧ v = .int .i64 j ∧ wr = w0.drewN q) (fun _ v _ => x.ws.length - (intOf v).toNat)
      case atStart => exact ⟨_, 0, _, rfl, Nat.zero_le _, by go_num, rfl⟩
      case round =>
        obtain ⟨n, i, p, rfl, hi, rfl, rfl⟩ := hrel
        by_cases hlu : i < x.ws.length
        · have hlui : (i : Int) < (x.ws.length : Int) := by omega
          by_cases h30 : (i : Int) ≤ 20
          · obtain ⟨h1, o1, rfl, hg1, hc1⟩ := str_cells (HX.out.below HB0.out).rs (by omega)
            have hx := List.getElem?_eq_getElem hlu
            generalize x.ws[i] = u at *
            have n0 : w0.cell? ⟨h1, o1 + i, none⟩ = some (.string u) := hc1 i u hx
            clear hc1 hx
            go_wp2_with fail
            exact ⟨⟨_, i + 1, _, rfl, by omega, by go_num, rfl⟩, by simp [intOf]; omega⟩
          · have hh : (20 : Int) < (x.ws.length : Int) := by omega
            by_cases hg : (20 : Int) < (x.ts.length : Int)
            · go_wp2_with fail
              go_ret
              exact ⟨_, rfl, pw_below_drewN HB0.out _⟩
            · go_wp2_with fail
              go_ret
              exact ⟨_, rfl, pw_below_drewN HB0.out _⟩
        · have hlui : ¬ (i : Int) < (x.ws.length : Int) := by omega
          by_cases hg : (20 : Int) < (x.ts.length : Int)
          · go_wp2_with fail
            go_ret
            exact ⟨_, rfl, pw_below_drewN HB0.out _⟩
          · by_cases hh : (20 : Int) < (x.ws.length : Int)
            · go_wp2_with fail
              go_ret
              exact ⟨_, rfl, pw_below_drewN HB0.out _⟩
            · go_wp2_with fail
              go_ret
              exact ⟨_, rfl, pw_below_drewN HB0.out _⟩
theorem set11 (W : World) (p : Nat) {y0 y1 y2 y3 y4 y5 y6 y7 y8 y9 y10 : Value} {t : TypeId} (h : W.heap[p]? = some (.cells #[y0, y1, y2, y3, y4, y5, y6, y7, y8, y9, y10] t (0, 0))) (a b c d e f g h2 i j k : Value) :
    (((((((((((W.setCell ⟨p, 0, none⟩ a).setCell ⟨p, 1, none⟩ b).setCell ⟨p, 2, none⟩ c).setCell ⟨p, 3, none⟩ d).setCell ⟨p, 4, none⟩ e).setCell ⟨p, 5, none⟩ f).setCell ⟨p, 6, none⟩ g).setCell ⟨p, 7, none⟩ h2).setCell ⟨p, 8, none⟩ i).setCell ⟨p, 9, none⟩ j).setCell ⟨p, 10, none⟩ k).heap[p]? = some (.cells #[a, b, c, d, e, f, g, h2, i, j, k] t (0, 0)) := by
  have s0 : (W.setCell ⟨p, 0, none⟩ a).heap[p]? = some (.cells #[a, y1, y2, y3, y4, y5, y6, y7, y8, y9, y10] t (0, 0)) := blk_set h 0 a
  have s1 : ((W.setCell ⟨p, 0, none⟩ a).setCell ⟨p, 1, none⟩ b).heap[p]? = some (.cells #[a, b, y2, y3, y4, y5, y6, y7, y8, y9, y10] t (0, 0)) := blk_set s0 1 b
  have s2 : (((W.setCell ⟨p, 0, none⟩ a).setCell ⟨p, 1, none⟩ b).setCell ⟨p, 2, none⟩ c).heap[p]? = some (.cells #[a, b, c, y3, y4, y5, y6, y7, y8, y9, y10] t (0, 0)) := blk_set s1 2 c
  have s3 : ((((W.setCell ⟨p, 0, none⟩ a).setCell ⟨p, 1, none⟩ b).setCell ⟨p, 2, none⟩ c).setCell ⟨p, 3, none⟩ d).heap[p]? = some (.cells #[a, b, c, d, y4, y5, y6, y7, y8, y9, y10] t (0, 0)) := blk_set s2 3 d
  have s4 : (((((W.setCell ⟨p, 0, none⟩ a).setCell ⟨p, 1, none⟩ b).setCell ⟨p, 2, none⟩ c).setCell ⟨p, 3, none⟩ d).setCell ⟨p, 4, none⟩ e).heap[p]? = some (.cells #[a, b, c, d, e, y5, y6, y7, y8, y9, y10] t (0, 0)) := blk_set s3 4 e
  have s5 : ((((((W.setCell ⟨p, 0, none⟩ a).setCell ⟨p, 1, none⟩ b).setCell ⟨p, 2, none⟩ c).setCell ⟨p, 3, none⟩ d).setCell ⟨p, 4, none⟩ e).setCell ⟨p, 5, none⟩ f).heap[p]? = some (.cells #[a, b, c, d, e, f, y6, y7, y8, y9, y10] t (0, 0)) := blk_set s4 5 f
  have s6 : (((((((W.setCell ⟨p, 0, none⟩ a).setCell ⟨p, 1, none⟩ b).setCell ⟨p, 2, none⟩ c).setCell ⟨p, 3, none⟩ d).setCell ⟨p, 4, none⟩ e).setCell ⟨p, 5, none⟩ f).setCell ⟨p, 6, none⟩ g).heap[p]? = some (.cells #[a, b, c, d, e, f, g, y7, y8, y9, y10] t (0, 0)) := blk_set s5 6 g
  have s7 : ((((((((W.setCell ⟨p, 0, none⟩ a).setCell ⟨p, 1, none⟩ b).setCell ⟨p, 2, none⟩ c).setCell ⟨p, 3, none⟩ d).setCell ⟨p, 4, none⟩ e).setCell ⟨p, 5, none⟩ f).setCell ⟨p, 6, none⟩ g).setCell ⟨p, 7, none⟩ h2).heap[p]? = some (.cells #[a, b, c, d, e, f, g, h2, y8, y9, y10] t (0, 0)) := blk_set s6 7 h2
  have s8 : (((((((((W.setCell ⟨p, 0, none⟩ a).setCell ⟨p, 1, none⟩ b).setCell ⟨p, 2, none⟩ c).setCell ⟨p, 3, none⟩ d).setCell ⟨p, 4, none⟩ e).setCell ⟨p, 5, none⟩ f).setCell ⟨p, 6, none⟩ g).setCell ⟨p, 7, none⟩ h2).setCell ⟨p, 8, none⟩ i).heap[p]? = some (.cells #[a, b, c, d, e, f, g, h2, i, y9, y10] t (0, 0)) := blk_set s7 8 i
  have s9 : ((((((((((W.setCell ⟨p, 0, none⟩ a).setCell ⟨p, 1, none⟩ b).setCell ⟨p, 2, none⟩ c).setCell ⟨p, 3, none⟩ d).setCell ⟨p, 4, none⟩ e).setCell ⟨p, 5, none⟩ f).setCell ⟨p, 6, none⟩ g).setCell ⟨p, 7, none⟩ h2).setCell ⟨p, 8, none⟩ i).setCell ⟨p, 9, none⟩ j).heap[p]? = some (.cells #[a, b, c, d, e, f, g, h2, i, j, y10] t (0, 0)) := blk_set s8 9 j
  have s10 : (((((((((((W.setCell ⟨p, 0, none⟩ a).setCell ⟨p, 1, none⟩ b).setCell ⟨p, 2, none⟩ c).setCell ⟨p, 3, none⟩ d).setCell ⟨p, 4, none⟩ e).setCell ⟨p, 5, none⟩ f).setCell ⟨p, 6, none⟩ g).setCell ⟨p, 7, none⟩ h2).setCell ⟨p, 8, none⟩ i).setCell ⟨p, 9, none⟩ j).setCell ⟨p, 10, none⟩ k).heap[p]? = some (.cells #[a, b, c, d, e, f, g, h2, i, j, k] t (0, 0)) := blk_set s9 10 k
  exact s10
theorem far11 {α : Type} {dd : Kd α} {e0 base p : Nat} {ok : Nat → Prop} {v : Value} {xs : List α} {W : World} (h : dd.R e0 W base ok v xs) (hok : ∀ k, ok k → k ≠ p) (a b c d e f g h2 i j k : Value) :
    dd.R e0 (((((((((((W.setCell ⟨p, 0, none⟩ a).setCell ⟨p, 1, none⟩ b).setCell ⟨p, 2, none⟩ c).setCell ⟨p, 3, none⟩ d).setCell ⟨p, 4, none⟩ e).setCell ⟨p, 5, none⟩ f).setCell ⟨p, 6, none⟩ g).setCell ⟨p, 7, none⟩ h2).setCell ⟨p, 8, none⟩ i).setCell ⟨p, 9, none⟩ j).setCell ⟨p, 10, none⟩ k) base ok v xs :=
  (Kd.R_far (p := ⟨p, 10, none⟩) (Kd.R_far (p := ⟨p, 9, none⟩) (Kd.R_far (p := ⟨p, 8, none⟩) (Kd.R_far (p := ⟨p, 7, none⟩) (Kd.R_far (p := ⟨p, 6, none⟩) (Kd.R_far (p := ⟨p, 5, none⟩) (Kd.R_far (p := ⟨p, 4, none⟩) (Kd.R_far (p := ⟨p, 3, none⟩) (Kd.R_far (p := ⟨p, 2, none⟩) (Kd.R_far (p := ⟨p, 1, none⟩) (Kd.R_far (p := ⟨p, 0, none⟩) h hok _) hok _) hok _) hok _) hok _) hok _) hok _) hok _) hok _) hok _) hok _)
theorem belows11 {w W : World} {p B : Nat} (h : Below B w W) (hp : B ≤ p) (a b c d e f g h2 i j k : Value) : Below B w (((((((((((W.setCell ⟨p, 0, none⟩ a).setCell ⟨p, 1, none⟩ b).setCell ⟨p, 2, none⟩ c).setCell ⟨p, 3, none⟩ d).setCell ⟨p, 4, none⟩ e).setCell ⟨p, 5, none⟩ f).setCell ⟨p, 6, none⟩ g).setCell ⟨p, 7, none⟩ h2).setCell ⟨p, 8, none⟩ i).setCell ⟨p, 9, none⟩ j).setCell ⟨p, 10, none⟩ k) :=
  (Below.setCell (p := ⟨p, 10, none⟩) (Below.setCell (p := ⟨p, 9, none⟩) (Below.setCell (p := ⟨p, 8, none⟩) (Below.setCell (p := ⟨p, 7, none⟩) (Below.setCell (p := ⟨p, 6, none⟩) (Below.setCell (p := ⟨p, 5, none⟩) (Below.setCell (p := ⟨p, 4, none⟩) (Below.setCell (p := ⟨p, 3, none⟩) (Below.setCell (p := ⟨p, 2, none⟩) (Below.setCell (p := ⟨p, 1, none⟩) (Below.setCell (p := ⟨p, 0, none⟩) h hp _) hp _) hp _) hp _) hp _) hp _) hp _) hp _) hp _) hp _) hp _)
theorem ex_at {Q : Exit → Act → World → Prop} {e : Exit} {a : Act} {w : World} (p : World → Prop) (hp : p w) (h : ∀ w', p w' → Q e a w') : Q e a w := h w hp
theorem iso_none {A B : Option Addr} {n c : Nat} (h : (Value.slice B n c).ownBlock = none ↔ A = none) : B.isNone = A.isNone := by
  cases B with
  | none => rw [h.1 rfl]
  | some b =>
    cases A with
    | none => exact absurd (h.2 rfl) (by simp [Value.ownBlock])
    | some a => rfl
def CopyOf (w : World) (A2 : Option Addr) (x : Cfg) (e : Ending) (w' : World) : Prop :=
  ∃ B1 d1 B2 d2, e = .returned (.agg (cfgL B1 d1 B2 d2 x).toArray) ∧ kT.R 23 w' w.heap.size (fun _ => True) (.slice B1 x.ts.length d1) x.ts ∧ Kd.string.R 9 w' w.heap.size (fun _ => True) (.slice B2 x.ws.length d2) x.ws ∧ B2.isNone = A2.isNone ∧ Below w.heap.size w w'
set_option maxRecDepth 100000 in
set_option maxHeartbeats 4000000 in
theorem copy_calls (A1 A2 : Option Addr) (c1 c2 : Nat) (x : Cfg) (w : World) (hx : CfgAt w A1 A2 x) :
    Calls Try.prog 18 #[.agg (cfgL A1 c1 A2 c2 x).toArray] w (CopyOf w A2 x) := by
  have hT := fun W hb => cloneT_calls A1 c1 x.ts W (hx.below hb).rt hx.lt
  have hS := fun W hb => cloneS_calls A2 c2 x.ws W (hx.below hb).rs hx.ls
  clear hx
  unfold cfgL
  go_enter Try.func18, Try.ntmps18
  go_wp2_with fail
  refine wp_at (fun W => CfgB W w.heap.size A1 c1 A2 c2 x ∧ W.heap[w.heap.size + 1]? = some (.cells #[.slice none 0 0, .int .i64 0, .int .i64 0, .slice none 0 0, .int .i64 0, .int .i64 0, .int .i64 0, .int .i64 0, .int .i64 0, .int .i64 0, .int .i64 0] 38 (0, 0)) ∧ Below w.heap.size w W) ⟨blk_alloc (blk_new w _) _, by have := blk_new (w.alloc (.cells (cfgL A1 c1 A2 c2 x).toArray 38)) (.cells #[.slice none 0 0, .int .i64 0, .int .i64 0, .slice none 0 0, .int .i64 0, .int .i64 0, .int .i64 0, .int .i64 0, .int .i64 0, .int .i64 0, .int .i64 0] 38); rwa [World.size_alloc] at this, ((Below.refl _ w).alloc (Nat.le_refl _) _).alloc (by simp) _⟩ ?_
  rintro w0 ⟨g1, g2, hb0⟩
  have x0 := g1.cell 0 _ rfl
  have x3 := g1.cell 3 _ rfl
  have HB0 := Aside0.mk hb0
  have G1 := Aside0.mk g1
  have G2 := Aside0.mk g2
  clear hb0 g1 g2
  go_region_law (first
    | (go_simp; go_at_call 27; refine (hT _ (by first | exact HB0.out | exact below_drew1 HB0.out)).mono ?_; rintro e w1 ⟨v1, rfl, hR1, hb1, hn1⟩; obtain ⟨B1, d1, rfl⟩ := Kd.R_slice hR1; have k3 := pw_cell_below hb1 x3; have HB1 := Aside0.mk ((below_drew1 HB0.out).trans (hb1.mono (below_drew1 HB0.out).size)); have HR1 := Aside0.mk hR1; have G11 := Aside0.mk (blk_below (blk_drew G1.out) hb1); have G12 := Aside0.mk (blk_below (blk_drew G2.out) hb1); clear hR1 hn1 hb1)
    | (go_simp; go_at_call 28; refine (hS _ HB1.out).mono ?_; rintro e w2 ⟨v2, rfl, hR2, hb2, hn2⟩; obtain ⟨B2, d2, rfl⟩ := Kd.R_slice hR2; have g3 : CfgB w2 w.heap.size A1 c1 A2 c2 x := blk_below G11.out hb2; have j0 := g3.cell 0 _ rfl; have j3 := g3.cell 3 _ rfl; have fz0 := blk_frozen g3 0; have fz3 := blk_frozen g3 3; have HB2 := Aside0.mk (HB1.out.trans (hb2.mono HB1.out.size)); have HR2 := Aside0.mk hR2; have HN2 := Aside0.mk hn2; have HB2' := Aside0.mk hb2; have G3 := Aside0.mk g3; clear hR2 hn2 hb2 g3))
  all_goals
    have hsz1 := HB1.out.size
    have hbz : w.heap.size < w2.heap.size := blk_lt G3.out
    have hz0 : w0.heap.size = w0.drew.heap.size := rfl
    have hb0z : w.heap.size + 1 < w0.heap.size := blk_lt G2.out
    refine ex_at (fun W => CfgB W w.heap.size B1 d1 B2 d2 x ∧ W.heap[w.heap.size + 1]? = some (.cells #[.slice none 0 0, .int .i64 0, .int .i64 0, .slice none 0 0, .int .i64 0, .int .i64 0, .int .i64 0, .int .i64 0, .int .i64 0, .int .i64 0, .int .i64 0] 38 (0, 0)) ∧ Below w.heap.size w W ∧ kT.R 23 W w0.heap.size (fun _ => True) (.slice B1 x.ts.length d1) x.ts ∧ Kd.string.R 9 W w1.heap.size (fun _ => True) (.slice B2 x.ws.length d2) x.ws)
      ⟨blk_put (blk_put G3.out 0 _ rfl) 3 _ rfl, blk_far (blk_far (blk_below G12.out HB2'.out) (by simp) _) (by simp) _, (HB2.out.setCell (p := ⟨_, 0, none⟩) (Nat.le_refl _) _).setCell (p := ⟨_, 3, none⟩) (Nat.le_refl _) _,
       Kd.R_mono (Kd.R_far (p := ⟨w.heap.size, 3, none⟩) (Kd.R_far (p := ⟨w.heap.size, 0, none⟩) (Kd.R_bound (Kd.R_below HR1.out HB2'.out)) (fun k hk => by have := hk.2.1; show k ≠ w.heap.size; omega) _) (fun k hk => by have := hk.2.1; show k ≠ w.heap.size; omega) _) (fun _ _ => trivial),
       Kd.R_mono (Kd.R_far (p := ⟨w.heap.size, 3, none⟩) (Kd.R_far (p := ⟨w.heap.size, 0, none⟩) (Kd.R_bound HR2.out) (fun k hk => by have := hk.2.1; have := HB2'.out.size; have := blk_lt G11.out; show k ≠ w.heap.size; omega) _) (fun k hk => by have := hk.2.1; have := blk_lt G11.out; show k ≠ w.heap.size; omega) _) (fun _ _ => trivial)⟩ ?_
    rintro w3 ⟨g1, g2, hb3, hr1, hr2⟩
    have HB3 := Aside0.mk hb3
    have HQ1 := Aside0.mk hr1
    have HQ2 := Aside0.mk hr2
    clear hb3 hr1 hr2 j0 j3 fz0 fz3 k3 x0 x3 hT hS
    have G33 := Aside0.mk g1
    have z0 := g1.cell 0 _ rfl
    have z1 := g1.cell 1 _ rfl
    have z2 := g1.cell 2 _ rfl
    have z3 := g1.cell 3 _ rfl
    have z4 := g1.cell 4 _ rfl
    have z5 := g1.cell 5 _ rfl
    have z6 := g1.cell 6 _ rfl
    have z7 := g1.cell 7 _ rfl
    have z8 := g1.cell 8 _ rfl
    have z9 := g1.cell 9 _ rfl
    have z10 := g1.cell 10 _ rfl
    have y0 := (blk_cell g2 0).trans (show _ = some (Value.slice none 0 0 ) from rfl)
    have y1 := (blk_cell g2 1).trans (show _ = some (Value.int .i64 0) from rfl)
    have y2 := (blk_cell g2 2).trans (show _ = some (Value.int .i64 0) from rfl)
    have y3 := (blk_cell g2 3).trans (show _ = some (Value.slice none 0 0 ) from rfl)
    have y4 := (blk_cell g2 4).trans (show _ = some (Value.int .i64 0) from rfl)
    have y5 := (blk_cell g2 5).trans (show _ = some (Value.int .i64 0) from rfl)
    have y6 := (blk_cell g2 6).trans (show _ = some (Value.int .i64 0) from rfl)
    have y7 := (blk_cell g2 7).trans (show _ = some (Value.int .i64 0) from rfl)
    have y8 := (blk_cell g2 8).trans (show _ = some (Value.int .i64 0) from rfl)
    have y9 := (blk_cell g2 9).trans (show _ = some (Value.int .i64 0) from rfl)
    have y10 := (blk_cell g2 10).trans (show _ = some (Value.int .i64 0) from rfl)
    have f0 := blk_frozen g2 0
    have f1 := blk_frozen g2 1
    have f2 := blk_frozen g2 2
    have f3 := blk_frozen g2 3
    have f4 := blk_frozen g2 4
    have f5 := blk_frozen g2 5
    have f6 := blk_frozen g2 6
    have f7 := blk_frozen g2 7
    have f8 := blk_frozen g2 8
    have f9 := blk_frozen g2 9
    have f10 := blk_frozen g2 10
    have G22 := Aside0.mk g2
    clear g1 g2
    go_wp2_with fail
    refine bp_at (fun W => W.heap[w.heap.size + 1]? = some (.cells (cfgL B1 d1 B2 d2 x).toArray 38 (0, 0)) ∧ Below w.heap.size w W ∧ kT.R 23 W w.heap.size (fun _ => True) (.slice B1 x.ts.length d1) x.ts ∧ Kd.string.R 9 W w.heap.size (fun _ => True) (.slice B2 x.ws.length d2) x.ws)
      ⟨set11 _ _ G22.out _ _ _ _ _ _ _ _ _ _ _, belows11 HB3.out (Nat.le_succ _) _ _ _ _ _ _ _ _ _ _ _,
       Kd.R_lower (Kd.R_mono (far11 (Kd.R_bound HQ1.out) (fun k hk => by have := hk.2.1; omega) _ _ _ _ _ _ _ _ _ _ _) (fun _ _ => trivial)) (by omega),
       Kd.R_lower (Kd.R_mono (far11 (Kd.R_bound HQ2.out) (fun k hk => by have := hk.2.1; have := blk_lt G12.out; omega) _ _ _ _ _ _ _ _ _ _ _) (fun _ _ => trivial)) (by omega)⟩ ?_
    rintro w4 ⟨g4, hb4, hq1, hq2⟩
    have HB4 := Aside0.mk hb4
    have HQ3 := Aside0.mk hq1
    have HQ4 := Aside0.mk hq2
    have G4 := Aside0.mk g4
    have v0 := (blk_cell g4 0).trans (show _ = some (Value.slice B1 x.ts.length d1) from rfl)
    have v1 := (blk_cell g4 1).trans (show _ = some (Value.int .i64 x.win) from rfl)
    have v2 := (blk_cell g4 2).trans (show _ = some (Value.int .i64 x.late) from rfl)
    have v3 := (blk_cell g4 3).trans (show _ = some (Value.slice B2 x.ws.length d2) from rfl)
    have v4 := (blk_cell g4 4).trans (show _ = some (Value.int .i64 x.ser) from rfl)
    have v5 := (blk_cell g4 5).trans (show _ = some (Value.int .i64 x.wins) from rfl)
    have v6 := (blk_cell g4 6).trans (show _ = some (Value.int .i64 x.que) from rfl)
    have v7 := (blk_cell g4 7).trans (show _ = some (Value.int .i64 x.con) from rfl)
    have v8 := (blk_cell g4 8).trans (show _ = some (Value.int .i64 x.bod) from rfl)
    have v9 := (blk_cell g4 9).trans (show _ = some (Value.int .i64 x.bas) from rfl)
    have v10 := (blk_cell g4 10).trans (show _ = some (Value.int .i64 x.mos) from rfl)
    clear g4 hb4 hq1 hq2 HQ1 HQ2 HB3 G33 G22 y0 f0 z0 y1 f1 z1 y2 f2 z2 y3 f3 z3 y4 f4 z4 y5 f5 z5 y6 f6 z6 y7 f7 z7 y8 f8 z8 y9 f9 z9 y10 f10 z10
    refine bodyPost_ret (v := .agg (cfgL B1 d1 B2 d2 x).toArray) ?_ rfl ?_
    · simp [results, Try.f18, go_sem, cfgL, v0, v1, v2, v3, v4, v5, v6, v7, v8, v9, v10]
    · exact ⟨B1, d1, B2, d2, rfl, HQ3.out, HQ4.out, iso_none HN2.out, HB4.out⟩
end Go.Proofs.Ytedchpflcemdkaa
