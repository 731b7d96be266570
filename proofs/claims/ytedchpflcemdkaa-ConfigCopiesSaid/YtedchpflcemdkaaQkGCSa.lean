/- A text of this claim, pruned by a program of the session (prune.py) to what the theorem rests on. -/
import Derived.Test.YtedchpflcemdkaaQkGCfg
namespace Go.Proofs.Ytedchpflcemdkaa
open Go.RowKit Go.Proofs.YtedchpflcemdkaaW.PrintWords Go.Proofs.YtedchpflcemdkaaW.PrintLast Go.Proofs.YtedchpflcemdkaaW.PrintMore
set_option linter.unusedVariables false
set_option linter.unusedSimpArgs false
set_option maxRecDepth 100000 in
set_option maxHeartbeats 8000000 in
theorem same_calls (A1 A2 B1 B2 : Option Addr) (c1 c2 d1 d2 : Nat) (x y : Cfg) (w : World) (hx : CfgAt w A1 A2 x) (hy : CfgAt w B1 B2 y) :
    Calls Try.prog 16 #[.agg (cfgL A1 c1 A2 c2 x).toArray, .agg (cfgL B1 d1 B2 d2 y).toArray] w fun e w' => e = .returned (.bool (decide (x = y))) ∧ Below w.heap.size w w' := by
  have q36 : ∀ (w : World) (a : Option Addr) (n c n' c' : Nat), (binOp .eql 36 (.slice a n c) (.slice none n' c')).run Try.prog w = .ok (.bool a.isNone) w := fun w a n c n' c' => Lib.run_eql_slice_nil w _ _ a n c n' c' Try.underlying36
  rw [← cfg_beq]
  have hT := fun W hb => equalT_calls A1 B1 c1 d1 x.ts y.ts W (hx.below hb).rt (hy.below hb).rt (by have := hx.lt; omega)
  have hS := fun W hb => equalS_calls A2 B2 c2 d2 x.ws y.ws W (hx.below hb).rs (hy.below hb).rs (by have := hx.ls; omega)
  have hN : (x.no == y.no) = (A2.isNone == B2.isNone) := by rw [hx.no, hy.no]
  rw [hN]
  have HS := Aside0.mk hS
  clear hx hy hN hS
  generalize hR : ((decide (x.ts = y.ts) && decide (x.ws = y.ws) && (A2.isNone == B2.isNone)) && ((x.win == y.win) && (x.late == y.late) && (x.bas == y.bas) && (x.mos == y.mos)) && (x.ser == y.ser) && (x.wins == y.wins) && (x.que == y.que) && (x.con == y.con) && (x.bod == y.bod)) = r
  have HR := Aside0.mk hR
  clear hR
  unfold cfgL
  go_enter Try.func16, Try.ntmps16
  go_wp2_with fail
  refine (hT _ (((Below.refl _ w).alloc (Nat.le_refl _) _).alloc (by simp) _)).mono ?_
  rintro e w1 ⟨rfl, hb1⟩
  have g1 : CfgB w1 w.heap.size A1 c1 A2 c2 x := blk_below (blk_alloc (blk_new w _) _) hb1
  have g2 : CfgB w1 (w.heap.size + 1) B1 d1 B2 d2 y := blk_below (by have := blk_new (w.alloc (.cells (cfgL A1 c1 A2 c2 x).toArray 38)) (.cells (cfgL B1 d1 B2 d2 y).toArray 38); rwa [World.size_alloc] at this) hb1
  have HB1 : Aside0 (Below w.heap.size w w1) := ⟨(((Below.refl _ w).alloc (Nat.le_refl _) _).alloc (by simp) _).trans (hb1.mono (by simp; omega))⟩
  clear hb1 hT
  have x0 := g1.cell 0 _ rfl
  have x1 := g1.cell 1 _ rfl
  have x2 := g1.cell 2 _ rfl
  have x3 := g1.cell 3 _ rfl
  have x4 := g1.cell 4 _ rfl
  have x5 := g1.cell 5 _ rfl
  have x6 := g1.cell 6 _ rfl
  have x7 := g1.cell 7 _ rfl
  have x8 := g1.cell 8 _ rfl
  have x9 := g1.cell 9 _ rfl
  have x10 := g1.cell 10 _ rfl
  have y0 := g2.cell 0 _ rfl
  have y1 := g2.cell 1 _ rfl
  have y2 := g2.cell 2 _ rfl
  have y3 := g2.cell 3 _ rfl
  have y4 := g2.cell 4 _ rfl
  have y5 := g2.cell 5 _ rfl
  have y6 := g2.cell 6 _ rfl
  have y7 := g2.cell 7 _ rfl
  have y8 := g2.cell 8 _ rfl
  have y9 := g2.cell 9 _ rfl
  have y10 := g2.cell 10 _ rfl
  cases e1 : decide (x.ts = y.ts) with
  | false =>
    cases q0 : (x.win == y.win) with
    | false =>
      go_wp2_with fail
      go_ret
      exact ⟨by rw [← HR.out]; simp [e1, q0], HB1.out⟩
    | true =>
      cases q1 : (x.late == y.late) with
      | false =>
        go_wp2_with fail
        go_ret
        exact ⟨by rw [← HR.out]; simp [e1, q0, q1], HB1.out⟩
      | true =>
        cases q2 : (x.bas == y.bas) with
        | false =>
          go_wp2_with fail
          go_ret
          exact ⟨by rw [← HR.out]; simp [e1, q0, q1, q2], HB1.out⟩
        | true =>
          cases q3 : (x.mos == y.mos) with
          | false =>
            go_wp2_with fail
            go_ret
            exact ⟨by rw [← HR.out]; simp [e1, q0, q1, q2, q3], HB1.out⟩
          | true =>
            go_wp2_with fail
            go_ret
            exact ⟨by rw [← HR.out]; simp [e1, q0, q1, q2, q3], HB1.out⟩
  | true =>
    go_wp2_with fail
    refine (HS.out _ HB1.out).mono ?_
    rintro e w2 ⟨rfl, hb2⟩
    have g12 := g1.below hb2
    have g22 := g2.below hb2
    have HB2 : Aside0 (Below w.heap.size w w2) := ⟨HB1.out.trans (hb2.mono HB1.out.size)⟩
    clear hb2 g1 g2 x0 y0 x1 y1 x2 y2 x3 y3 x4 y4 x5 y5 x6 y6 x7 y7 x8 y8 x9 y9 x10 y10
    have x0 := g12.cell 0 _ rfl
    have x1 := g12.cell 1 _ rfl
    have x2 := g12.cell 2 _ rfl
    have x3 := g12.cell 3 _ rfl
    have x4 := g12.cell 4 _ rfl
    have x5 := g12.cell 5 _ rfl
    have x6 := g12.cell 6 _ rfl
    have x7 := g12.cell 7 _ rfl
    have x8 := g12.cell 8 _ rfl
    have x9 := g12.cell 9 _ rfl
    have x10 := g12.cell 10 _ rfl
    have y0 := g22.cell 0 _ rfl
    have y1 := g22.cell 1 _ rfl
    have y2 := g22.cell 2 _ rfl
    have y3 := g22.cell 3 _ rfl
    have y4 := g22.cell 4 _ rfl
    have y5 := g22.cell 5 _ rfl
    have y6 := g22.cell 6 _ rfl
    have y7 := g22.cell 7 _ rfl
    have y8 := g22.cell 8 _ rfl
    have y9 := g22.cell 9 _ rfl
    have y10 := g22.cell 10 _ rfl
    cases e2 : decide (x.ws = y.ws) with
    | false =>
      cases q0 : (x.win == y.win) with
      | false =>
        go_wp2_with fail
        go_ret
        exact ⟨by rw [← HR.out]; simp [e1, e2, q0], HB2.out⟩
      | true =>
        cases q1 : (x.late == y.late) with
        | false =>
          go_wp2_with fail
          go_ret
          exact ⟨by rw [← HR.out]; simp [e1, e2, q0, q1], HB2.out⟩
        | true =>
          cases q2 : (x.bas == y.bas) with
          | false =>
            go_wp2_with fail
            go_ret
            exact ⟨by rw [← HR.out]; simp [e1, e2, q0, q1, q2], HB2.out⟩
          | true =>
            cases q3 : (x.mos == y.mos) with
            | false =>
              go_wp2_with fail
              go_ret
              exact ⟨by rw [← HR.out]; simp [e1, e2, q0, q1, q2, q3], HB2.out⟩
            | true =>
              go_wp2_with fail
              go_ret
              exact ⟨by rw [← HR.out]; simp [e1, e2, q0, q1, q2, q3], HB2.out⟩
    | true =>
      cases e3 : (A2.isNone == B2.isNone) with
      | false =>
        cases q0 : (x.win == y.win) with
        | false =>
          go_wp2_with fail
          go_ret
          exact ⟨by rw [← HR.out]; simp [e1, e2, e3, q0], HB2.out⟩
        | true =>
          cases q1 : (x.late == y.late) with
          | false =>
            go_wp2_with fail
            go_ret
            exact ⟨by rw [← HR.out]; simp [e1, e2, e3, q0, q1], HB2.out⟩
          | true =>
            cases q2 : (x.bas == y.bas) with
            | false =>
              go_wp2_with fail
              go_ret
              exact ⟨by rw [← HR.out]; simp [e1, e2, e3, q0, q1, q2], HB2.out⟩
            | true =>
              cases q3 : (x.mos == y.mos) with
              | false =>
                go_wp2_with fail
                go_ret
                exact ⟨by rw [← HR.out]; simp [e1, e2, e3, q0, q1, q2, q3], HB2.out⟩
              | true =>
                go_wp2_with fail
                go_ret
                exact ⟨by rw [← HR.out]; simp [e1, e2, e3, q0, q1, q2, q3], HB2.out⟩
      | true =>
        cases q0 : (x.win == y.win) with
        | false =>
          go_wp2_with fail
          go_ret
          exact ⟨by rw [← HR.out]; simp [e1, e2, e3, q0], HB2.out⟩
        | true =>
          cases q1 : (x.late == y.late) with
          | false =>
            go_wp2_with fail
            go_ret
            exact ⟨by rw [← HR.out]; simp [e1, e2, e3, q0, q1], HB2.out⟩
          | true =>
            cases q2 : (x.bas == y.bas) with
            | false =>
              go_wp2_with fail
              go_ret
              exact ⟨by rw [← HR.out]; simp [e1, e2, e3, q0, q1, q2], HB2.out⟩
            | true =>
              cases q3 : (x.mos == y.mos) with
              | false =>
                go_wp2_with fail
                go_ret
                exact ⟨by rw [← HR.out]; simp [e1, e2, e3, q0, q1, q2, q3], HB2.out⟩
              | true =>
                cases q4 : (x.ser == y.ser) with
                | false =>
                  go_wp2_with fail
                  go_ret
                  exact ⟨by rw [← HR.out]; simp [e1, e2, e3, q0, q1, q2, q3, q4], HB2.out⟩
                | true =>
                  cases q5 : (x.wins == y.wins) with
                  | false =>
                    go_wp2_with fail
                    go_ret
                    exact ⟨by rw [← HR.out]; simp [e1, e2, e3, q0, q1, q2, q3, q4, q5], HB2.out⟩
                  | true =>
                    cases q6 : (x.que == y.que) with
                    | false =>
                      go_wp2_with fail
                      go_ret
                      exact ⟨by rw [← HR.out]; simp [e1, e2, e3, q0, q1, q2, q3, q4, q5, q6], HB2.out⟩
                    | true =>
                      cases q7 : (x.con == y.con) with
                      | false =>
                        go_wp2_with fail
                        go_ret
                        exact ⟨by rw [← HR.out]; simp [e1, e2, e3, q0, q1, q2, q3, q4, q5, q6, q7], HB2.out⟩
                      | true =>
                        cases q8 : (x.bod == y.bod) with
                        | false =>
                          go_wp2_with fail
                          go_ret
                          exact ⟨by rw [← HR.out]; simp [e1, e2, e3, q0, q1, q2, q3, q4, q5, q6, q7, q8], HB2.out⟩
                        | true =>
                          go_wp2_with fail
                          go_ret
                          exact ⟨by rw [← HR.out]; simp [e1, e2, e3, q0, q1, q2, q3, q4, q5, q6, q7, q8], HB2.out⟩
end Go.Proofs.Ytedchpflcemdkaa
