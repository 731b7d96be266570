/- A text of this claim, pruned by a program of the session (prune.py) to what the theorem rests on. -/
import Derived.Test.YtedchpflcemdkaaQkGCfg
namespace Go.Proofs.Ytedchpflcemdkaa
open Go.RowKit Go.Proofs.YtedchpflcemdkaaW.PrintWords Go.Proofs.YtedchpflcemdkaaW.PrintLast Go.Proofs.YtedchpflcemdkaaW.PrintMore
set_option linter.unusedVariables false
set_option linter.unusedSimpArgs false
theorem ne_of_part {x y : Cfg} (h : x.ts ≠ y.ts ∨ x.ws ≠ y.ws ∨ x.no ≠ y.no ∨ x.win ≠ y.win ∨ x.late ≠ y.late ∨ x.ser ≠ y.ser ∨ x.wins ≠ y.wins ∨ x.que ≠ y.que ∨ x.con ≠ y.con ∨ x.bod ≠ y.bod ∨ x.bas ≠ y.bas ∨ x.mos ≠ y.mos) : decide (x = y) = false :=
  decide_eq_false fun e => by subst e; simp at h
set_option maxRecDepth 100000 in
set_option maxHeartbeats 8000000 in
theorem rsame_calls (A1 A2 B1 B2 : Option Addr) (c1 c2 d1 d2 : Nat) (x y : Cfg) (w : World) (hx : CfgAt w A1 A2 x) (hy : CfgAt w B1 B2 y) :
    Calls Try.prog 17 #[.agg (cfgL A1 c1 A2 c2 x).toArray, .agg (cfgL B1 d1 B2 d2 y).toArray] w fun e w' => e = .returned (.bool (decide (x = y))) ∧ Below w.heap.size w w' := by
  have q36 : ∀ (w : World) (a : Option Addr) (n c n' c' : Nat), (binOp .eql 36 (.slice a n c) (.slice none n' c')).run Try.prog w = .ok (.bool a.isNone) w := fun w a n c n' c' => Lib.run_eql_slice_nil w _ _ a n c n' c' Try.underlying36
  have HX := Aside0.mk hx
  have HY := Aside0.mk hy
  have hlx := hx.lt
  have hlsx := hx.ls
  have hly := hy.lt
  have hlsy := hy.ls
  clear hx hy
  generalize hR : decide (x = y) = r
  have HR := Aside0.mk hR
  clear hR
  unfold cfgL
  by_cases e1 : x.ts.length = y.ts.length
  · have E1 := Aside0.mk e1
    have e1i : ((x.ts.length : Int) != (y.ts.length : Int)) = false := by simp; omega
    by_cases e2 : x.ws.length = y.ws.length
    · have E2 := Aside0.mk e2
      have e2i : ((x.ws.length : Int) != (y.ws.length : Int)) = false := by simp; omega
      cases e3 : (A2.isNone == B2.isNone) with
      | true =>
        clear e1 e2
        go_enter Try.func17, Try.ntmps17
        go_wp2_with fail
        refine wp_at (fun W => CfgB W w.heap.size A1 c1 A2 c2 x ∧ CfgB W (w.heap.size + 1) B1 d1 B2 d2 y ∧ Below w.heap.size w W) ⟨blk_alloc (blk_new w _) _, by have := blk_new (w.alloc (.cells (cfgL A1 c1 A2 c2 x).toArray 38)) (.cells (cfgL B1 d1 B2 d2 y).toArray 38); rwa [World.size_alloc] at this, (((Below.refl _ w).alloc (Nat.le_refl _) _).alloc (by simp) _)⟩ ?_
        rintro w0 ⟨g1, g2, hb0⟩
        have x0 := g1.cell 0 _ rfl
        have x1 := g1.cell 1 _ rfl
        have x2 := g1.cell 2 _ rfl
        have x3 := g1.cell 3 _ rfl
        have x4 := g1.cell 4 _ rfl
        have x5 := g1.cell 5 _ rfl
        have x6 := g1.cell 6 _ rfl
        have x7 := g1.cell 7 _ rfl
        have x8 := g1.cell 8 _ rfl
        have x9 := g1.cell 9 _ rfl
        have x10 := g1.cell 10 _ rfl
        have y0 := g2.cell 0 _ rfl
        have y1 := g2.cell 1 _ rfl
        have y2 := g2.cell 2 _ rfl
        have y3 := g2.cell 3 _ rfl
        have y4 := g2.cell 4 _ rfl
        have y5 := g2.cell 5 _ rfl
        have y6 := g2.cell 6 _ rfl
        have y7 := g2.cell 7 _ rfl
        have y8 := g2.cell 8 _ rfl
        have y9 := g2.cell 9 _ rfl
        have y10 := g2.cell 10 _ rfl
        have HB0 := Aside0.mk hb0
        clear g1 g2 hb0
        skip
        go_loopw [5] (fun v wr => ∃ j q : Nat, j ≤ x.ts.length ∧ v = .int .i64 j ∧ wr = w0.drewN q ∧ Aside0 (x.ts.take j = y.ts.take j)) (fun v _ => x.ts.length - (intOf v).toNat)
        case atStart => exact ⟨0, 0, Nat.zero_le _, by go_num, rfl, ⟨rfl⟩⟩
        case round =>
          obtain ⟨j, q, hj, rfl, rfl, hT⟩ := hrel
          by_cases hlt : j < x.ts.length
          · have hlti : (j : Int) < (x.ts.length : Int) := by omega
            have hlty : j < y.ts.length := by have := E1.out; omega
            obtain ⟨h1, o1, rfl, hg1, hc1⟩ := tgt_cells (HX.out.below HB0.out).rt (by omega)
            obtain ⟨h2, o2, rfl, hg2, hc2⟩ := tgt_cells (HY.out.below HB0.out).rt (by omega)
            have hx := List.getElem?_eq_getElem hlt
            have hy := List.getElem?_eq_getElem hlty
            have tx : x.ts.take (j + 1) = x.ts.take j ++ [x.ts[j]] := List.take_succ_eq_append_getElem hlt
            have ty : y.ts.take (j + 1) = y.ts.take j ++ [y.ts[j]] := List.take_succ_eq_append_getElem hlty
            generalize x.ts[j] = u at *
            generalize y.ts[j] = v at *
            have n0 : w0.cell? ⟨h1, o1 + j * 5, none⟩ = some (.string u.job) := hc1 j u hx 0 _ rfl
            have n1 : w0.cell? ⟨h1, o1 + j * 5 + 1, none⟩ = some (.string u.host) := hc1 j u hx 1 _ rfl
            have n2 : w0.cell? ⟨h1, o1 + j * 5 + 2, none⟩ = some (.string u.path) := hc1 j u hx 2 _ rfl
            have n3 : w0.cell? ⟨h1, o1 + j * 5 + 3, none⟩ = some (.int .i64 u.iv) := hc1 j u hx 3 _ rfl
            have n4 : w0.cell? ⟨h1, o1 + j * 5 + 4, none⟩ = some (.int .i64 u.tm) := hc1 j u hx 4 _ rfl
            have z0 : w0.cell? ⟨h2, o2 + j * 5, none⟩ = some (.string v.job) := hc2 j v hy 0 _ rfl
            have z1 : w0.cell? ⟨h2, o2 + j * 5 + 1, none⟩ = some (.string v.host) := hc2 j v hy 1 _ rfl
            have z2 : w0.cell? ⟨h2, o2 + j * 5 + 2, none⟩ = some (.string v.path) := hc2 j v hy 2 _ rfl
            have z3 : w0.cell? ⟨h2, o2 + j * 5 + 3, none⟩ = some (.int .i64 v.iv) := hc2 j v hy 3 _ rfl
            have z4 : w0.cell? ⟨h2, o2 + j * 5 + 4, none⟩ = some (.int .i64 v.tm) := hc2 j v hy 4 _ rfl
            have hneq := fun W => tgt_neq u v W
            have TX := Aside0.mk tx
            have TY := Aside0.mk ty
            have KX := Aside0.mk hx
            have KY := Aside0.mk hy
            clear hc1 hc2 hx hy tx ty
            by_cases e : u = v
            · rw [decide_eq_true e, Bool.not_true] at hneq
              have HE := Aside0.mk e
              clear e
              go_wp2_with fail
              go_quiet (fail)
              go_wp2_with fail
              exact ⟨⟨j + 1, _, by omega, by go_num, rfl, ⟨by rw [TX.out, TY.out, hT.out, HE.out]⟩⟩, by simp [intOf]; omega⟩
            · rw [decide_eq_false e, Bool.not_false] at hneq
              have HE := Aside0.mk (ne_of_part (x := x) (y := y) (.inl (fun e2 => e (by have h9 := KX.out; rw [e2, KY.out] at h9; exact (Option.some.inj h9).symm))))
              clear e
              go_wp2_with fail
              go_quiet (fail)
              go_wp2_with fail
              go_ret
              exact ⟨by rw [← HR.out, HE.out]; rfl, pw_below_drewN (pw_below_drewN HB0.out _) _⟩
          · have hje : j = x.ts.length := by omega
            have hlti : ¬ (j : Int) < (x.ts.length : Int) := by omega
            have HT : Aside0 (x.ts = y.ts) := ⟨by have h9 := hT.out; rw [hje, List.take_length, E1.out, List.take_length] at h9; exact h9⟩
            clear hje hT
            go_wp2_with fail
            go_loopw [6] (fun v wr => ∃ j q : Nat, j ≤ x.ws.length ∧ v = .int .i64 j ∧ wr = w0.drewN q ∧ Aside0 (x.ws.take j = y.ws.take j)) (fun v _ => x.ws.length - (intOf v).toNat)
            case atStart => exact ⟨0, _, Nat.zero_le _, by go_num, rfl, ⟨rfl⟩⟩
            case round =>
              obtain ⟨i, p, hi, rfl, rfl, hT⟩ := hrel
              by_cases hlt : i < x.ws.length
              · have hltj : (i : Int) < (x.ws.length : Int) := by omega
                have hlty : i < y.ws.length := by have := E2.out; omega
                obtain ⟨h1, o1, rfl, hg1, hc1⟩ := str_cells (HX.out.below HB0.out).rs (by omega)
                obtain ⟨h2, o2, rfl, hg2, hc2⟩ := str_cells (HY.out.below HB0.out).rs (by omega)
                have hx := List.getElem?_eq_getElem hlt
                have hy := List.getElem?_eq_getElem hlty
                have tx : x.ws.take (i + 1) = x.ws.take i ++ [x.ws[i]] := List.take_succ_eq_append_getElem hlt
                have ty : y.ws.take (i + 1) = y.ws.take i ++ [y.ws[i]] := List.take_succ_eq_append_getElem hlty
                generalize x.ws[i] = u at *
                generalize y.ws[i] = v at *
                have n0 : w0.cell? ⟨h1, o1 + i, none⟩ = some (.string u) := hc1 i u hx
                have z0 : w0.cell? ⟨h2, o2 + i, none⟩ = some (.string v) := hc2 i v hy
                have TX := Aside0.mk tx
                have TY := Aside0.mk ty
                have KX := Aside0.mk hx
                have KY := Aside0.mk hy
                clear hc1 hc2 hx hy tx ty
                by_cases e : u = v
                · have he2 : (u.toList == v.toList) = true := by rw [e]; simp
                  have HE := Aside0.mk e
                  clear e
                  go_wp2_with fail
                  go_quiet (fail)
                  go_wp2_with fail
                  exact ⟨⟨i + 1, _, by omega, by go_num, rfl, ⟨by rw [TX.out, TY.out, hT.out, HE.out]⟩⟩, by simp [intOf]; omega⟩
                · have he2 : (u.toList == v.toList) = false := by simpa using fun e2 => e (tl_inj e2)
                  have HE := Aside0.mk (ne_of_part (x := x) (y := y) (.inr (.inl (fun e2 => e (by have h9 := KX.out; rw [e2, KY.out] at h9; exact (Option.some.inj h9).symm)))))
                  clear e
                  go_wp2_with fail
                  go_quiet (fail)
                  go_wp2_with fail
                  go_ret
                  exact ⟨by rw [← HR.out, HE.out]; rfl, pw_below_drewN (pw_below_drewN HB0.out _) _⟩
              · have hje : i = x.ws.length := by omega
                have hltj : ¬ (i : Int) < (x.ws.length : Int) := by omega
                have HS : Aside0 (x.ws = y.ws) := ⟨by have h9 := hT.out; rw [hje, List.take_length, E2.out, List.take_length] at h9; exact h9⟩
                clear hje hT
                have q0 : x.no = y.no := by rw [HX.out.no, HY.out.no]; simpa using e3
                have Q0 := Aside0.mk q0
                clear q0 e3
                cases f_win : (x.win != y.win) with
                | false =>
                  cases f_late : (x.late != y.late) with
                  | false =>
                    cases f_ser : (x.ser != y.ser) with
                    | false =>
                      cases f_wins : (x.wins != y.wins) with
                      | false =>
                        cases f_que : (x.que != y.que) with
                        | false =>
                          cases f_con : (x.con == y.con) with
                          | false =>
                            have HE := Aside0.mk (ne_of_part (x := x) (y := y) (.inr (.inr (.inr (.inr (.inr (.inr (.inr (.inr (.inl (by simpa using f_con)))))))))))
                            go_wp2_with fail
                            go_ret
                            exact ⟨by rw [← HR.out, HE.out]; rfl, pw_below_drewN HB0.out _⟩
                          | true =>
                            cases f_bod : (x.bod == y.bod) with
                            | false =>
                              have HE := Aside0.mk (ne_of_part (x := x) (y := y) (.inr (.inr (.inr (.inr (.inr (.inr (.inr (.inr (.inr (.inl (by simpa using f_bod))))))))))))
                              go_wp2_with fail
                              go_ret
                              exact ⟨by rw [← HR.out, HE.out]; rfl, pw_below_drewN HB0.out _⟩
                            | true =>
                              cases f_bas : (x.bas == y.bas) with
                              | false =>
                                have HE := Aside0.mk (ne_of_part (x := x) (y := y) (.inr (.inr (.inr (.inr (.inr (.inr (.inr (.inr (.inr (.inr (.inl (by simpa using f_bas)))))))))))))
                                go_wp2_with fail
                                go_ret
                                exact ⟨by rw [← HR.out, HE.out]; rfl, pw_below_drewN HB0.out _⟩
                              | true =>
                                cases f_mos : (x.mos == y.mos) with
                                | false =>
                                  have HE := Aside0.mk (ne_of_part (x := x) (y := y) (.inr (.inr (.inr (.inr (.inr (.inr (.inr (.inr (.inr (.inr (.inr (by simpa using f_mos)))))))))))))
                                  go_wp2_with fail
                                  go_ret
                                  exact ⟨by rw [← HR.out, HE.out]; rfl, pw_below_drewN HB0.out _⟩
                                | true =>
                                  have HE : Aside0 (decide (x = y) = true) := ⟨by rw [← cfg_beq, HT.out, HS.out, Q0.out]; simp [show (x.win == y.win) = true by simpa using f_win, show (x.late == y.late) = true by simpa using f_late, show (x.ser == y.ser) = true by simpa using f_ser, show (x.wins == y.wins) = true by simpa using f_wins, show (x.que == y.que) = true by simpa using f_que, f_con, f_bod, f_bas, f_mos]⟩
                                  go_wp2_with fail
                                  go_ret
                                  exact ⟨by rw [← HR.out, HE.out]; rfl, pw_below_drewN HB0.out _⟩
                        | true =>
                          have HE := Aside0.mk (ne_of_part (x := x) (y := y) (.inr (.inr (.inr (.inr (.inr (.inr (.inr (.inl (by simpa using f_que))))))))))
                          go_wp2_with fail
                          go_ret
                          exact ⟨by rw [← HR.out, HE.out]; rfl, pw_below_drewN HB0.out _⟩
                      | true =>
                        have HE := Aside0.mk (ne_of_part (x := x) (y := y) (.inr (.inr (.inr (.inr (.inr (.inr (.inl (by simpa using f_wins)))))))))
                        go_wp2_with fail
                        go_ret
                        exact ⟨by rw [← HR.out, HE.out]; rfl, pw_below_drewN HB0.out _⟩
                    | true =>
                      have HE := Aside0.mk (ne_of_part (x := x) (y := y) (.inr (.inr (.inr (.inr (.inr (.inl (by simpa using f_ser))))))))
                      go_wp2_with fail
                      go_ret
                      exact ⟨by rw [← HR.out, HE.out]; rfl, pw_below_drewN HB0.out _⟩
                  | true =>
                    have HE := Aside0.mk (ne_of_part (x := x) (y := y) (.inr (.inr (.inr (.inr (.inl (by simpa using f_late)))))))
                    go_wp2_with fail
                    go_ret
                    exact ⟨by rw [← HR.out, HE.out]; rfl, pw_below_drewN HB0.out _⟩
                | true =>
                  have HE := Aside0.mk (ne_of_part (x := x) (y := y) (.inr (.inr (.inr (.inl (by simpa using f_win))))))
                  go_wp2_with fail
                  go_ret
                  exact ⟨by rw [← HR.out, HE.out]; rfl, pw_below_drewN HB0.out _⟩
      | false =>
        clear e1 e2
        go_enter Try.func17, Try.ntmps17
        have HE := Aside0.mk (ne_of_part (x := x) (y := y) (.inr (.inr (.inl (by rw [HX.out.no, HY.out.no]; simpa using e3)))))
        go_wp2_with fail
        go_ret
        exact ⟨by rw [← HR.out, HE.out]; rfl, (((Below.refl _ w).alloc (Nat.le_refl _) _).alloc (by simp) _)⟩
    · have e2i : ((x.ws.length : Int) != (y.ws.length : Int)) = true := by simp; omega
      have HE := Aside0.mk (ne_of_part (x := x) (y := y) (.inr (.inl (fun e => e2 (by rw [e])))))
      clear e1 e2
      go_enter Try.func17, Try.ntmps17
      go_wp2_with fail
      go_ret
      exact ⟨by rw [← HR.out, HE.out]; rfl, (((Below.refl _ w).alloc (Nat.le_refl _) _).alloc (by simp) _)⟩
  · have e1i : ((x.ts.length : Int) != (y.ts.length : Int)) = true := by simp; omega
    have HE := Aside0.mk (ne_of_part (x := x) (y := y) (.inl (fun e => e1 (by rw [e]))))
    clear e1
    go_enter Try.func17, Try.ntmps17
    go_wp2_with fail
    go_ret
    exact ⟨by rw [← HR.out, HE.out]; rfl, (((Below.refl _ w).alloc (Nat.le_refl _) _).alloc (by simp) _)⟩
end Go.Proofs.Ytedchpflcemdkaa
