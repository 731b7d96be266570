/- A text of this claim, pruned by a program of the session (prune.py) to what the theorem rests on. -/
import Derived.Test.YtneodhhoejjncaaQcGRefZ
import Derived.Test.YtneodhhoejjncaaQcGStMe
namespace Go.Proofs.Ytneodhhoejjncaa
open Go.RowKit Go.Proofs.YtneodhhoejjncaaW.PrintWords
set_option linter.unusedVariables false
set_option linter.unusedSimpArgs false
deriving instance DecidableEq for Smp
deriving instance DecidableEq for Lst
set_option maxRecDepth 100000 in
set_option maxHeartbeats 1000000 in
theorem rcopy_calls (base R : Nat) (most : Int) (xs : List Sr) (v : Value) (w : World) (h : RefAt w base R most xs v) (hl : xs.length ≤ 1099511627776) :
    Calls Try.prog 17 #[.pointer (some ⟨R, 0, none⟩)] w fun e w' => ∃ R2 v2, e = .returned (.pointer (some ⟨R2, 0, none⟩)) ∧ RefAt w' w.heap.size R2 most xs v2 ∧ w.heap.size ≤ R2 ∧ Below w.heap.size w w' := by
  obtain ⟨A, c, rfl, hcap, hrd⟩ := h.reads
  have c0 : w.cell? ⟨R, 0, none⟩ = some (.slice A xs.length c) := (blk_cell h.blk 0).trans rfl
  have c1 : w.cell? ⟨R, 1, none⟩ = some (.int .i64 most) := (blk_cell h.blk 1).trans rfl
  have hsrc : SrcAt w.drew A c xs.length (oneC xs) := by
    rcases hrd with ⟨rfl, rfl, rfl⟩ | ⟨g, rfl, _⟩
    · exact Or.inl ⟨rfl, rfl, rfl, rfl⟩
    · exact Or.inr ⟨_, rfl, fun k u hu => h.row.cells (g := g) rfl k u hu⟩
  have HSRC := Aside0.mk hsrc
  have hRl : R < w.heap.size := blk_lt h.blk
  clear hrd hsrc h
  go_enter Try.func17, Try.ntmps17
  go_wp2_with fail
  go_region_held3 (fun w' => w'.cell? ⟨R, 0, none⟩ = some (.slice A xs.length c) ∧ w'.cell? ⟨R, 1, none⟩ = some (.int .i64 most)) (first | go_keep)
    (first
      | (rw [if_pos (by rfl)]; refine app_wp w.heap.size (.const (.slice none 0 0)) (.tmp 6) rfl (.slice none 0 0) 0 [] rfl (own_nil _ _ _ _) A xs.length c (oneC xs) rfl (oneC_len xs) HSRC.out (oneC_one xs) (by omega) (Nat.le_refl _) ?_; intro v2 w2 hown hg; obtain ⟨A2, c2, rfl⟩ := own_slice hown; have hb2 : Below w.heap.size w w2 := ⟨hg.os, hg.tape, hg.output, hg.size, fun k hk => hg.block k hk (fun e => by cases e)⟩; have d0 := pw_cell_below hb2 c0; have d1 := pw_cell_below hb2 c1; have HOWN := Aside0.mk hown; have HB2 := Aside0.mk hb2; clear hown hg))
  go_wp2_with fail
  go_ret
  have hrow := HOWN.out
  rw [Nat.zero_add, List.nil_append] at hrow
  exact ⟨w2.heap.size, _, rfl, ⟨blk_new w2 _, hrow.alloc _⟩, HB2.out.size, below_alloc HB2.out _⟩
set_option maxRecDepth 100000 in
theorem eqLst (d : Nat) (w : World) (x y : Lst) : (Op.equalIn (d + 3) 54 (.agg #[.string x.x.nm, .int .i64 x.x.val, .int .i64 x.x.time, .bool x.x.counts, .bool x.live, .int .i64 x.owner]) (.agg #[.string y.x.nm, .int .i64 y.x.val, .int .i64 y.x.time, .bool y.x.counts, .bool y.live, .int .i64 y.owner])).run Try.prog w =
    .ok ((x.x.nm.toList == y.x.nm.toList && (x.x.val == y.x.val && (x.x.time == y.x.time && x.x.counts == y.x.counts))) && (x.live == y.live && x.owner == y.owner)) w := by
  refine eqA_of Try.underlying54 (by kernel_rfl) ?_
  refine eqf_cons (by rfl) (by first | (go_simp; rfl) | go_simp) (by first | (go_simp; rfl) | go_simp) (eqSmp d w x.x y.x) ?_
  refine eqf_cons (by rfl) (by go_simp; rfl) (by go_simp; rfl) (by go_simp) ?_
  exact eqf_last (by rfl) (by go_simp; rfl) (by go_simp; rfl) (by go_simp)
theorem lst_beq (x y : Lst) : ((x.x.nm.toList == y.x.nm.toList && (x.x.val == y.x.val && (x.x.time == y.x.time && x.x.counts == y.x.counts))) && (x.live == y.live && x.owner == y.owner)) = decide (x = y) := by
  by_cases e : x = y
  · subst e
    simp
  · rw [decide_eq_false e]
    rw [Bool.eq_false_iff]
    intro h
    simp only [Bool.and_eq_true, beq_iff_eq] at h
    obtain ⟨⟨h1, h2, h3, h4⟩, h5, h6⟩ := h
    refine e ?_
    obtain ⟨⟨a1, a2, a3, a4⟩, a5, a6⟩ := x
    obtain ⟨⟨b1, b2, b3, b4⟩, b5, b6⟩ := y
    dsimp only at h1 h2 h3 h4 h5 h6
    have := toList_inj h1
    subst this h2 h3 h4 h5 h6
    rfl
set_option maxRecDepth 100000 in
theorem eq_cl (p q : Nat) (x y : Lst) (w : World) (hp : w.heap[p]? = some (.cells (lstL x).toArray 54 (0, 0))) (hq : w.heap[q]? = some (.cells (lstL y).toArray 54 (0, 0))) :
    Calls Try.prog 28 #[ptrV p, ptrV q] w fun e w' => e = .returned (.bool (decide (x = y))) ∧ Below w.heap.size w w' := by
  have p0 : w.cell? ⟨p, 0, none⟩ = some (.string x.x.nm) := (blk_cell hp 0).trans rfl
  have p1 : w.cell? ⟨p, 1, none⟩ = some (.int .i64 x.x.val) := (blk_cell hp 1).trans rfl
  have p2 : w.cell? ⟨p, 2, none⟩ = some (.int .i64 x.x.time) := (blk_cell hp 2).trans rfl
  have p3 : w.cell? ⟨p, 3, none⟩ = some (.bool x.x.counts) := (blk_cell hp 3).trans rfl
  have p4 : w.cell? ⟨p, 4, none⟩ = some (.bool x.live) := (blk_cell hp 4).trans rfl
  have p5 : w.cell? ⟨p, 5, none⟩ = some (.int .i64 x.owner) := (blk_cell hp 5).trans rfl
  have q0 : w.cell? ⟨q, 0, none⟩ = some (.string y.x.nm) := (blk_cell hq 0).trans rfl
  have q1 : w.cell? ⟨q, 1, none⟩ = some (.int .i64 y.x.val) := (blk_cell hq 1).trans rfl
  have q2 : w.cell? ⟨q, 2, none⟩ = some (.int .i64 y.x.time) := (blk_cell hq 2).trans rfl
  have q3 : w.cell? ⟨q, 3, none⟩ = some (.bool y.x.counts) := (blk_cell hq 3).trans rfl
  have q4 : w.cell? ⟨q, 4, none⟩ = some (.bool y.live) := (blk_cell hq 4).trans rfl
  have q5 : w.cell? ⟨q, 5, none⟩ = some (.int .i64 y.owner) := (blk_cell hq 5).trans rfl
  have heq : ∀ W, (binOp .eql 54 (.agg #[.string x.x.nm, .int .i64 x.x.val, .int .i64 x.x.time, .bool x.x.counts, .bool x.live, .int .i64 x.owner]) (.agg #[.string y.x.nm, .int .i64 y.x.val, .int .i64 y.x.time, .bool y.x.counts, .bool y.live, .int .i64 y.owner])).run Try.prog W = .ok (.bool (decide (x = y))) W := fun W => by
    have h := eqLst 9997 W x y
    rw [run_eql_struct, h, lst_beq]
    rfl
  clear hp hq
  unfold ptrV
  go_enter Try.func28, Try.ntmps28
  go_wp2_with fail
  go_quiet (fail)
  go_wp2_with fail
  go_ret
  exact ⟨rfl, pw_below_drewN (Below.refl _ _) _⟩
set_option maxRecDepth 100000 in
theorem one_neq (x y : Sr) (w : World) : (binOp .neq 71 (.agg #[.string x.1, .string x.2.x.nm, .int .i64 x.2.x.val, .int .i64 x.2.x.time, .bool x.2.x.counts, .bool x.2.live, .int .i64 x.2.owner]) (.agg #[.string y.1, .string y.2.x.nm, .int .i64 y.2.x.val, .int .i64 y.2.x.time, .bool y.2.x.counts, .bool y.2.live, .int .i64 y.2.owner])).run Try.prog w = .ok (.bool (!decide (x = y))) w := by
  have h : (Op.equalIn 10000 71 (.agg #[.string x.1, .string x.2.x.nm, .int .i64 x.2.x.val, .int .i64 x.2.x.time, .bool x.2.x.counts, .bool x.2.live, .int .i64 x.2.owner]) (.agg #[.string y.1, .string y.2.x.nm, .int .i64 y.2.x.val, .int .i64 y.2.x.time, .bool y.2.x.counts, .bool y.2.live, .int .i64 y.2.owner])).run Try.prog w = .ok (x.1.toList == y.1.toList && ((x.2.x.nm.toList == y.2.x.nm.toList && (x.2.x.val == y.2.x.val && (x.2.x.time == y.2.x.time && x.2.x.counts == y.2.x.counts))) && (x.2.live == y.2.live && x.2.owner == y.2.owner))) w := by
    refine eqA_of Try.underlying71 (by kernel_rfl) ?_
    refine eqf_cons (by rfl) (by go_simp; rfl) (by go_simp; rfl) (by go_simp) ?_
    exact eqf_last (by rfl) (by first | (go_simp; rfl) | go_simp) (by first | (go_simp; rfl) | go_simp) (eqLst 9996 w x.2 y.2)
  rw [run_neq_struct, h, lst_beq]
  have e : (x.1.toList == y.1.toList && decide (x.2 = y.2)) = decide (x = y) := by
    by_cases e : x = y
    · subst e
      simp
    · rw [decide_eq_false e, Bool.eq_false_iff]
      intro h
      simp only [Bool.and_eq_true, beq_iff_eq, decide_eq_true_eq] at h
      exact e (Prod.ext (toList_inj h.1) h.2)
  rw [e]
  rfl
set_option maxRecDepth 100000 in
set_option maxHeartbeats 2000000 in
theorem alike_calls (b1 b2 R1 R2 : Nat) (m : Int) (xs ys : List Sr) (v1 v2 : Value) (w : World) (h1 : RefAt w b1 R1 m xs v1) (h2 : RefAt w b2 R2 m ys v2) (hl : xs.length ≤ 1099511627776) :
    Calls Try.prog 19 #[.pointer (some ⟨R1, 0, none⟩), .pointer (some ⟨R2, 0, none⟩)] w fun e w' => e = .returned (.bool (decide (xs = ys))) ∧ Below w.heap.size w w' := by
  obtain ⟨A1, c1, rfl, hcap1, hrd1⟩ := h1.reads
  obtain ⟨A2, c2, rfl, hcap2, hrd2⟩ := h2.reads
  have p0 : w.cell? ⟨R1, 0, none⟩ = some (.slice A1 xs.length c1) := (blk_cell h1.blk 0).trans rfl
  have p1 : w.cell? ⟨R1, 1, none⟩ = some (.int .i64 m) := (blk_cell h1.blk 1).trans rfl
  have q0 : w.cell? ⟨R2, 0, none⟩ = some (.slice A2 ys.length c2) := (blk_cell h2.blk 0).trans rfl
  have q1 : w.cell? ⟨R2, 1, none⟩ = some (.int .i64 m) := (blk_cell h2.blk 1).trans rfl
  have H1 := Aside0.mk h1
  have H2 := Aside0.mk h2
  have D1 := Aside0.mk hrd1
  have D2 := Aside0.mk hrd2
  clear h1 h2 hrd1 hrd2
  by_cases hll : xs.length = ys.length
  · have HLL := Aside0.mk hll
    rw [← hll] at q0
    clear hll
    go_enter Try.func19, Try.ntmps19
    go_wp2_with fail
    go_quiet (fail)
    go_wp2_with fail
    go_loopw [5] (fun v wr => ∃ j q : Nat, j ≤ xs.length ∧ v = .int .i64 j ∧ wr = w.drewN q ∧ Aside0 (xs.take j = ys.take j)) (fun v _ => xs.length - (intOf v).toNat)
    case atStart => exact ⟨0, _, Nat.zero_le _, by go_num, rfl, ⟨rfl⟩⟩
    case round =>
      obtain ⟨j, q, hj, rfl, rfl, hT⟩ := hrel
      by_cases hlt : j < xs.length
      · have hlti : (j : Int) < (xs.length : Int) := by omega
        have hlty : j < ys.length := by have := HLL.out; omega
        obtain ⟨g1, rfl, _, _, _, _, hc1⟩ := D1.out.resolve_left (fun e => by obtain ⟨_, _, e2⟩ := e; rw [e2] at hlt; simp at hlt)
        obtain ⟨g2, rfl, _, _, _, _, hc2⟩ := D2.out.resolve_left (fun e => by obtain ⟨_, _, e2⟩ := e; rw [e2] at hlty; simp at hlty)
        have hx := List.getElem?_eq_getElem hlt
        have hy := List.getElem?_eq_getElem hlty
        have tx : xs.take (j + 1) = xs.take j ++ [xs[j]] := List.take_succ_eq_append_getElem hlt
        have ty : ys.take (j + 1) = ys.take j ++ [ys[j]] := List.take_succ_eq_append_getElem hlty
        generalize xs[j] = x at *
        generalize ys[j] = y at *
        have n0 : w.cell? ⟨g1, j * 7, none⟩ = some (.string x.1) := hc1 j x hx 0 _ rfl
        have n1 : w.cell? ⟨g1, j * 7 + 1, none⟩ = some (.string x.2.x.nm) := hc1 j x hx 1 _ rfl
        have n2 : w.cell? ⟨g1, j * 7 + 2, none⟩ = some (.int .i64 x.2.x.val) := hc1 j x hx 2 _ rfl
        have n3 : w.cell? ⟨g1, j * 7 + 3, none⟩ = some (.int .i64 x.2.x.time) := hc1 j x hx 3 _ rfl
        have n4 : w.cell? ⟨g1, j * 7 + 4, none⟩ = some (.bool x.2.x.counts) := hc1 j x hx 4 _ rfl
        have n5 : w.cell? ⟨g1, j * 7 + 5, none⟩ = some (.bool x.2.live) := hc1 j x hx 5 _ rfl
        have n6 : w.cell? ⟨g1, j * 7 + 6, none⟩ = some (.int .i64 x.2.owner) := hc1 j x hx 6 _ rfl
        have z0 : w.cell? ⟨g2, j * 7, none⟩ = some (.string y.1) := hc2 j y hy 0 _ rfl
        have z1 : w.cell? ⟨g2, j * 7 + 1, none⟩ = some (.string y.2.x.nm) := hc2 j y hy 1 _ rfl
        have z2 : w.cell? ⟨g2, j * 7 + 2, none⟩ = some (.int .i64 y.2.x.val) := hc2 j y hy 2 _ rfl
        have z3 : w.cell? ⟨g2, j * 7 + 3, none⟩ = some (.int .i64 y.2.x.time) := hc2 j y hy 3 _ rfl
        have z4 : w.cell? ⟨g2, j * 7 + 4, none⟩ = some (.bool y.2.x.counts) := hc2 j y hy 4 _ rfl
        have z5 : w.cell? ⟨g2, j * 7 + 5, none⟩ = some (.bool y.2.live) := hc2 j y hy 5 _ rfl
        have z6 : w.cell? ⟨g2, j * 7 + 6, none⟩ = some (.int .i64 y.2.owner) := hc2 j y hy 6 _ rfl
        have hneq := fun W => one_neq x y W
        have HX := Aside0.mk hx
        have HY := Aside0.mk hy
        have TX := Aside0.mk tx
        have TY := Aside0.mk ty
        clear hc1 hc2 hx hy tx ty
        by_cases e : x = y
        · rw [decide_eq_true e, Bool.not_true] at hneq
          have HE := Aside0.mk e
          clear e
          go_wp2_with fail
          go_quiet (fail)
          go_wp2_with fail
          exact ⟨⟨j + 1, _, by omega, by go_num, rfl, ⟨by rw [TX.out, TY.out, hT.out, HE.out]⟩⟩, by simp [intOf]; omega⟩
        · rw [decide_eq_false e, Bool.not_false] at hneq
          have HE : Aside0 (decide (xs = ys) = false) := ⟨decide_eq_false fun e2 => e (by have h9 := HX.out; rw [e2, HY.out] at h9; exact (Option.some.inj h9).symm)⟩
          clear e
          go_wp2_with fail
          go_quiet (fail)
          go_wp2_with fail
          go_ret
          exact ⟨by rw [HE.out]; rfl, pw_below_drewN (pw_below_drewN (Below.refl _ _) _) _⟩
      · have hje : j = xs.length := by omega
        have hlti : ¬ (j : Int) < (xs.length : Int) := by omega
        have HE : Aside0 (decide (xs = ys) = true) := ⟨decide_eq_true (by have h9 := hT.out; rw [hje, List.take_length, HLL.out, List.take_length] at h9; exact h9)⟩
        clear hje
        go_wp2_with fail
        go_ret
        exact ⟨by rw [HE.out]; rfl, pw_below_drewN (Below.refl _ _) _⟩
  · have hl2 : ((xs.length : Int) != (ys.length : Int)) = true := by simpa using fun e => hll (by omega)
    have HE : Aside0 (decide (xs = ys) = false) := ⟨decide_eq_false fun e => hll (by rw [e])⟩
    clear hll
    go_enter Try.func19, Try.ntmps19
    go_wp2_with fail
    go_quiet (fail)
    go_wp2_with fail
    go_ret
    exact ⟨by rw [HE.out]; rfl, pw_below_drewN (Below.refl _ _) _⟩
end Go.Proofs.Ytneodhhoejjncaa
