/- A text of this claim, pruned by a program of the session (prune.py) to what the theorem rests on. -/
import Derived.Test.YtneodhhoejjncaaQcGTurn
namespace Go.Proofs.Ytneodhhoejjncaa
open Go.RowKit Go.Shelf Go.Proofs.YtneodhhoejjncaaW.PrintWords
set_option linter.unusedVariables false
set_option linter.unusedSimpArgs false
theorem wp_block_mid {P : Program} {c : Code} {l : Nat} {X : Exit → Act → World → Prop} {a : Act} {w : World} (M : Act → World → Prop) (hc : c.wp P (fun e a w => (e = .normal ∨ e = .exit l) ∧ M a w) a w) (h : ∀ a w, M a w → X .normal a w) : c.wp P (Exit.inBlock l X) a w :=
  wp_mono hc fun e a w ⟨he, hm⟩ => by
    rcases he with rfl | rfl
    · exact h a w hm
    · unfold Exit.inBlock
      simp
      exact h a w hm
theorem wp_frame {P : Program} {c : Code} {Q : Exit → Act → World → Prop} {tm : Array Value} {ds : List Deferred} {w : World} (h : ∀ T, T = tm → c.wp P Q { tmps := T, defers := ds } w) : c.wp P Q { tmps := tm, defers := ds } w := h tm rfl
attribute [local go_sem] Oper.semAt_some
theorem keeps_drewN (W : World) (n : Nat) : KeepsOthers W (W.drewN n) := ⟨Nat.le_refl _, fun _ _ h _ => h⟩
set_option maxRecDepth 100000 in
set_option maxHeartbeats 4000000 in
theorem turn_calls {t0 t1 t2 t3 t7 t8 t9 t10 t11 t12 t13 t14 t16 t17 t18 t19 t20 t21 t22 t23 t24 t25 t26 t27 t28 t29 t30 t31 t32 t33 t34 t35 t36 t37 t38 t39 t40 t41 t42 t43 t44 t45 t46 t47 t48 t49 t50 t51 t52 t53 t54 t55 t56 t57 t58 t59 t60 t61 t62 t63 t64 t65 t66 t67 t68 t69 t70 t71 t72 t73 t74 t75 t76 t77 t78 t79 t80 t81 t82 t83 t84 t85 t86 t87 t88 t89 t90 t91 t93 t94 t95 t96 t97 t98 t99 t100 t101 t102 t103 t104 t105 t106 t107 t108 t109 t110 t111 t112 t113 t114 t115 t116 t117 t118 t119 t120 t121 t122 t123 t124 t125 t126 t127 t128 t129 t130 t131 t132 t133 t134 t135 t136 t137 t138 t139 t140 t141 t142 : Value} (w Wg Wb W0 : World) (R B5 base lo : Nat) (leave most' : Int) (xs : List Sr) (A : Option Addr) (c : Nat) (hr : RefAt w base R most' xs (.slice A xs.length c)) (hx : xs.length ≤ 1099511627776)
    (hst : ∀ W, Below Wg.heap.size Wg W → ∀ n, 9 ≤ n → SeqStopsK Fence.wide n Try.prog 29 #[.pointer (some ⟨B5, 0, none⟩)] pairV (KeepsIn lo Wg.heap.size W.heap.size) (fun ys => ys = xs) (fun pre => pre <+: xs) xs.length W)
    (hWb : Below Wg.heap.size Wg Wb) (hS : SB w Wb R leave) (hk : Boxed W0 Wb.heap.size 3 (.int .i64 0)) (hb : Below Wb.heap.size Wb W0) (ds : List Deferred) (X : Exit → Act → World → Prop)
    (hX : ∀ (D : Nat) (kv : Int) (W' : World), W0.heap.size ≤ D → W'.heap[D]? = some (.deferred (some [])) → Boxed W' Wb.heap.size 3 (.int .i64 kv) → (kv = (xs.length : Int) ∨ kv = leave) → Below Wb.heap.size Wb W' →
      X .normal { tmps := #[t0, t1, t2, t3, .pointer (some ⟨w.heap.size, 0, none⟩), .pointer (some ⟨w.heap.size + 1, 0, none⟩), .pointer (some ⟨w.heap.size + 1 + 1, 0, none⟩), t7, t8, t9, t10, t11, t12, t13, t14, .pointer (some ⟨Wb.heap.size, 0, none⟩), t16, t17, t18, t19, t20, t21, t22, t23, t24, t25, t26, t27, t28, t29, t30, t31, t32, t33, t34, t35, t36, t37, t38, t39, t40, t41, t42, t43, t44, t45, t46, t47, t48, t49, t50, t51, t52, t53, t54, t55, t56, t57, t58, t59, t60, t61, t62, t63, t64, t65, t66, t67, t68, t69, t70, t71, t72, t73, t74, t75, t76, t77, t78, t79, t80, t81, t82, t83, t84, t85, t86, t87, t88, t89, t90, t91, .func (.func 29) #[] #[.pointer (some ⟨B5, 0, none⟩)], t93, t94, t95, t96, t97, t98, t99, t100, t101, t102, t103, t104, t105, t106, t107, t108, t109, t110, t111, t112, t113, t114, t115, t116, t117, t118, t119, t120, t121, t122, t123, t124, t125, t126, t127, t128, t129, t130, t131, t132, t133, t134, t135, t136, t137, t138, t139, t140, t141, t142], defers := { target := .collected D, args := #[] } :: ds } W') :
    rangeC.wp Try.prog (Exit.inBlock 4 X) { tmps := #[t0, t1, t2, t3, .pointer (some ⟨w.heap.size, 0, none⟩), .pointer (some ⟨w.heap.size + 1, 0, none⟩), .pointer (some ⟨w.heap.size + 1 + 1, 0, none⟩), t7, t8, t9, t10, t11, t12, t13, t14, .pointer (some ⟨Wb.heap.size, 0, none⟩), t16, t17, t18, t19, t20, t21, t22, t23, t24, t25, t26, t27, t28, t29, t30, t31, t32, t33, t34, t35, t36, t37, t38, t39, t40, t41, t42, t43, t44, t45, t46, t47, t48, t49, t50, t51, t52, t53, t54, t55, t56, t57, t58, t59, t60, t61, t62, t63, t64, t65, t66, t67, t68, t69, t70, t71, t72, t73, t74, t75, t76, t77, t78, t79, t80, t81, t82, t83, t84, t85, t86, t87, t88, t89, t90, t91, .func (.func 29) #[] #[.pointer (some ⟨B5, 0, none⟩)], t93, t94, t95, t96, t97, t98, t99, t100, t101, t102, t103, t104, t105, t106, t107, t108, t109, t110, t111, t112, t113, t114, t115, t116, t117, t118, t119, t120, t121, t122, t123, t124, t125, t126, t127, t128, t129, t130, t131, t132, t133, t134, t135, t136, t137, t138, t139, t140, t141, t142], defers := ds } W0 := by
  obtain ⟨A', c', e, hcap, hrd⟩ := hr.reads
  obtain ⟨rfl, rfl⟩ : A = A' ∧ c = c' := by
    injection e with e1 _ e2
    exact ⟨e1, e2⟩
  have HX := Aside0.mk hX
  have HRD := Aside0.mk hrd
  have HR := Aside0.mk hr
  have HST := Aside0.mk hst
  have HS := Aside0.mk hS
  have hI0 : Wb.heap.size < W0.heap.size := hk.lt
  have hz : Wg.heap.size ≤ Wb.heap.size := hWb.size
  clear hX hrd hr hst hS e
  refine wp_frame ?_
  intro T hT
  refine wp_block_mid (fun a' W' => ∃ D kv, a' = { tmps := T, defers := { target := .collected D, args := #[] } :: ds } ∧ W0.heap.size ≤ D ∧ W'.heap[D]? = some (.deferred (some [])) ∧ Boxed W' Wb.heap.size 3 (.int .i64 kv) ∧ (kv = (xs.length : Int) ∨ kv = leave) ∧ Below Wb.heap.size Wb W') ?range ?after
  case after =>
    rintro a' W ⟨D, kv, rfl, hD, hDK, hkv, hkk, hbW⟩
    subst hT
    exact HX.out D kv W hD hDK hkv hkk hbW
  case range =>
    refine (wpIn_wide (n := 12)).1 ?_
    unfold rangeC
    refine wpIn_rangeFunc_ownH rfl (by omega) (gf := 29) (lb := #[.pointer (some ⟨B5, 0, none⟩)]) (by rw [hT]; rfl) trivial (enters_of Try.func29 (by kernel_rfl) rfl)
      (HST.out W0 (hWb.trans (hb.mono hz)) 11 (by omega)) keepsIn_t (keepsIn_b (by omega)) (Below.refl _ _) (fun _ => rfl)
      (fun pre W => (Boxed W Wb.heap.size 3 (.int .i64 (pre.length : Nat)) ∧ pre <+: xs) ∧ (Below Wb.heap.size Wb W ∧ W0.heap.size ≤ W.heap.size))
      (fun cd pre W => (cd = Code.exit 4 ∧ Boxed W Wb.heap.size 3 (.int .i64 leave) ∧ Below Wb.heap.size Wb W) ∨ ¬ pre <+: xs)
      (OwnFrom.and (OwnFrom.and (Own.from (boxed_own _ _ _) _) (fun _ _ _ _ h _ _ => h)) (OwnFrom.and (ownFrom_below (Nat.le_refl _) (by omega)) (fun _ _ _ _ h hg _ => Nat.le_trans h hg.size)))
      (fun cd s W1 W2 row hs hg hr => by
        rcases hs with ⟨e, hb, hB⟩ | hn
        · exact Or.inl ⟨e, (Own.from (boxed_own Wb.heap.size 3 (fun _ : Unit => Value.int .i64 leave)) W0.heap.size) () W1 W2 row hb hg hr, (ownFrom_below (β := Unit) (Nat.le_refl _) (by omega)) () W1 W2 row hB hg hr⟩
        · exact Or.inr hn)
      ⟨⟨hk, List.nil_prefix⟩, hb, Nat.le_refl _⟩
      (fun x a' W => ∃ Bx, W0.heap.size ≤ Bx ∧ Boxed2 W Bx 54 (lstL x.2).toArray ∧ a' = { tmps := (((T.setIfInBounds 93 (.string x.1)).setIfInBounds 94 (.agg (lstL x.2).toArray)).setIfInBounds 16 (.string x.1)).setIfInBounds 17 (.pointer (some ⟨Bx, 0, none⟩)), defers := [] })
      (fun x a' _ X Y row hs hg hr => by obtain ⟨Bx, h1, h2, h3⟩ := hs; exact ⟨Bx, h1, h2.own hg (fun r e => (hr r e).2), h3⟩)
      ?assign ?body ?done ?stop
    case assign =>
      rintro l pre x W K ⟨⟨b1, hpl⟩, hbW, hsW⟩ hK
      subst hT
      unfold assignC
      simp only [pairV, lstL] at hK ⊢
      gi_wp2
      exact hK _ _ ((KeepsOthers.alloc _ _).from _) (keepsIn_alloc W _ (by omega)) ⟨⟨b1.alloc _, hpl⟩, hbW.alloc hbW.size _, by rw [World.size_alloc]; omega⟩ ⟨W.heap.size, hsW, World.alloc_heap_new W _, rfl⟩
    case body =>
      rintro l pre x a' W hl ⟨r, hr⟩ ⟨⟨b1, hpl⟩, hbW, hsW⟩ ⟨Bx, hBx, bX, rfl⟩ hlt
      subst hT
      simp only [List.setIfInBounds_toArray, List.set_cons_zero, List.set_cons_succ]
      have hS9 := HS.out.step hbW
      have hR9 := HR.out.below hS9.below
      obtain ⟨g, rfl, _, _, _, _, _⟩ := HRD.out.resolve_left (fun e => by obtain ⟨_, _, e2⟩ := e; rw [e2] at hlt; simp at hlt)
      have hga : xs[pre.length]? = some xs[pre.length] := List.getElem?_eq_getElem hlt
      have hpx : pre ++ [xs[pre.length]] <+: xs := by
        obtain ⟨tl, rfl⟩ := hpl
        cases tl with
        | nil => simp at hlt
        | cons q tl => exact ⟨tl, by simp⟩
      have hne : x ≠ xs[pre.length] → ¬ pre ++ [x] <+: xs := fun hn hp => by
        have h9 : (pre ++ [x])[pre.length]? = some x := by rw [List.getElem?_append_right (Nat.le_refl _), Nat.sub_self]; rfl
        obtain ⟨tl, e⟩ := hp
        have h8 : xs[pre.length]? = some x := by rw [← e, List.getElem?_append_left (by simp)]; exact h9
        rw [hga] at h8
        exact hn (Option.some.inj h8).symm
      generalize xs[pre.length] = y at *
      have hcell := ref_cell hR9 pre.length y hga rfl
      have hRA : RoundAt w W R Wb.heap.size Bx g c xs.length leave (pre.length : Nat) x y pre.length :=
        ⟨hS9.ref.cell, hS9.lv.cell, hS9.res.cell, hS9.res.frozen, b1.cell, b1.frozen, (blk_cell hR9.blk 0).trans rfl, hcell 0 _ rfl, hcell 1 _ rfl, hcell 2 _ rfl, hcell 3 _ rfl, hcell 4 _ rfl, hcell 5 _ rfl, hcell 6 _ rfl,
          (blk_cell bX 0).trans rfl, (blk_cell bX 1).trans rfl, (blk_cell bX 2).trans rfl, (blk_cell bX 3).trans rfl, (blk_cell bX 4).trans rfl, (blk_cell bX 5).trans rfl, hlt, by have := HS.out.res.lt; omega, by have := HS.out.res.lt; omega⟩
      by_cases hxy : x = y
      · subst hxy
        refine turn_same w W Wb R B5 Bx g c xs.length l leave x pre.length (by omega) ⟨hRA.p9, hRA.v9, hRA.e9, hRA.f9, hRA.k9, hRA.kf, hRA.c9, hRA.n0, hRA.n1, hRA.n2, hRA.n3, hRA.n4, hRA.n5, hRA.n6, hRA.z0, hRA.z1, hRA.z2, hRA.z3, hRA.z4, hRA.z5, hRA.lt, hRA.kne, hRA.kne2⟩ _ (fun _ a nq => ?_) (fun hkl a nq => ?_)
        · refine ⟨((keeps_drewN W nq).trans (KeepsOthers.setCell (W.drewN nq) ⟨Wb.heap.size, 0, none⟩ _)).from _, keepsIn_set (W.drewN nq) ⟨Wb.heap.size, 0, none⟩ _ (Or.inr hz) hI0, ⟨?_, hpx⟩, (pw_below_drewN hbW nq).setCell (p := ⟨Wb.heap.size, 0, none⟩) (Nat.le_refl _) _, by simpa [World.setCell] using hsW⟩
          rw [List.length_append]
          exact Boxed.set _ (show Boxed (W.drewN nq) _ _ _ from b1)
        · refine ⟨((keeps_drewN W nq).trans (KeepsOthers.setCell (W.drewN nq) ⟨Wb.heap.size, 0, none⟩ _)).from _, Or.inl ⟨rfl, ?_, (pw_below_drewN hbW nq).setCell (p := ⟨Wb.heap.size, 0, none⟩) (Nat.le_refl _) _⟩⟩
          rw [← hkl]
          exact Boxed.set _ (show Boxed (W.drewN nq) _ _ _ from b1)
      · refine turn_other w W Wb R B5 Bx g c xs.length l leave x y pre.length hxy hRA _ (fun a nq => ?_)
        exact ⟨((keeps_drewN W nq).trans (KeepsOthers.setCell (W.drewN nq) ⟨w.heap.size + 1 + 1, 0, none⟩ _)).from _, Or.inr (hne hxy)⟩
    case done =>
      rintro D zs W hD rfl ⟨⟨b1, _⟩, hbW, hsW⟩ hK
      exact ⟨Or.inl rfl, D, _, rfl, hD, hK, b1, Or.inl rfl, hbW⟩
    case stop =>
      rintro D cd pre W hD hp (⟨rfl, hb, hB⟩ | hn) hK
      · refine wpIn_wide.2 ?_
        refine wp_exit ?_
        exact ⟨Or.inr rfl, D, _, rfl, hD, hK, hb, Or.inr rfl, hB⟩
      · exact absurd hp hn
end Go.Proofs.Ytneodhhoejjncaa
