/- A text of this claim, pruned by a program of the session (prune.py) to what the theorem rests on. -/
import Derived.Test.YtneodhhoejjncaaQcGRefPt
import Derived.Test.YtneodhhoejjncaaQcGQuR
import Derived.LoopN
namespace Go.Proofs.Ytneodhhoejjncaa
open Go.RowKit Go.Shelf Go.Proofs.YtneodhhoejjncaaW.PrintWords
set_option linter.unusedVariables false
set_option linter.unusedSimpArgs false
structure SB (w W : World) (R : Nat) (leave : Int) : Prop where
  ref : Boxed W w.heap.size 39 (.pointer (some ⟨R, 0, none⟩))
  lv : Boxed W (w.heap.size + 1) 3 (.int .i64 leave)
  res : Boxed W (w.heap.size + 1 + 1) 4 (.bool false)
  below : Below w.heap.size w W
theorem SB.step {w W W' : World} {R : Nat} {leave : Int} (h : SB w W R leave) (hb : Below W.heap.size W W') : SB w W' R leave := ⟨blk_below h.ref hb, blk_below h.lv hb, blk_below h.res hb, h.below.trans (hb.mono h.below.size)⟩
theorem sb_new (w : World) (R : Nat) (leave : Int) : SB w (((w.alloc (.cells #[.pointer (some ⟨R, 0, none⟩)] 39)).alloc (.cells #[.int .i64 leave] 3)).alloc (.cells #[.bool false] 4)) R leave := by
  refine ⟨blk_alloc (blk_alloc (blk_new w _) _) _, blk_alloc (o := .cells #[.int .i64 leave] 3 (0, 0)) ?_ _, ?_, below_alloc (below_alloc (below_alloc (Below.refl _ _) _) _) _⟩
  · have h := blk_new (w.alloc (.cells #[.pointer (some ⟨R, 0, none⟩)] 39)) (.cells #[.int .i64 leave] 3)
    rw [size_push] at h
    exact h
  · have h := blk_new ((w.alloc (.cells #[.pointer (some ⟨R, 0, none⟩)] 39)).alloc (.cells #[.int .i64 leave] 3)) (.cells #[.bool false] 4)
    rw [size_push, size_push] at h
    exact h
def assignC : Code := (
  (Code.region 21 #[{ dst := some 16, op := Op.assign (Operand.tmp 93), type := 9, pos := "law.go:67", after := #[], guard := none }] false).seq 
  (Code.region 22 #[{ dst := some 17, op := Op.alloc 54, type := 0, pos := "law.go:67", after := #[], guard := none },
    { dst := none, op := Op.store 54 (Operand.tmp 17) (Operand.tmp 94), type := 0, pos := "law.go:67", after := #[{ on := 0, ground := Ground.data }, { on := 0, ground := Ground.phase }], guard := none }] false))
def bodyC : Code := 
  (Code.block 5 ((
  (Code.region 23 #[{ dst := some 95, op := Op.load 3 (Operand.tmp 15), type := 3, pos := "law.go:68", after := #[], guard := none },
    { dst := some 96, op := Op.load 39 (Operand.tmp 4), type := 39, pos := "law.go:68", after := #[], guard := none },
    { dst := some 97, op := Op.nilCheck (Operand.tmp 96), type := 0, pos := "law.go:68", after := #[{ on := 1, ground := Ground.data }], guard := none },
    { dst := some 98, op := Op.fieldAddr 69 (Operand.tmp 97) 0, type := 0, pos := "law.go:68", after := #[{ on := 2, ground := Ground.data }], guard := none },
    { dst := some 99, op := Op.load 67 (Operand.tmp 98), type := 67, pos := "law.go:68", after := #[{ on := 3, ground := Ground.data }], guard := none },
    { dst := some 100, op := Op.call { callee := Callee.builtin Builtin.len, args := #[Operand.tmp 99], argTypes := #[67] }, type := 3, pos := "law.go:68", after := #[{ on := 4, ground := Ground.data }], guard := none },
    { dst := some 101, op := Op.binOp BinOp.geq 3 (Operand.tmp 95) (Operand.tmp 100) 3, type := 4, pos := "law.go:68", after := #[{ on := 0, ground := Ground.data }, { on := 5, ground := Ground.data }], guard := none },
    { dst := some 102, op := Op.move (Operand.tmp 101), type := 4, pos := "law.go:68", after := #[{ on := 6, ground := Ground.data }], guard := none },
    { dst := some 103, op := Op.load 39 (Operand.tmp 4), type := 39, pos := "law.go:68", after := #[{ on := 7, ground := Ground.guard }], guard := some (7, false) },
    { dst := some 104, op := Op.nilCheck (Operand.tmp 103), type := 0, pos := "law.go:68", after := #[{ on := 8, ground := Ground.data }, { on := 7, ground := Ground.guard }], guard := some (7, false) },
    { dst := some 105, op := Op.fieldAddr 69 (Operand.tmp 104) 0, type := 0, pos := "law.go:68", after := #[{ on := 9, ground := Ground.data }, { on := 7, ground := Ground.guard }], guard := some (7, false) },
    { dst := some 106, op := Op.load 67 (Operand.tmp 105), type := 67, pos := "law.go:68", after := #[{ on := 10, ground := Ground.data }, { on := 7, ground := Ground.guard }], guard := some (7, false) },
    { dst := some 107, op := Op.load 3 (Operand.tmp 15), type := 3, pos := "law.go:68", after := #[{ on := 7, ground := Ground.guard }], guard := some (7, false) },
    { dst := some 108, op := Op.indexAddr 67 (Operand.tmp 106) (Operand.tmp 107), type := 0, pos := "law.go:68", after := #[{ on := 11, ground := Ground.data }, { on := 12, ground := Ground.data }, { on := 7, ground := Ground.guard }], guard := some (7, false) },
    { dst := some 109, op := Op.fieldAddr 71 (Operand.tmp 108) 0, type := 0, pos := "law.go:68", after := #[{ on := 13, ground := Ground.data }, { on := 7, ground := Ground.guard }], guard := some (7, false) },
    { dst := some 110, op := Op.load 9 (Operand.tmp 109), type := 9, pos := "law.go:68", after := #[{ on := 14, ground := Ground.data }, { on := 7, ground := Ground.guard }], guard := some (7, false) },
    { dst := some 111, op := Op.move (Operand.tmp 16), type := 9, pos := "law.go:68", after := #[{ on := 7, ground := Ground.guard }], guard := some (7, false) },
    { dst := some 112, op := Op.binOp BinOp.neq 9 (Operand.tmp 110) (Operand.tmp 111) 9, type := 4, pos := "law.go:68", after := #[{ on := 15, ground := Ground.data }, { on := 16, ground := Ground.data }, { on := 7, ground := Ground.guard }], guard := some (7, false) },
    { dst := some 113, op := Op.pick (Operand.tmp 102) (Operand.const (Value.bool true)) (Operand.tmp 112), type := 4, pos := "law.go:68", after := #[{ on := 7, ground := Ground.data }, { on := 17, ground := Ground.data }], guard := none },
    { dst := some 114, op := Op.move (Operand.tmp 113), type := 4, pos := "law.go:68", after := #[{ on := 18, ground := Ground.data }, { on := 7, ground := Ground.chain }], guard := none },
    { dst := some 115, op := Op.load 39 (Operand.tmp 4), type := 39, pos := "law.go:68", after := #[{ on := 19, ground := Ground.guard }], guard := some (19, false) },
    { dst := some 116, op := Op.nilCheck (Operand.tmp 115), type := 0, pos := "law.go:68", after := #[{ on := 20, ground := Ground.data }, { on := 19, ground := Ground.guard }], guard := some (19, false) },
    { dst := some 117, op := Op.fieldAddr 69 (Operand.tmp 116) 0, type := 0, pos := "law.go:68", after := #[{ on := 21, ground := Ground.data }, { on := 19, ground := Ground.guard }], guard := some (19, false) },
    { dst := some 118, op := Op.load 67 (Operand.tmp 117), type := 67, pos := "law.go:68", after := #[{ on := 22, ground := Ground.data }, { on := 19, ground := Ground.guard }], guard := some (19, false) },
    { dst := some 119, op := Op.load 3 (Operand.tmp 15), type := 3, pos := "law.go:68", after := #[{ on := 19, ground := Ground.guard }], guard := some (19, false) },
    { dst := some 120, op := Op.indexAddr 67 (Operand.tmp 118) (Operand.tmp 119), type := 0, pos := "law.go:68", after := #[{ on := 23, ground := Ground.data }, { on := 24, ground := Ground.data }, { on := 19, ground := Ground.guard }], guard := some (19, false) },
    { dst := some 121, op := Op.fieldAddr 71 (Operand.tmp 120) 1, type := 0, pos := "law.go:68", after := #[{ on := 25, ground := Ground.data }, { on := 19, ground := Ground.guard }], guard := some (19, false) },
    { dst := some 122, op := Op.load 54 (Operand.tmp 121), type := 54, pos := "law.go:68", after := #[{ on := 26, ground := Ground.data }, { on := 19, ground := Ground.guard }], guard := some (19, false) },
    { dst := some 123, op := Op.load 54 (Operand.tmp 17), type := 54, pos := "law.go:68", after := #[{ on := 19, ground := Ground.guard }], guard := some (19, false) },
    { dst := some 124, op := Op.binOp BinOp.neq 54 (Operand.tmp 122) (Operand.tmp 123) 54, type := 4, pos := "law.go:68", after := #[{ on := 27, ground := Ground.data }, { on := 28, ground := Ground.data }, { on := 19, ground := Ground.guard }], guard := some (19, false) },
    { dst := some 125, op := Op.pick (Operand.tmp 114) (Operand.const (Value.bool true)) (Operand.tmp 124), type := 4, pos := "law.go:68", after := #[{ on := 19, ground := Ground.data }, { on := 29, ground := Ground.data }], guard := none }] true).seq 
  (Code.cond (Operand.tmp 125) (
  (Code.region 24 #[{ dst := none, op := Op.store 4 (Operand.tmp 6) (Operand.const (Value.bool false)), type := 0, pos := "law.go:69", after := #[], guard := none }] false).seq Code.ret) Code.skip)).seq (
  (Code.region 25 #[{ dst := some 126, op := Op.load 3 (Operand.tmp 15), type := 3, pos := "law.go:71", after := #[], guard := none },
    { dst := some 127, op := Op.binOp BinOp.add 3 (Operand.tmp 126) (Operand.const (Value.int IntKind.i64 1)) 3, type := 3, pos := "law.go:71", after := #[{ on := 0, ground := Ground.data }], guard := none },
    { dst := none, op := Op.store 3 (Operand.tmp 15) (Operand.tmp 127), type := 0, pos := "law.go:71", after := #[{ on := 1, ground := Ground.data }, { on := 0, ground := Ground.phase }, { on := 1, ground := Ground.phase }], guard := none }] false).seq (
  (Code.region 26 #[{ dst := some 128, op := Op.load 3 (Operand.tmp 15), type := 3, pos := "law.go:72", after := #[], guard := none },
    { dst := some 129, op := Op.load 3 (Operand.tmp 5), type := 3, pos := "law.go:72", after := #[], guard := none },
    { dst := some 130, op := Op.binOp BinOp.eql 3 (Operand.tmp 128) (Operand.tmp 129) 3, type := 4, pos := "law.go:72", after := #[{ on := 0, ground := Ground.data }, { on := 1, ground := Ground.data }], guard := none }] false).seq 
  (Code.cond (Operand.tmp 130) 
  (Code.exit 4) Code.skip)))))
def rangeC : Code := Code.rangeFunc (Operand.tmp 92) #[93, 94] assignC bodyC
attribute [local go_sem] Oper.semAt_some
structure RoundAt (w W : World) (R kb Bx g c n : Nat) (leave kv : Int) (x y : Sr) (j : Nat) : Prop where
  p9 : W.cell? ⟨w.heap.size, 0, none⟩ = some (.pointer (some ⟨R, 0, none⟩))
  v9 : W.cell? ⟨w.heap.size + 1, 0, none⟩ = some (.int .i64 leave)
  e9 : W.cell? ⟨w.heap.size + 1 + 1, 0, none⟩ = some (.bool false)
  f9 : W.frozen? ⟨w.heap.size + 1 + 1, 0, none⟩ = false
  k9 : W.cell? ⟨kb, 0, none⟩ = some (.int .i64 kv)
  kf : W.frozen? ⟨kb, 0, none⟩ = false
  c9 : W.cell? ⟨R, 0, none⟩ = some (.slice (some ⟨g, 0, none⟩) n c)
  n0 : W.cell? ⟨g, j * 7, none⟩ = some (.string y.1)
  n1 : W.cell? ⟨g, j * 7 + 1, none⟩ = some (.string y.2.x.nm)
  n2 : W.cell? ⟨g, j * 7 + 1 + 1, none⟩ = some (.int .i64 y.2.x.val)
  n3 : W.cell? ⟨g, j * 7 + 1 + 2, none⟩ = some (.int .i64 y.2.x.time)
  n4 : W.cell? ⟨g, j * 7 + 1 + 3, none⟩ = some (.bool y.2.x.counts)
  n5 : W.cell? ⟨g, j * 7 + 1 + 4, none⟩ = some (.bool y.2.live)
  n6 : W.cell? ⟨g, j * 7 + 1 + 5, none⟩ = some (.int .i64 y.2.owner)
  z0 : W.cell? ⟨Bx, 0, none⟩ = some (.string x.2.x.nm)
  z1 : W.cell? ⟨Bx, 1, none⟩ = some (.int .i64 x.2.x.val)
  z2 : W.cell? ⟨Bx, 2, none⟩ = some (.int .i64 x.2.x.time)
  z3 : W.cell? ⟨Bx, 3, none⟩ = some (.bool x.2.x.counts)
  z4 : W.cell? ⟨Bx, 4, none⟩ = some (.bool x.2.live)
  z5 : W.cell? ⟨Bx, 5, none⟩ = some (.int .i64 x.2.owner)
  lt : j < n
  kne : w.heap.size + 1 ≠ kb
  kne2 : w.heap.size + 1 + 1 ≠ kb
set_option maxRecDepth 100000 in
set_option maxHeartbeats 4000000 in
theorem turn_same {t0 t1 t2 t3 t7 t8 t9 t10 t11 t12 t13 t14 t18 t19 t20 t21 t22 t23 t24 t25 t26 t27 t28 t29 t30 t31 t32 t33 t34 t35 t36 t37 t38 t39 t40 t41 t42 t43 t44 t45 t46 t47 t48 t49 t50 t51 t52 t53 t54 t55 t56 t57 t58 t59 t60 t61 t62 t63 t64 t65 t66 t67 t68 t69 t70 t71 t72 t73 t74 t75 t76 t77 t78 t79 t80 t81 t82 t83 t84 t85 t86 t87 t88 t89 t90 t91 t95 t96 t97 t98 t99 t100 t101 t102 t103 t104 t105 t106 t107 t108 t109 t110 t111 t112 t113 t114 t115 t116 t117 t118 t119 t120 t121 t122 t123 t124 t125 t126 t127 t128 t129 t130 t131 t132 t133 t134 t135 t136 t137 t138 t139 t140 t141 t142 : Value} (w W Wb : World) (R B5 Bx g c n l : Nat) (leave : Int) (x : Sr) (j : Nat) (hj : j ≤ 1099511627776) (h : RoundAt w W R Wb.heap.size Bx g c n leave (j : Nat) x x j) (Q : Exit → Act → World → Prop)
    (hgo : ((j + 1 : Nat) : Int) ≠ leave → ∀ a nq, Q .normal a ((W.drewN nq).setCell ⟨Wb.heap.size, 0, none⟩ (.int .i64 ((j + 1 : Nat) : Int)))) (hstop : ((j + 1 : Nat) : Int) = leave → ∀ a nq, Q (.exit 4) a ((W.drewN nq).setCell ⟨Wb.heap.size, 0, none⟩ (.int .i64 ((j + 1 : Nat) : Int)))) :
    bodyC.wpIn (Fence.wide.inRound l) 10 Try.prog Q { tmps := #[t0, t1, t2, t3, .pointer (some ⟨w.heap.size, 0, none⟩), .pointer (some ⟨w.heap.size + 1, 0, none⟩), .pointer (some ⟨w.heap.size + 1 + 1, 0, none⟩), t7, t8, t9, t10, t11, t12, t13, t14, .pointer (some ⟨Wb.heap.size, 0, none⟩), .string x.1, .pointer (some ⟨Bx, 0, none⟩), t18, t19, t20, t21, t22, t23, t24, t25, t26, t27, t28, t29, t30, t31, t32, t33, t34, t35, t36, t37, t38, t39, t40, t41, t42, t43, t44, t45, t46, t47, t48, t49, t50, t51, t52, t53, t54, t55, t56, t57, t58, t59, t60, t61, t62, t63, t64, t65, t66, t67, t68, t69, t70, t71, t72, t73, t74, t75, t76, t77, t78, t79, t80, t81, t82, t83, t84, t85, t86, t87, t88, t89, t90, t91, .func (.func 29) #[] #[.pointer (some ⟨B5, 0, none⟩)], .string x.1, .agg (lstL x.2).toArray, t95, t96, t97, t98, t99, t100, t101, t102, t103, t104, t105, t106, t107, t108, t109, t110, t111, t112, t113, t114, t115, t116, t117, t118, t119, t120, t121, t122, t123, t124, t125, t126, t127, t128, t129, t130, t131, t132, t133, t134, t135, t136, t137, t138, t139, t140, t141, t142], defers := [] } W := by
  obtain ⟨p9, v9, e9, f9, k9, kf, c9, n0, n1, n2, n3, n4, n5, n6, z0, z1, z2, z3, z4, z5, lt, kne, kne2⟩ := h
  have hlti : ¬ (n : Int) ≤ (j : Int) := by omega
  have hlti2 : (j : Int) < (n : Int) := by omega
  have hd0 : decide (n ≤ j) = false := decide_eq_false (by omega)
  have hw : wrap64 ((j : Nat) + 1) = (((j + 1 : Nat)) : Int) := by
    unfold wrap64
    simp
    omega
  have HGO := Aside0.mk hgo
  have HST := Aside0.mk hstop
  clear hgo hstop hj lt
  unfold bodyC lstL
  by_cases hkl : ((j + 1 : Nat) : Int) = leave
  · have hk2 : (((j + 1 : Nat) : Int) == leave) = true := by simpa using hkl
    have HKL := Aside0.mk hkl
    clear hkl
    gi_wp2_with fail
    refine wpIn_quietR (by kernel_rfl) (by kernel_rfl) (by kernel_rfl) ?_
    repeat (gi_big_quiet_step (fail))
    refine wpQuietIn_nil ?_
    intro _ hw'
    obtain ⟨nq, hw''⟩ := hw'
    subst hw''
    gi_wp2_with fail
    exact HST.out HKL.out _ _
  · have hk2 : (((j + 1 : Nat) : Int) == leave) = false := by rw [beq_eq_false_iff_ne]; exact hkl
    have HKL := Aside0.mk hkl
    clear hkl
    gi_wp2_with fail
    refine wpIn_quietR (by kernel_rfl) (by kernel_rfl) (by kernel_rfl) ?_
    repeat (gi_big_quiet_step (fail))
    refine wpQuietIn_nil ?_
    intro _ hw'
    obtain ⟨nq, hw''⟩ := hw'
    subst hw''
    gi_wp2_with fail
    exact HGO.out HKL.out _ _
set_option maxRecDepth 100000 in
set_option maxHeartbeats 8000000 in
theorem turn_other {t0 t1 t2 t3 t7 t8 t9 t10 t11 t12 t13 t14 t18 t19 t20 t21 t22 t23 t24 t25 t26 t27 t28 t29 t30 t31 t32 t33 t34 t35 t36 t37 t38 t39 t40 t41 t42 t43 t44 t45 t46 t47 t48 t49 t50 t51 t52 t53 t54 t55 t56 t57 t58 t59 t60 t61 t62 t63 t64 t65 t66 t67 t68 t69 t70 t71 t72 t73 t74 t75 t76 t77 t78 t79 t80 t81 t82 t83 t84 t85 t86 t87 t88 t89 t90 t91 t95 t96 t97 t98 t99 t100 t101 t102 t103 t104 t105 t106 t107 t108 t109 t110 t111 t112 t113 t114 t115 t116 t117 t118 t119 t120 t121 t122 t123 t124 t125 t126 t127 t128 t129 t130 t131 t132 t133 t134 t135 t136 t137 t138 t139 t140 t141 t142 : Value} (w W Wb : World) (R B5 Bx g c n l : Nat) (leave : Int) (x y : Sr) (j : Nat) (hne : x ≠ y) (h : RoundAt w W R Wb.heap.size Bx g c n leave (j : Nat) x y j) (Q : Exit → Act → World → Prop)
    (hret : ∀ a nq, Q .ret a ((W.drewN nq).setCell ⟨w.heap.size + 1 + 1, 0, none⟩ (.bool false))) :
    bodyC.wpIn (Fence.wide.inRound l) 10 Try.prog Q { tmps := #[t0, t1, t2, t3, .pointer (some ⟨w.heap.size, 0, none⟩), .pointer (some ⟨w.heap.size + 1, 0, none⟩), .pointer (some ⟨w.heap.size + 1 + 1, 0, none⟩), t7, t8, t9, t10, t11, t12, t13, t14, .pointer (some ⟨Wb.heap.size, 0, none⟩), .string x.1, .pointer (some ⟨Bx, 0, none⟩), t18, t19, t20, t21, t22, t23, t24, t25, t26, t27, t28, t29, t30, t31, t32, t33, t34, t35, t36, t37, t38, t39, t40, t41, t42, t43, t44, t45, t46, t47, t48, t49, t50, t51, t52, t53, t54, t55, t56, t57, t58, t59, t60, t61, t62, t63, t64, t65, t66, t67, t68, t69, t70, t71, t72, t73, t74, t75, t76, t77, t78, t79, t80, t81, t82, t83, t84, t85, t86, t87, t88, t89, t90, t91, .func (.func 29) #[] #[.pointer (some ⟨B5, 0, none⟩)], .string x.1, .agg (lstL x.2).toArray, t95, t96, t97, t98, t99, t100, t101, t102, t103, t104, t105, t106, t107, t108, t109, t110, t111, t112, t113, t114, t115, t116, t117, t118, t119, t120, t121, t122, t123, t124, t125, t126, t127, t128, t129, t130, t131, t132, t133, t134, t135, t136, t137, t138, t139, t140, t141, t142], defers := [] } W := by
  obtain ⟨p9, v9, e9, f9, k9, kf, c9, n0, n1, n2, n3, n4, n5, n6, z0, z1, z2, z3, z4, z5, lt, kne, kne2⟩ := h
  have hlti : ¬ (n : Int) ≤ (j : Int) := by omega
  have hlti2 : (j : Int) < (n : Int) := by omega
  have hd0 : decide (n ≤ j) = false := decide_eq_false (by omega)
  have HRET := Aside0.mk hret
  clear hret lt
  by_cases e0 : y.1 = x.1
  rotate_left
  · have b0 := tl_ne e0
    clear e0
    unfold bodyC lstL
    gi_wp2_with fail
    refine wpIn_quietR (by kernel_rfl) (by kernel_rfl) (by kernel_rfl) ?_
    repeat (gi_big_quiet_step (fail))
    refine wpQuietIn_nil ?_
    intro _ hw'
    obtain ⟨nq, hw''⟩ := hw'
    subst hw''
    gi_wp2_with fail
    exact HRET.out _ _
  have b0 := tl_eq e0
  by_cases e1 : y.2.x.nm = x.2.x.nm
  rotate_left
  · have b1 := tl_ne e1
    clear e1 e0
    unfold bodyC lstL
    gi_wp2_with fail
    refine wpIn_quietR (by kernel_rfl) (by kernel_rfl) (by kernel_rfl) ?_
    repeat (gi_big_quiet_step (fail))
    refine wpQuietIn_nil ?_
    intro _ hw'
    obtain ⟨nq, hw''⟩ := hw'
    subst hw''
    gi_wp2_with fail
    exact HRET.out _ _
  have b1 := tl_eq e1
  by_cases e2 : y.2.x.val = x.2.x.val
  rotate_left
  · have b2 : (y.2.x.val == x.2.x.val) = false := by rw [beq_eq_false_iff_ne]; exact e2
    clear e2 e0 e1
    unfold bodyC lstL
    gi_wp2_with fail
    refine wpIn_quietR (by kernel_rfl) (by kernel_rfl) (by kernel_rfl) ?_
    repeat (gi_big_quiet_step (fail))
    refine wpQuietIn_nil ?_
    intro _ hw'
    obtain ⟨nq, hw''⟩ := hw'
    subst hw''
    gi_wp2_with fail
    exact HRET.out _ _
  have b2 : (y.2.x.val == x.2.x.val) = true := by rw [e2]; simp
  by_cases e3 : y.2.x.time = x.2.x.time
  rotate_left
  · have b3 : (y.2.x.time == x.2.x.time) = false := by rw [beq_eq_false_iff_ne]; exact e3
    clear e3 e0 e1 e2
    unfold bodyC lstL
    gi_wp2_with fail
    refine wpIn_quietR (by kernel_rfl) (by kernel_rfl) (by kernel_rfl) ?_
    repeat (gi_big_quiet_step (fail))
    refine wpQuietIn_nil ?_
    intro _ hw'
    obtain ⟨nq, hw''⟩ := hw'
    subst hw''
    gi_wp2_with fail
    exact HRET.out _ _
  have b3 : (y.2.x.time == x.2.x.time) = true := by rw [e3]; simp
  by_cases e4 : y.2.x.counts = x.2.x.counts
  rotate_left
  · have b4 : (y.2.x.counts == x.2.x.counts) = false := by rw [beq_eq_false_iff_ne]; exact e4
    clear e4 e0 e1 e2 e3
    unfold bodyC lstL
    gi_wp2_with fail
    refine wpIn_quietR (by kernel_rfl) (by kernel_rfl) (by kernel_rfl) ?_
    repeat (gi_big_quiet_step (fail))
    refine wpQuietIn_nil ?_
    intro _ hw'
    obtain ⟨nq, hw''⟩ := hw'
    subst hw''
    gi_wp2_with fail
    exact HRET.out _ _
  have b4 : (y.2.x.counts == x.2.x.counts) = true := by rw [e4]; simp
  by_cases e5 : y.2.live = x.2.live
  rotate_left
  · have b5 : (y.2.live == x.2.live) = false := by rw [beq_eq_false_iff_ne]; exact e5
    clear e5 e0 e1 e2 e3 e4
    unfold bodyC lstL
    gi_wp2_with fail
    refine wpIn_quietR (by kernel_rfl) (by kernel_rfl) (by kernel_rfl) ?_
    repeat (gi_big_quiet_step (fail))
    refine wpQuietIn_nil ?_
    intro _ hw'
    obtain ⟨nq, hw''⟩ := hw'
    subst hw''
    gi_wp2_with fail
    exact HRET.out _ _
  have b5 : (y.2.live == x.2.live) = true := by rw [e5]; simp
  by_cases e6 : y.2.owner = x.2.owner
  rotate_left
  · have b6 : (y.2.owner == x.2.owner) = false := by rw [beq_eq_false_iff_ne]; exact e6
    clear e6 e0 e1 e2 e3 e4 e5
    unfold bodyC lstL
    gi_wp2_with fail
    refine wpIn_quietR (by kernel_rfl) (by kernel_rfl) (by kernel_rfl) ?_
    repeat (gi_big_quiet_step (fail))
    refine wpQuietIn_nil ?_
    intro _ hw'
    obtain ⟨nq, hw''⟩ := hw'
    subst hw''
    gi_wp2_with fail
    exact HRET.out _ _
  have b6 : (y.2.owner == x.2.owner) = true := by rw [e6]; simp
  exact absurd (show x = y by
    obtain ⟨x1, ⟨⟨x2, x3, x4, x5⟩, x6, x7⟩⟩ := x
    obtain ⟨y1, ⟨⟨y2, y3, y4, y5⟩, y6, y7⟩⟩ := y
    dsimp only at e0 e1 e2 e3 e4 e5 e6
    subst e0 e1 e2 e3 e4 e5 e6
    rfl) hne
end Go.Proofs.Ytneodhhoejjncaa
