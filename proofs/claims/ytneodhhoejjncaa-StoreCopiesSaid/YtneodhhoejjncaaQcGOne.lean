/- A text of this claim, pruned by a program of the session (prune.py) to what the theorem rests on. -/
import Derived.Test.YtneodhhoejjncaaQcGSt
namespace Go.Proofs.Ytneodhhoejjncaa
open Go.RowKit Go.Proofs.YtneodhhoejjncaaW.PrintWords
set_option linter.unusedVariables false
set_option linter.unusedSimpArgs false
set_option maxHeartbeats 1000000 in
theorem one_full (B mb : Nat) (most : Int) (f : StF) (cnt : Nat) (owner : Int) (x : Smp) (w : World) (h : StAt w B mb most f cnt) (hx : sK.ok x.nm) (hf : f x.nm = none) (hm : most ≤ cnt) :
    Calls Try.prog 24 #[.pointer (some ⟨B, 0, none⟩), .int .i64 owner, .agg (smpL x).toArray] w fun e w' => e = .returned (.agg (snL ⟨x, 4, false, 0⟩).toArray) ∧ Below w.heap.size w w' := by
  have c0 : w.cell? ⟨B, 0, none⟩ = some (.int .i64 most) := (blk_cell h.blk 0).trans rfl
  have c1 : w.cell? ⟨B, 1, none⟩ = some (.map (some mb)) := (blk_cell h.blk 1).trans rfl
  have hl : B < w.heap.size := blk_lt h.blk
  have hlook : ∀ (W : World), Below w.heap.size w W → (Instr.lookup 50 (.map (some mb)) (.string x.nm) true).run Try.prog W = .ok (.tuple #[.pointer none, .bool false]) W := fun W hb => by
    have := look_store (h.below hb) hx
    rw [hf] at this
    exact this
  have hb0 : ∀ o1 o2, Below w.heap.size w ((w.alloc o1).alloc o2) := fun o1 o2 => ((Below.refl _ w).alloc (Nat.le_refl _) o1).alloc (by simp) o2
  have hlen : ∀ (W : World), Below w.heap.size w W → ∀ ty, (Builtin.len_ #[50] ty #[.map (some mb)]).run Try.prog W = .ok (.int .i64 cnt) W := fun W hb ty => (h.below hb).map.len Try.underlying50 ty
  have q2 := fun o1 o2 n => hlook _ (pw_below_drewN (hb0 o1 o2) n)
  have q5 := fun o1 o2 n ty => hlen _ (pw_below_drewN (hb0 o1 o2) n) ty
  clear h hlook hlen hb0 hf
  unfold smpL snL
  go_enter Try.func24, Try.ntmps24
  go_wp2_with fail
  go_quiet (fail)
  go_wp2_with fail
  go_quiet (fail)
  go_wp2_with fail
  refine bodyPost_ret (v := .agg #[.string x.nm, .int .i64 x.val, .int .i64 x.time, .bool x.counts, .int .i64 4, .bool false, .int .i64 0]) (by simp [results, Try.results24, go_sem]) rfl ⟨rfl, ?_⟩
  have hb : ∀ o1 o2 n, Below w.heap.size w (((w.alloc o1).alloc o2).drewN n) := fun o1 o2 n => pw_below_drewN (((Below.refl _ w).alloc (Nat.le_refl _) o1).alloc (by simp) o2) n
  repeat (refine Below.setCell ?_ (Nat.le_succ _) _)
  exact hb _ _ _
theorem size_push (w : World) (o : Obj) : (w.alloc o).heap.size = w.heap.size + 1 := by simp
theorem cell_blk {w w' : World} {k : Nat} (off : Nat) (h : w'.heap[k]? = w.heap[k]?) : w'.cell? ⟨k, off, none⟩ = w.cell? ⟨k, off, none⟩ := World.cell?_of_block (w := w) h
set_option maxRecDepth 100000 in
set_option maxHeartbeats 1000000 in
theorem one_room (B mb : Nat) (most : Int) (f : StF) (cnt : Nat) (owner : Int) (x : Smp) (w : World) (h : StAt w B mb most f cnt) (hx : sK.ok x.nm) (hf : f x.nm = none) (hm : (cnt : Int) < most) (hc : cnt < maxLen) :
    Calls Try.prog 24 #[.pointer (some ⟨B, 0, none⟩), .int .i64 owner, .agg (smpL x).toArray] w fun e w' => e = .returned (.agg (snL ⟨x, 1, false, 0⟩).toArray) ∧ ∃ p, w.heap.size ≤ p ∧ StAt w' B mb most (updF f x.nm (some (p, ⟨x, true, owner⟩))) (cnt + 1) ∧ KeptOff (foot B mb f) w w' := by
  have c0 : w.cell? ⟨B, 0, none⟩ = some (.int .i64 most) := (blk_cell h.blk 0).trans rfl
  have c1 : w.cell? ⟨B, 1, none⟩ = some (.map (some mb)) := (blk_cell h.blk 1).trans rfl
  have hl : B < w.heap.size := blk_lt h.blk
  have hlook : ∀ (W : World), Below w.heap.size w W → (Instr.lookup 50 (.map (some mb)) (.string x.nm) true).run Try.prog W = .ok (.tuple #[.pointer none, .bool false]) W := fun W hb => by
    have := look_store (h.below hb) hx
    rw [hf] at this
    exact this
  have hb0 : ∀ o1 o2, Below w.heap.size w ((w.alloc o1).alloc o2) := fun o1 o2 => ((Below.refl _ w).alloc (Nat.le_refl _) o1).alloc (by simp) o2
  have hb1 : ∀ o1 o2 o3, Below w.heap.size w (((w.alloc o1).alloc o2).alloc o3) := fun o1 o2 o3 => (hb0 o1 o2).alloc (by simp; omega) o3
  have hlen : ∀ (W : World), Below w.heap.size w W → ∀ ty, (Builtin.len_ #[50] ty #[.map (some mb)]).run Try.prog W = .ok (.int .i64 cnt) W := fun W hb ty => (h.below hb).map.len Try.underlying50 ty
  have q2 := fun o1 o2 n => hlook _ (pw_below_drewN (hb0 o1 o2) n)
  have q5 := fun o1 o2 n ty => hlen _ (pw_below_drewN (hb0 o1 o2) n) ty
  have hput : ∀ (W : World), Below w.heap.size w W → ∀ p, (Instr.mapUpdate 50 (.map (some mb)) (.string x.nm) (.pointer (some ⟨p, 0, none⟩))).run Try.prog W = .ok () (putW Try.prog 50 mb (.string x.nm) (ptrV p) W) :=
    fun W hb p => ((h.below hb).map.putW Try.underlying50 hc hx (ptrV p)).1
  have hb2 : ∀ o1 o2 o3 n, Below w.heap.size w ((((w.alloc o1).alloc o2).drewN n).alloc o3) := fun o1 o2 o3 n => (pw_below_drewN (hb0 o1 o2) n).alloc (by show w.heap.size ≤ ((w.alloc o1).alloc o2).heap.size; simp; omega) o3
  have q6 := fun o1 o2 o3 n p => hput _ (hb2 o1 o2 o3 n) p
  have q8 := fun o1 o2 o3 n m p => hput _ (pw_below_drewN (hb2 o1 o2 o3 n) m) p
  have r1 : ∀ o1 o2 o3 n, ((((w.alloc o1).alloc o2).drewN n).alloc o3).cell? ⟨B, 1, none⟩ = some (.map (some mb)) := fun o1 o2 o3 n => ((hb2 o1 o2 o3 n).cell (p := ⟨B, 1, none⟩) hl).trans c1
  have q7 := fun (W : World) => run_eql_map_nil (P := Try.prog) W 50 9 65 (some mb) Try.underlying50
  have n0 : B ≠ w.heap.size := by omega
  have n1 : B ≠ w.heap.size + 1 := by omega
  have n2 : B ≠ w.heap.size + 1 + 1 := by omega
  have hmbl : mb < w.heap.size := h.map.lt
  have hnb : ∀ k, w.heap.size ≤ k → ¬ foot B mb f k := fun k hk hf => by have := h.lt hf; omega
  have hst : ∀ o1 o2 n, StAt (putW Try.prog 50 mb (.string x.nm) (ptrV (w.heap.size + 1 + 1)) ((((w.alloc o1).alloc o2).drewN n).alloc (.cells (lstL ⟨x, true, owner⟩).toArray 54))) B mb most (updF f x.nm (some (w.heap.size + 1 + 1, ⟨x, true, owner⟩))) (cnt + 1) ∧
      ((((w.alloc o1).alloc o2).drewN n).alloc (.cells (lstL ⟨x, true, owner⟩).toArray 54)).grownBy (putW Try.prog 50 mb (.string x.nm) (ptrV (w.heap.size + 1 + 1)) ((((w.alloc o1).alloc o2).drewN n).alloc (.cells (lstL ⟨x, true, owner⟩).toArray 54))) (some mb) := fun o1 o2 n =>
    (h.below (hb2 o1 o2 _ n)).put hx hf hc (w.heap.size + 1 + 1) ⟨x, true, owner⟩ (by
      have := blk_new (((w.alloc o1).alloc o2).drewN n) (.cells (lstL ⟨x, true, owner⟩).toArray 54)
      have e : (((w.alloc o1).alloc o2).drewN n).heap.size = w.heap.size + 1 + 1 := by show ((w.alloc o1).alloc o2).heap.size = _; rw [size_push, size_push]
      rwa [e] at this) (hnb _ (by omega))
  have e3 : ∀ (o1 o2 o3 : Obj) (n : Nat), ((((w.alloc o1).alloc o2).drewN n).alloc o3).heap.size = w.heap.size + 1 + 1 + 1 := fun o1 o2 o3 n => by
    rw [size_push]
    show ((w.alloc o1).alloc o2).heap.size + 1 = _
    rw [size_push, size_push]
  have e2 : ∀ (o1 o2 : Obj), ((w.alloc o1).alloc o2).heap.size = w.heap.size + 1 + 1 := fun o1 o2 => by rw [size_push, size_push]
  have hcell : ∀ o1 o2 n k, k ≠ mb → k < w.heap.size + 1 + 1 → (putW Try.prog 50 mb (.string x.nm) (ptrV (w.heap.size + 1 + 1)) ((((w.alloc o1).alloc o2).drewN n).alloc (.cells (lstL ⟨x, true, owner⟩).toArray 54))).heap[k]? = ((w.alloc o1).alloc o2).heap[k]? := fun o1 o2 n k hk hk2 =>
    ((hst o1 o2 n).2.block k (by rw [e3]; omega) (fun e => hk (Option.some.inj e))).trans (Below.heap_alloc (((w.alloc o1).alloc o2).drewN n) _ k (Nat.lt_of_lt_of_eq hk2 (e2 o1 o2).symm))
  have r2 := fun o1 o2 n off => cell_blk off (hcell o1 o2 n B (by intro e; subst e; obtain ⟨es, c, hm⟩ := h.map.obj; rw [h.blk] at hm; cases hm) (by omega))
  have r3 := fun o1 o2 n off => cell_blk off (hcell o1 o2 n w.heap.size (by omega) (by omega))
  have r4 := fun o1 o2 n off => cell_blk off (hcell o1 o2 n (w.heap.size + 1) (by omega) (by omega))
  have r5 : ∀ o1 n off, (putW Try.prog 50 mb (.string x.nm) (ptrV (w.heap.size + 1 + 1)) ((((w.alloc o1).alloc (.cells #[.string ⟨#[]⟩, .int .i64 0, .int .i64 0, .bool false, .int .i64 0, .bool false, .int .i64 0] 37)).drewN n).alloc (.cells (lstL ⟨x, true, owner⟩).toArray 54))).frozen? ⟨w.heap.size + 1, off, none⟩ = false := fun o1 n off => by
    have hn := blk_new (w.alloc o1) (.cells #[.string ⟨#[]⟩, .int .i64 0, .int .i64 0, .bool false, .int .i64 0, .bool false, .int .i64 0] 37)
    rw [size_push] at hn
    exact blk_frozen ((hcell o1 _ n (w.heap.size + 1) (by omega) (by omega)).trans hn) off
  have HST := Aside0.mk hst
  have HNB := Aside0.mk hnb
  clear hst hcell hnb
  unfold lstL at r2 r3 r4 r5
  have H := Aside0.mk h
  clear h hlook hlen hb0 hb1 hput hb2
  unfold smpL snL
  go_enter Try.func24, Try.ntmps24
  go_wp2_with fail
  go_quiet (fail)
  go_wp2_with fail
  go_quiet (fail)
  go_wp2_with fail
  go_region_held3 (fun w' => w'.cell? ⟨w.heap.size, 0, none⟩ = some (.string x.nm) ∧ w'.cell? ⟨w.heap.size, 1, none⟩ = some (.int .i64 x.val) ∧ w'.cell? ⟨w.heap.size, 2, none⟩ = some (.int .i64 x.time) ∧ w'.cell? ⟨w.heap.size, 3, none⟩ = some (.bool x.counts) ∧ w'.cell? ⟨B, 1, none⟩ = some (.map (some mb))) (first | go_keep) (first | fail)
  go_wp2_with fail
  refine bodyPost_ret (v := .agg #[.string x.nm, .int .i64 x.val, .int .i64 x.time, .bool x.counts, .int .i64 1, .bool false, .int .i64 0]) (by simp [results, Try.results24, go_sem, r4]) rfl ⟨rfl, w.heap.size + 1 + 1, by omega, ?_, ?_⟩
  · have hno : ¬ foot B mb (updF f x.nm (some (w.heap.size + 1 + 1, ⟨x, true, owner⟩))) (w.heap.size + 1) := by
      rintro (h | h | ⟨s, y, hs, h⟩)
      · omega
      · omega
      · unfold updF at h
        split at h
        · have := congrArg Prod.fst (Option.some.inj h)
          have h2 : w.heap.size + 1 + 1 = w.heap.size + 1 := this
          omega
        · exact HNB.out _ (by omega) (Or.inr (Or.inr ⟨s, y, hs, h⟩))
    repeat (refine StAt.setCell ?_ hno _)
    exact (HST.out _ _ _).1
  · repeat (refine KeptOff.setCell ?_ (Or.inl (Nat.le_succ _)) _)
    exact KeptOff.grown ((((KeptOff.refl _ w).alloc _).alloc _).drewN _ |>.alloc _) (HST.out _ _ _).2 (fun k e => Or.inr (Or.inr (Or.inl (Option.some.inj e).symm)))
set_option maxHeartbeats 1000000 in
theorem one_order (B mb : Nat) (most : Int) (f : StF) (cnt : Nat) (owner : Int) (x : Smp) (w : World) (h : StAt w B mb most f cnt) (hx : sK.ok x.nm) (p : Nat) (was : Lst) (hf : f x.nm = some (p, was)) (hm : x.time < was.x.time) :
    Calls Try.prog 24 #[.pointer (some ⟨B, 0, none⟩), .int .i64 owner, .agg (smpL x).toArray] w fun e w' => e = .returned (.agg (snL ⟨x, 2, false, 0⟩).toArray) ∧ Below w.heap.size w w' := by
  have c1 : w.cell? ⟨B, 1, none⟩ = some (.map (some mb)) := (blk_cell h.blk 1).trans rfl
  have hl : B < w.heap.size := blk_lt h.blk
  have hpb := h.els x.nm p was hx hf
  have hpl : p < w.heap.size := blk_lt hpb
  have d0 : w.cell? ⟨p, 0, none⟩ = some (.string was.x.nm) := (blk_cell hpb 0).trans rfl
  have d1 : w.cell? ⟨p, 1, none⟩ = some (.int .i64 was.x.val) := (blk_cell hpb 1).trans rfl
  have d2 : w.cell? ⟨p, 2, none⟩ = some (.int .i64 was.x.time) := (blk_cell hpb 2).trans rfl
  have d3 : w.cell? ⟨p, 3, none⟩ = some (.bool was.x.counts) := (blk_cell hpb 3).trans rfl
  have d4 : w.cell? ⟨p, 4, none⟩ = some (.bool was.live) := (blk_cell hpb 4).trans rfl
  have d5 : w.cell? ⟨p, 5, none⟩ = some (.int .i64 was.owner) := (blk_cell hpb 5).trans rfl
  have hlook : ∀ (W : World), Below w.heap.size w W → (Instr.lookup 50 (.map (some mb)) (.string x.nm) true).run Try.prog W = .ok (.tuple #[.pointer (some ⟨p, 0, none⟩), .bool true]) W := fun W hb => by
    have := look_store (h.below hb) hx
    rw [hf] at this
    exact this
  have hb0 : ∀ o1 o2, Below w.heap.size w ((w.alloc o1).alloc o2) := fun o1 o2 => ((Below.refl _ w).alloc (Nat.le_refl _) o1).alloc (by simp) o2
  have q2 := fun o1 o2 n => hlook _ (pw_below_drewN (hb0 o1 o2) n)
  have n0 : p ≠ w.heap.size := by omega
  have n1 : p ≠ w.heap.size + 1 := by omega
  have n2 : p ≠ w.heap.size + 1 + 1 := by omega
  have t0 : decide (x.time < was.x.time) = true := decide_eq_true hm
  clear h hlook hb0 hf hpb hm
  unfold smpL snL
  go_enter Try.func24, Try.ntmps24
  go_wp2_with fail
  go_quiet (fail)
  go_wp2_with fail
  go_quiet (fail)
  go_wp2_with fail
  go_quiet (fail)
  go_wp2_with fail
  refine bodyPost_ret (v := .agg #[.string x.nm, .int .i64 x.val, .int .i64 x.time, .bool x.counts, .int .i64 2, .bool false, .int .i64 0]) (by simp [results, Try.results24, go_sem]) rfl ⟨rfl, ?_⟩
  have hb : ∀ o1 o2 n, Below w.heap.size w (((w.alloc o1).alloc o2).drewN n) := fun o1 o2 n => pw_below_drewN (((Below.refl _ w).alloc (Nat.le_refl _) o1).alloc (by simp) o2) n
  repeat (refine Below.setCell ?_ (Nat.le_succ _) _)
  exact hb _ _ _
set_option maxHeartbeats 1000000 in
theorem one_twice (B mb : Nat) (most : Int) (f : StF) (cnt : Nat) (owner : Int) (x : Smp) (w : World) (h : StAt w B mb most f cnt) (hx : sK.ok x.nm) (p : Nat) (was : Lst) (hf : f x.nm = some (p, was)) (hm : x.time = was.x.time) :
    Calls Try.prog 24 #[.pointer (some ⟨B, 0, none⟩), .int .i64 owner, .agg (smpL x).toArray] w fun e w' => e = .returned (.agg (snL ⟨x, 3, false, 0⟩).toArray) ∧ Below w.heap.size w w' := by
  have c1 : w.cell? ⟨B, 1, none⟩ = some (.map (some mb)) := (blk_cell h.blk 1).trans rfl
  have hl : B < w.heap.size := blk_lt h.blk
  have hpb := h.els x.nm p was hx hf
  have hpl : p < w.heap.size := blk_lt hpb
  have d0 : w.cell? ⟨p, 0, none⟩ = some (.string was.x.nm) := (blk_cell hpb 0).trans rfl
  have d1 : w.cell? ⟨p, 1, none⟩ = some (.int .i64 was.x.val) := (blk_cell hpb 1).trans rfl
  have d2 : w.cell? ⟨p, 2, none⟩ = some (.int .i64 was.x.time) := (blk_cell hpb 2).trans rfl
  have d3 : w.cell? ⟨p, 3, none⟩ = some (.bool was.x.counts) := (blk_cell hpb 3).trans rfl
  have d4 : w.cell? ⟨p, 4, none⟩ = some (.bool was.live) := (blk_cell hpb 4).trans rfl
  have d5 : w.cell? ⟨p, 5, none⟩ = some (.int .i64 was.owner) := (blk_cell hpb 5).trans rfl
  have hlook : ∀ (W : World), Below w.heap.size w W → (Instr.lookup 50 (.map (some mb)) (.string x.nm) true).run Try.prog W = .ok (.tuple #[.pointer (some ⟨p, 0, none⟩), .bool true]) W := fun W hb => by
    have := look_store (h.below hb) hx
    rw [hf] at this
    exact this
  have hb0 : ∀ o1 o2, Below w.heap.size w ((w.alloc o1).alloc o2) := fun o1 o2 => ((Below.refl _ w).alloc (Nat.le_refl _) o1).alloc (by simp) o2
  have q2 := fun o1 o2 n => hlook _ (pw_below_drewN (hb0 o1 o2) n)
  have n0 : p ≠ w.heap.size := by omega
  have n1 : p ≠ w.heap.size + 1 := by omega
  have n2 : p ≠ w.heap.size + 1 + 1 := by omega
  have t0 : decide (x.time < was.x.time) = false := decide_eq_false (by omega)
  have t1 : (x.time == was.x.time) = true := by simpa using hm
  clear h hlook hb0 hf hpb hm
  unfold smpL snL
  go_enter Try.func24, Try.ntmps24
  go_wp2_with fail
  go_quiet (fail)
  go_wp2_with fail
  go_quiet (fail)
  go_wp2_with fail
  go_quiet (fail)
  go_wp2_with fail
  go_quiet (fail)
  go_wp2_with fail
  refine bodyPost_ret (v := .agg #[.string x.nm, .int .i64 x.val, .int .i64 x.time, .bool x.counts, .int .i64 3, .bool false, .int .i64 0]) (by simp [results, Try.results24, go_sem]) rfl ⟨rfl, ?_⟩
  have hb : ∀ o1 o2 n, Below w.heap.size w (((w.alloc o1).alloc o2).drewN n) := fun o1 o2 n => pw_below_drewN (((Below.refl _ w).alloc (Nat.le_refl _) o1).alloc (by simp) o2) n
  repeat (refine Below.setCell ?_ (Nat.le_succ _) _)
  exact hb _ _ _
theorem heap_drew (W : World) : W.drew.heap = W.heap := rfl
theorem KeptOff.drew {F : Nat → Prop} {w W : World} (h : KeptOff F w W) : KeptOff F w W.drew := ⟨h.os, h.tape, h.output, h.size, h.block⟩
theorem far6 (W : World) (q : Nat) (a b c d e f : Value) (k : Nat) (h : k ≠ q) : ((((((W.setCell ⟨q, 0, none⟩ a).setCell ⟨q, 1, none⟩ b).setCell ⟨q, 2, none⟩ c).setCell ⟨q, 3, none⟩ d).setCell ⟨q, 4, none⟩ e).setCell ⟨q, 5, none⟩ f).heap[k]? = W.heap[k]? := by
  rw [Below.heap_setCell _ _ _ _ h, Below.heap_setCell _ _ _ _ h, Below.heap_setCell _ _ _ _ h, Below.heap_setCell _ _ _ _ h, Below.heap_setCell _ _ _ _ h, Below.heap_setCell _ _ _ _ h]
theorem far7 (W : World) (q : Nat) (a b c d e f g : Value) (k : Nat) (h : k ≠ q) : (((((((W.setCell ⟨q, 0, none⟩ a).setCell ⟨q, 1, none⟩ b).setCell ⟨q, 2, none⟩ c).setCell ⟨q, 3, none⟩ d).setCell ⟨q, 4, none⟩ e).setCell ⟨q, 5, none⟩ f).setCell ⟨q, 6, none⟩ g).heap[k]? = W.heap[k]? := by
  rw [Below.heap_setCell _ _ _ _ h, far6 _ _ _ _ _ _ _ _ _ h]
theorem set6 (W : World) (p : Nat) {cs : Array Value} {t : TypeId} (hs : cs.size = 6) (h : W.heap[p]? = some (.cells cs t (0, 0))) (a b c d e f : Value) :
    ((((((W.setCell ⟨p, 0, none⟩ a).setCell ⟨p, 1, none⟩ b).setCell ⟨p, 2, none⟩ c).setCell ⟨p, 3, none⟩ d).setCell ⟨p, 4, none⟩ e).setCell ⟨p, 5, none⟩ f).heap[p]? = some (.cells #[a, b, c, d, e, f] t (0, 0)) := by
  obtain ⟨l⟩ := cs
  match l, hs with
  | [x0, x1, x2, x3, x4, x5], _ => exact blk_set (blk_set (blk_set (blk_set (blk_set (blk_set h 0 a) 1 b) 2 c) 3 d) 4 e) 5 f
theorem StAt.turn {w w' : World} {B mb : Nat} {most : Int} {f : StF} {cnt : Nat} (h : StAt w B mb most f cnt) {s : ByteArray} (hs : sK.ok s) {p : Nat} {was l : Lst} (hf : f s = some (p, was)) (hp : w'.heap[p]? = some (.cells (lstL l).toArray 54 (0, 0))) (hk : ∀ k, foot B mb f k → k ≠ p → w'.heap[k]? = w.heap[k]?) :
    StAt w' B mb most (updF f s (some (p, l))) cnt := by
  have hpb := h.els s p was hs hf
  have hne : ∀ {k : Nat} {o : Obj}, foot B mb f k → w.heap[k]? = some o → (∀ cs fr, o ≠ .cells cs 54 fr) → w'.heap[k]? = some o := fun {k o} hk1 hk2 ho => (hk k hk1 (fun e => by subst e; rw [hpb] at hk2; exact ho _ _ (Option.some.inj hk2).symm)).trans hk2
  obtain ⟨es, clock, hmb⟩ := h.map.obj
  refine ⟨hne (Or.inl rfl) h.blk (fun cs fr e => by cases e), ?_, fun t q x ht hq => ?_, fun t u q x y ht hu hq hr => ?_⟩
  · refine (h.map.kept (by rw [hne (Or.inr (Or.inl rfl)) hmb (fun cs fr e => by cases e), hmb])).congr fun t ht => ?_
    unfold updF
    split
    · rename_i e
      rw [e, hf]
      rfl
    · rfl
  · unfold updF at hq
    split at hq
    · obtain ⟨rfl, rfl⟩ : p = q ∧ l = x := by simpa using hq
      exact hp
    · rename_i hts
      rw [hk q (Or.inr (Or.inr ⟨t, x, ht, hq⟩)) (fun e => hts (h.inj t s q x was ht hs hq (by rw [e]; exact hf)))]
      exact h.els t q x ht hq
  · unfold updF at hq hr
    split at hq
    · rename_i e1
      split at hr
      · rename_i e2
        rw [e1, e2]
      · obtain ⟨rfl, _⟩ : p = q ∧ l = x := by simpa using hq
        rw [e1]
        exact h.inj s u p was y hs hu hf hr
    · split at hr
      · rename_i e2
        obtain ⟨rfl, _⟩ : p = q ∧ l = y := by simpa using hr
        rw [e2]
        exact h.inj t s p x was ht hs hq hf
      · exact h.inj t u q x y ht hu hq hr
set_option maxRecDepth 100000 in
set_option maxHeartbeats 1000000 in
theorem one_on (B mb : Nat) (most : Int) (f : StF) (cnt : Nat) (owner : Int) (x : Smp) (w : World) (h : StAt w B mb most f cnt) (hx : sK.ok x.nm) (p : Nat) (was : Lst) (hf : f x.nm = some (p, was)) (hm : was.x.time < x.time) (hlive : was.live = false) :
    Calls Try.prog 24 #[.pointer (some ⟨B, 0, none⟩), .int .i64 owner, .agg (smpL x).toArray] w fun e w' => e = .returned (.agg (snL ⟨x, 1, false, 0⟩).toArray) ∧ StAt w' B mb most (updF f x.nm (some (p, ⟨x, true, owner⟩))) cnt ∧ KeptOff (foot B mb f) w w' := by
  have c1 : w.cell? ⟨B, 1, none⟩ = some (.map (some mb)) := (blk_cell h.blk 1).trans rfl
  have hl : B < w.heap.size := blk_lt h.blk
  have hpb := h.els x.nm p was hx hf
  have hpl : p < w.heap.size := blk_lt hpb
  have d0 : w.cell? ⟨p, 0, none⟩ = some (.string was.x.nm) := (blk_cell hpb 0).trans rfl
  have d1 : w.cell? ⟨p, 1, none⟩ = some (.int .i64 was.x.val) := (blk_cell hpb 1).trans rfl
  have d2 : w.cell? ⟨p, 2, none⟩ = some (.int .i64 was.x.time) := (blk_cell hpb 2).trans rfl
  have d3 : w.cell? ⟨p, 3, none⟩ = some (.bool was.x.counts) := (blk_cell hpb 3).trans rfl
  have d4 : w.cell? ⟨p, 4, none⟩ = some (.bool was.live) := (blk_cell hpb 4).trans rfl
  have d5 : w.cell? ⟨p, 5, none⟩ = some (.int .i64 was.owner) := (blk_cell hpb 5).trans rfl
  have hlook : ∀ (W : World), Below w.heap.size w W → (Instr.lookup 50 (.map (some mb)) (.string x.nm) true).run Try.prog W = .ok (.tuple #[.pointer (some ⟨p, 0, none⟩), .bool true]) W := fun W hb => by
    have := look_store (h.below hb) hx
    rw [hf] at this
    exact this
  have hb0 : ∀ o1 o2, Below w.heap.size w ((w.alloc o1).alloc o2) := fun o1 o2 => ((Below.refl _ w).alloc (Nat.le_refl _) o1).alloc (by simp) o2
  have q2 := fun o1 o2 n => hlook _ (pw_below_drewN (hb0 o1 o2) n)
  have n0 : p ≠ w.heap.size := by omega
  have n1 : p ≠ w.heap.size + 1 := by omega
  have n2 : p ≠ w.heap.size + 1 + 1 := by omega
  have t0 : decide (x.time < was.x.time) = false := decide_eq_false (by omega)
  have t1 : (x.time == was.x.time) = false := by rw [beq_eq_false_iff_ne]; omega
  have f0 : ∀ off, w.frozen? ⟨p, off, none⟩ = false := fun off => blk_frozen hpb off
  rw [hlive] at d4
  have hb3 : ∀ o1 o2 o3 n, Below w.heap.size w ((((w.alloc o1).alloc o2).drewN n).alloc o3) := fun o1 o2 o3 n => (pw_below_drewN (hb0 o1 o2) n).alloc (by show w.heap.size ≤ ((w.alloc o1).alloc o2).heap.size; rw [size_push, size_push]; omega) o3
  have hb4 := hb3
  have HB4 := Aside0.mk hb4
  have g0 := fun o1 o2 o3 n => ((hb3 o1 o2 o3 n).cell (p := ⟨p, 0, none⟩) hpl).trans d0
  have g1 := fun o1 o2 o3 n => ((hb3 o1 o2 o3 n).cell (p := ⟨p, 1, none⟩) hpl).trans d1
  have g2 := fun o1 o2 o3 n => ((hb3 o1 o2 o3 n).cell (p := ⟨p, 2, none⟩) hpl).trans d2
  have g3 := fun o1 o2 o3 n => ((hb3 o1 o2 o3 n).cell (p := ⟨p, 3, none⟩) hpl).trans d3
  have g4 := fun o1 o2 o3 n => ((hb3 o1 o2 o3 n).cell (p := ⟨p, 4, none⟩) hpl).trans d4
  have g5 := fun o1 o2 o3 n => ((hb3 o1 o2 o3 n).cell (p := ⟨p, 5, none⟩) hpl).trans d5
  have g6 := fun o1 o2 o3 n off => ((hb3 o1 o2 o3 n).frozen (p := ⟨p, off, none⟩) hpl).trans (f0 off)
  have n3 : w.heap.size ≠ p := Ne.symm n0
  have n4 : w.heap.size + 1 ≠ p := Ne.symm n1
  have n5 : w.heap.size + 1 + 1 ≠ p := Ne.symm n2
  have H := Aside0.mk h
  have HF := Aside0.mk hf
  have HP := Aside0.mk hpb
  clear h hlook hb0 hf hm hpb hb3 hb4
  unfold smpL snL
  go_enter Try.func24, Try.ntmps24
  go_wp2_with fail
  go_quiet (fail)
  go_wp2_with fail
  go_quiet (fail)
  go_wp2_with fail
  go_quiet (fail)
  go_wp2_with fail
  go_quiet (fail)
  go_wp2_with fail
  refine bodyPost_ret (v := .agg #[.string x.nm, .int .i64 x.val, .int .i64 x.time, .bool x.counts, .int .i64 1, .bool false, .int .i64 0]) (by simp [results, Try.results24, go_sem]) rfl ⟨rfl, ?_, ?_⟩
  · have hb4 := HB4.out
    refine StAt.turn H.out hx HF.out ?_ ?_
    · rw [far7 _ _ _ _ _ _ _ _ _ _ (Ne.symm n4)]
      exact set6 _ _ (cs := (lstL was).toArray) (by simp [lstL]) (((hb4 _ _ _ _).block p hpl).trans HP.out) _ _ _ _ _ _
    · intro k hk hkp
      have hkl := H.out.lt hk
      rw [far7 _ _ _ _ _ _ _ _ _ _ (by omega), far6 _ _ _ _ _ _ _ _ _ hkp]
      exact (hb4 _ _ _ _).block k hkl
  · repeat (refine KeptOff.setCell ?_ (Or.inl (Nat.le_succ _)) _)
    repeat (refine KeptOff.setCell ?_ (Or.inr (Or.inr (Or.inr ⟨x.nm, was, hx, HF.out⟩))) _)
    exact ((((KeptOff.refl _ w).alloc _).alloc _).drewN _).alloc _
set_option maxRecDepth 100000 in
set_option maxHeartbeats 1000000 in
theorem one_live (B mb : Nat) (most : Int) (f : StF) (cnt : Nat) (owner : Int) (x : Smp) (w : World) (h : StAt w B mb most f cnt) (hx : sK.ok x.nm) (p : Nat) (was : Lst) (hf : f x.nm = some (p, was)) (hm : was.x.time < x.time) (hlive : was.live = true) :
    Calls Try.prog 24 #[.pointer (some ⟨B, 0, none⟩), .int .i64 owner, .agg (smpL x).toArray] w fun e w' => e = .returned (.agg (snL ⟨x, 1, true, was.x.val⟩).toArray) ∧ StAt w' B mb most (updF f x.nm (some (p, ⟨x, true, owner⟩))) cnt ∧ KeptOff (foot B mb f) w w' := by
  have c1 : w.cell? ⟨B, 1, none⟩ = some (.map (some mb)) := (blk_cell h.blk 1).trans rfl
  have hl : B < w.heap.size := blk_lt h.blk
  have hpb := h.els x.nm p was hx hf
  have hpl : p < w.heap.size := blk_lt hpb
  have d0 : w.cell? ⟨p, 0, none⟩ = some (.string was.x.nm) := (blk_cell hpb 0).trans rfl
  have d1 : w.cell? ⟨p, 1, none⟩ = some (.int .i64 was.x.val) := (blk_cell hpb 1).trans rfl
  have d2 : w.cell? ⟨p, 2, none⟩ = some (.int .i64 was.x.time) := (blk_cell hpb 2).trans rfl
  have d3 : w.cell? ⟨p, 3, none⟩ = some (.bool was.x.counts) := (blk_cell hpb 3).trans rfl
  have d4 : w.cell? ⟨p, 4, none⟩ = some (.bool was.live) := (blk_cell hpb 4).trans rfl
  have d5 : w.cell? ⟨p, 5, none⟩ = some (.int .i64 was.owner) := (blk_cell hpb 5).trans rfl
  have hlook : ∀ (W : World), Below w.heap.size w W → (Instr.lookup 50 (.map (some mb)) (.string x.nm) true).run Try.prog W = .ok (.tuple #[.pointer (some ⟨p, 0, none⟩), .bool true]) W := fun W hb => by
    have := look_store (h.below hb) hx
    rw [hf] at this
    exact this
  have hb0 : ∀ o1 o2, Below w.heap.size w ((w.alloc o1).alloc o2) := fun o1 o2 => ((Below.refl _ w).alloc (Nat.le_refl _) o1).alloc (by simp) o2
  have q2 := fun o1 o2 n => hlook _ (pw_below_drewN (hb0 o1 o2) n)
  have n0 : p ≠ w.heap.size := by omega
  have n1 : p ≠ w.heap.size + 1 := by omega
  have n2 : p ≠ w.heap.size + 1 + 1 := by omega
  have t0 : decide (x.time < was.x.time) = false := decide_eq_false (by omega)
  have t1 : (x.time == was.x.time) = false := by rw [beq_eq_false_iff_ne]; omega
  have f0 : ∀ off, w.frozen? ⟨p, off, none⟩ = false := fun off => blk_frozen hpb off
  rw [hlive] at d4
  have hb3 : ∀ o1 o2 o3 n, Below w.heap.size w ((((w.alloc o1).alloc o2).drewN n).alloc o3) := fun o1 o2 o3 n => (pw_below_drewN (hb0 o1 o2) n).alloc (by show w.heap.size ≤ ((w.alloc o1).alloc o2).heap.size; rw [size_push, size_push]; omega) o3
  have hb4 := hb3
  have HB4 := Aside0.mk hb4
  have g0 := fun o1 o2 o3 n => ((hb3 o1 o2 o3 n).cell (p := ⟨p, 0, none⟩) hpl).trans d0
  have g1 := fun o1 o2 o3 n => ((hb3 o1 o2 o3 n).cell (p := ⟨p, 1, none⟩) hpl).trans d1
  have g2 := fun o1 o2 o3 n => ((hb3 o1 o2 o3 n).cell (p := ⟨p, 2, none⟩) hpl).trans d2
  have g3 := fun o1 o2 o3 n => ((hb3 o1 o2 o3 n).cell (p := ⟨p, 3, none⟩) hpl).trans d3
  have g4 := fun o1 o2 o3 n => ((hb3 o1 o2 o3 n).cell (p := ⟨p, 4, none⟩) hpl).trans d4
  have g5 := fun o1 o2 o3 n => ((hb3 o1 o2 o3 n).cell (p := ⟨p, 5, none⟩) hpl).trans d5
  have g6 := fun o1 o2 o3 n off => ((hb3 o1 o2 o3 n).frozen (p := ⟨p, off, none⟩) hpl).trans (f0 off)
  have n3 : w.heap.size ≠ p := Ne.symm n0
  have n4 : w.heap.size + 1 ≠ p := Ne.symm n1
  have n5 : w.heap.size + 1 + 1 ≠ p := Ne.symm n2
  have H := Aside0.mk h
  have HF := Aside0.mk hf
  have HP := Aside0.mk hpb
  clear h hlook hb0 hf hm hpb hb3 hb4
  unfold smpL snL
  go_enter Try.func24, Try.ntmps24
  go_wp2_with fail
  go_quiet (fail)
  go_wp2_with fail
  go_quiet (fail)
  go_wp2_with fail
  go_quiet (fail)
  go_wp2_with fail
  go_quiet (fail)
  go_wp2_with fail
  go_region_held3 (fun w' => w'.cell? ⟨p, 1, none⟩ = some (.int .i64 was.x.val)) (first | go_keep) (first | fail)
  go_wp2_with fail
  refine bodyPost_ret (v := .agg #[.string x.nm, .int .i64 x.val, .int .i64 x.time, .bool x.counts, .int .i64 1, .bool true, .int .i64 was.x.val]) (by simp [results, Try.results24, go_sem]) rfl ⟨rfl, ?_, ?_⟩
  · have hb4 := HB4.out
    refine StAt.turn H.out hx HF.out ?_ ?_
    · rw [heap_drew, far7 _ _ _ _ _ _ _ _ _ _ (Ne.symm n4)]
      exact set6 _ _ (cs := (lstL was).toArray) (by simp [lstL]) (((hb4 _ _ _ _).block p hpl).trans HP.out) _ _ _ _ _ _
    · intro k hk hkp
      have hkl := H.out.lt hk
      rw [heap_drew, far7 _ _ _ _ _ _ _ _ _ _ (by omega), far6 _ _ _ _ _ _ _ _ _ hkp]
      exact (hb4 _ _ _ _).block k hkl
  · refine KeptOff.drew ?_
    repeat (refine KeptOff.setCell ?_ (Or.inl (Nat.le_succ _)) _)
    repeat (refine KeptOff.setCell ?_ (Or.inr (Or.inr (Or.inr ⟨x.nm, was, hx, HF.out⟩))) _)
    exact ((((KeptOff.refl _ w).alloc _).alloc _).drewN _).alloc _
end Go.Proofs.Ytneodhhoejjncaa
