/- A text of this claim, pruned by a program of the session (prune.py) to what the theorem rests on. -/
import Derived.Test.YtneodhhoejjncaaQcGAll
namespace Go.Proofs.Ytneodhhoejjncaa
open Go.RowKit Go.Proofs.YtneodhhoejjncaaW.PrintWords
set_option linter.unusedVariables false
set_option linter.unusedSimpArgs false
def getV (S : StS) (s : ByteArray) : Value := match S s with
  | some x => .tuple #[.agg (lstL x).toArray, .bool true]
  | none => .tuple #[.agg #[.string ⟨#[]⟩, .int .i64 0, .int .i64 0, .bool false, .bool false, .int .i64 0], .bool false]
set_option maxRecDepth 100000 in
set_option maxHeartbeats 1000000 in
theorem get_calls (B mb : Nat) (most : Int) (f : StF) (cnt : Nat) (s : ByteArray) (w : World) (h : StAt w B mb most f cnt) (hs : sK.ok s) :
    Calls Try.prog 20 #[.pointer (some ⟨B, 0, none⟩), .string s] w fun e w' => e = .returned (getV (er f) s) ∧ Below w.heap.size w w' := by
  have c1 : w.cell? ⟨B, 1, none⟩ = some (.map (some mb)) := (blk_cell h.blk 1).trans rfl
  have hBl := blk_lt h.blk
  have hlook : ∀ o n, (Instr.lookup 50 (.map (some mb)) (.string s) true).run Try.prog ((w.alloc o).drewN n) = .ok (.tuple #[match f s with | some p => ptrV p.1 | none => .pointer none, .bool (f s).isSome]) ((w.alloc o).drewN n) := fun o n => look_store ((h.alloc o).drewN n) hs
  have hlook0 : ∀ o, (Instr.lookup 50 (.map (some mb)) (.string s) true).run Try.prog (w.alloc o) = .ok (.tuple #[match f s with | some p => ptrV p.1 | none => .pointer none, .bool (f s).isSome]) (w.alloc o) := fun o => look_store (h.alloc o) hs
  cases hf : f s with
  | none =>
    have hg : getV (er f) s = .tuple #[.agg #[.string ⟨#[]⟩, .int .i64 0, .int .i64 0, .bool false, .bool false, .int .i64 0], .bool false] := by
      unfold getV er
      rw [hf]
      rfl
    rw [hg]
    simp only [hf, Option.isSome_none] at hlook hlook0
    clear h
    go_enter Try.func20, Try.ntmps20
    go_wp2_with fail
    refine bodyPost_ret (v := .tuple #[.agg #[.string ⟨#[]⟩, .int .i64 0, .int .i64 0, .bool false, .bool false, .int .i64 0], .bool false]) ?_ rfl ?_
    · simp [results, Try.f20, go_sem]
    · exact ⟨rfl, by repeat (first | apply below_alloc | apply pw_below_drewN | apply below_drew1 | refine Below.setCell ?_ (Nat.le_refl _) _ | exact Below.refl _ _)⟩
  | some px =>
    obtain ⟨p, x⟩ := px
    have hg : getV (er f) s = .tuple #[.agg (lstL x).toArray, .bool true] := by
      unfold getV er
      rw [hf]
      rfl
    have hpb := h.els s p x hs hf
    have p0 : w.cell? ⟨p, 0, none⟩ = some (.string x.x.nm) := (blk_cell hpb 0).trans rfl
    have p1 : w.cell? ⟨p, 1, none⟩ = some (.int .i64 x.x.val) := (blk_cell hpb 1).trans rfl
    have p2 : w.cell? ⟨p, 2, none⟩ = some (.int .i64 x.x.time) := (blk_cell hpb 2).trans rfl
    have p3 : w.cell? ⟨p, 3, none⟩ = some (.bool x.x.counts) := (blk_cell hpb 3).trans rfl
    have p4 : w.cell? ⟨p, 4, none⟩ = some (.bool x.live) := (blk_cell hpb 4).trans rfl
    have p5 : w.cell? ⟨p, 5, none⟩ = some (.int .i64 x.owner) := (blk_cell hpb 5).trans rfl
    have lp := blk_lt hpb
    have lp2 : p ≠ w.heap.size := by omega
    rw [hg]
    simp only [hf, Option.isSome_some, ptrV] at hlook hlook0
    unfold lstL
    clear h hpb
    go_enter Try.func20, Try.ntmps20
    go_wp2_with fail
    refine bodyPost_ret (v := .tuple #[.agg #[.string x.x.nm, .int .i64 x.x.val, .int .i64 x.x.time, .bool x.x.counts, .bool x.live, .int .i64 x.owner], .bool true]) ?_ rfl ?_
    · simp [results, Try.f20, go_sem]
    · exact ⟨rfl, by repeat (first | apply below_alloc | apply pw_below_drewN | apply below_drew1 | refine Below.setCell ?_ (Nat.le_refl _) _ | exact Below.refl _ _)⟩
theorem live_st (B mb : Nat) (most : Int) (f : StF) (cnt : Nat) (w : World) (h : StAt w B mb most f cnt) (hm : 0 ≤ most) (hc : cnt ≤ 4398046511104) (xs : List (ByteArray × Lst)) (hx : Listed (er f) xs) (hl : xs.length ≤ maxLen) :
    Calls Try.prog 22 #[.pointer (some ⟨B, 0, none⟩)] w fun e w' => e = .returned (.int .i64 (liveN xs)) ∧ Below w.heap.size w w' :=
  live_calls _ xs w hl fun W hW => all_calls B mb most f cnt W (h.below hW) hm hc xs hx
end Go.Proofs.Ytneodhhoejjncaa
