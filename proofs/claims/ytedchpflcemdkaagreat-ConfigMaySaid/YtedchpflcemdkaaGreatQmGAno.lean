/- A text of this claim, pruned by a program of the session (prune.py) to what the theorem rests on. -/
import Derived.Test.YtedchpflcemdkaaGreatQmGWho
namespace Go.Proofs.YtedchpflcemdkaaGreat
open Go.RowKit Go.Maps Go.Proofs.YtedchpflcemdkaaGreatW.PrintWords
set_option linter.unusedVariables false
set_option linter.unusedSimpArgs false
def SeenAt (W : World) (sb mb : Nat) (S : List Who) : Prop := W.cell? ⟨sb, 0, none⟩ = some (.map (some mb)) ∧ sb ≠ mb ∧ ∃ cnt, cnt ≤ S.length ∧ MapAt whoKey W mb (seenF S) cnt
theorem SeenAt.below {W W' : World} {sb mb : Nat} {S : List Who} (h : SeenAt W sb mb S) (hb : Below W.heap.size W W') : SeenAt W' sb mb S := by
  obtain ⟨h1, h2, cnt, h3, h4⟩ := h
  exact ⟨(hb.cell (World.block_lt_of_cell? W _ h1)).trans h1, h2, cnt, h3, h4.below hb⟩
theorem who_zero (w : World) : (zeroValue 43).run Tryz.prog w = .ok (.agg #[.bool false]) w := by kernel_rfl
theorem seen_field (b : Bool) (w : World) : (Instr.field 43 (.agg #[.bool b]) 0).run Tryz.prog w = .ok (.bool b) w := by kernel_rfl
theorem seen_get (S : List Who) (x : Who) : (seenF S x).getD (.agg #[.bool false]) = .agg #[.bool (seenF S x).isSome] := by
  unfold seenF
  split <;> rfl
theorem grown_below {W W' : World} {mb : Nat} (h : W.grownBy W' (some mb)) {W2 : World} (hb : Below W'.heap.size W' W2) : W.grownBy W2 (some mb) :=
  ⟨hb.os.trans h.os, hb.tape.trans h.tape, hb.output.trans h.output, Nat.le_trans h.size hb.size, fun i hi hne => (hb.block i (Nat.lt_of_lt_of_le hi h.size)).trans (h.block i hi hne)⟩
theorem below_grown {W W' : World} {mb : Nat} (hb : Below W.heap.size W W') {W2 : World} (h : W'.grownBy W2 (some mb)) : W.grownBy W2 (some mb) :=
  ⟨h.os.trans hb.os, h.tape.trans hb.tape, h.output.trans hb.output, Nat.le_trans hb.size h.size, fun i hi hne => (h.block i (Nat.lt_of_lt_of_le hi hb.size) hne).trans (hb.block i hi)⟩
theorem grown_trans {W W' W2 : World} {mb : Nat} (h : W.grownBy W' (some mb)) (h2 : W'.grownBy W2 (some mb)) : W.grownBy W2 (some mb) :=
  ⟨h2.os.trans h.os, h2.tape.trans h.tape, h2.output.trans h.output, Nat.le_trans h.size h2.size, fun i hi hne => (h2.block i (Nat.lt_of_lt_of_le hi h.size) hne).trans (h.block i hi hne)⟩
theorem grown_cell {W W' : World} {mb sb o : Nat} {v : Value} (h : W.grownBy W' (some mb)) (hs : sb < W.heap.size) (hne : some sb ≠ some mb) (hc : W.cell? ⟨sb, o, none⟩ = some v) : W'.cell? ⟨sb, o, none⟩ = some v := by
  rw [← hc]
  unfold World.cell?
  rw [h.block sb hs hne]
theorem grown_refl (W : World) (mb : Nat) : W.grownBy W (some mb) := ⟨rfl, rfl, rfl, Nat.le_refl _, fun _ _ _ => rfl⟩
open Classical in
set_option maxRecDepth 100000 in
set_option maxHeartbeats 1000000 in
theorem another_cl (mayB : Bool) (a b c : ByteArray) (i t : Int) (x : Who) (ha : x.1.1 = a) (hb : x.1.2 = b) (W : World) (sb mb : Nat) (S : List Who) (hS : SeenAt W sb mb S) (hl : S.length < maxLen)
    (hT : ∀ W', Calls Tryz.prog 6 #[.agg #[.string a, .string b, .string c, .int .i64 i, .int .i64 t]] W' fun e w' => e = .returned (.bool mayB) ∧ Below W'.heap.size W' w') :
    Calls Tryz.prog 19 #[.agg #[.string a, .string b, .string c, .int .i64 i, .int .i64 t], .pointer (some ⟨sb, 0, none⟩)] W fun e w' => e = .returned (.bool ((seenF S x).isSome || !mayB)) ∧ SeenAt w' sb mb (x :: S) ∧ W.grownBy w' (some mb) := by
  have hS0 := hS
  obtain ⟨hc, hne, cnt, hcnt, hM⟩ := hS
  have hsl : sb < W.heap.size := World.block_lt_of_cell? W _ hc
  have hml := hM.lt
  have hs1 : sb ≠ W.heap.size := Nat.ne_of_lt hsl
  have hs2 : sb ≠ W.heap.size + 1 := by omega
  have hM1 := hM.alloc (.cells #[.string a, .string b, .string c, .int .i64 i, .int .i64 t] 30)
  have hM2 := hM1.alloc (.cells #[.string a, .string b] 42)
  have hB2 : Below W.heap.size W ((W.alloc (.cells #[.string a, .string b, .string c, .int .i64 i, .int .i64 t] 30)).alloc (.cells #[.string a, .string b] 42)) := ((Below.refl _ W).alloc (Nat.le_refl _) _).alloc (by simp) _
  have hval : whoKey.val x = .agg #[.string a, .string b] := by rw [← ha, ← hb]; rfl
  have hlk := hM2.look Tryz.underlying40 (who_zero _) (x := x) trivial
  rw [seen_get, hval] at hlk
  obtain ⟨r, hr⟩ : ∃ r, (seenF S x).isSome = r := ⟨_, rfl⟩
  rw [hr] at hlk ⊢
  have HM := Aside0.mk hM2
  have hcE := hcnt
  have HB2 := Aside0.mk hB2
  have HC := Aside0.mk hc
  clear hM hM1 hM2 hB2
  go_enter Tryz.func19, Tryz.ntmps19
  have hfd := seen_field
  have hfl : cnt < maxLen := Nat.lt_of_le_of_lt hcnt hl
  cases r with
  | true =>
    go_wp2_with (at_mapUpdate; refine wpList_putM (K := whoKey) rfl (.tmp 15) (.tmp 16) (.tmp 17) _ rfl _ Tryz.underlying40 rfl HM.out hfl x trivial hval.symm (.agg #[.bool true]) rfl ?_; intro w3 hM3 hg3; rw [seenF_upd] at hM3; have hblk := (hg3.block W.heap.size (by simp; omega) (by simp; omega)).trans (blk_alloc (blk_new W _) _); have n0 := (blk_cell hblk 0).trans (show _ = some (Value.string a) from rfl); have n1 := (blk_cell hblk 1).trans (show _ = some (Value.string b) from rfl); have n2 := (blk_cell hblk 2).trans (show _ = some (Value.string c) from rfl); have n3 := (blk_cell hblk 3).trans (show _ = some (Value.int .i64 i) from rfl); have n4 := (blk_cell hblk 4).trans (show _ = some (Value.int .i64 t) from rfl); have HM3 := Aside0.mk hM3; have HS3 : Aside0 (SeenAt w3 sb mb (x :: S) ∧ W.grownBy w3 (some mb)) := Aside0.mk ⟨⟨grown_cell hg3 (by simp; omega) (by simp; omega) ((HB2.out.cell (p := ⟨sb, 0, none⟩) hsl).trans HC.out), hne, _, (by simp only [List.length_cons]; split <;> omega), hM3⟩, below_grown HB2.out hg3⟩; clear hM3 hg3)
    go_ret
    exact ⟨rfl, HS3.out⟩
  | false =>
    go_wp2_with (at_mapUpdate; refine wpList_putM (K := whoKey) rfl (.tmp 15) (.tmp 16) (.tmp 17) _ rfl _ Tryz.underlying40 rfl HM.out hfl x trivial hval.symm (.agg #[.bool true]) rfl ?_; intro w3 hM3 hg3; rw [seenF_upd] at hM3; have hblk := (hg3.block W.heap.size (by simp; omega) (by simp; omega)).trans (blk_alloc (blk_new W _) _); have n0 := (blk_cell hblk 0).trans (show _ = some (Value.string a) from rfl); have n1 := (blk_cell hblk 1).trans (show _ = some (Value.string b) from rfl); have n2 := (blk_cell hblk 2).trans (show _ = some (Value.string c) from rfl); have n3 := (blk_cell hblk 3).trans (show _ = some (Value.int .i64 i) from rfl); have n4 := (blk_cell hblk 4).trans (show _ = some (Value.int .i64 t) from rfl); have HM3 := Aside0.mk hM3; have HS3 : Aside0 (SeenAt w3 sb mb (x :: S) ∧ W.grownBy w3 (some mb)) := Aside0.mk ⟨⟨grown_cell hg3 (by simp; omega) (by simp; omega) ((HB2.out.cell (p := ⟨sb, 0, none⟩) hsl).trans HC.out), hne, _, (by simp only [List.length_cons]; split <;> omega), hM3⟩, below_grown HB2.out hg3⟩; clear hM3 hg3)
    refine (hT w3).mono ?_
    rintro e w4 ⟨rfl, hb4⟩
    have HS4 : Aside0 (SeenAt w4 sb mb (x :: S) ∧ W.grownBy w4 (some mb)) := Aside0.mk ⟨HS3.out.1.below hb4, grown_below HS3.out.2 hb4⟩
    clear hb4 n0 n1 n2 n3 n4 hblk
    go_wp2_with fail
    go_ret
    exact ⟨rfl, HS4.out⟩
end Go.Proofs.YtedchpflcemdkaaGreat
