/- A text of this claim, pruned by a program of the session (prune.py) to what the theorem rests on. -/
import Derived.Test.YtneodhhoejjncaaQnGStK
import Derived.Laws.IdiomRangeMap
import Derived.LoopN
namespace Go.Proofs.Ytneodhhoejjncaa
open Go.RowKit Go.Proofs.YtneodhhoejjncaaW.PrintWords
set_option linter.unusedVariables false
set_option linter.unusedSimpArgs false
def zeroAt (w : World) (B : Nat) : Prop := w.heap[B]? = some (.cells #[.int .i64 0, .map none] 52 (0, 0))
theorem look_nil (s : ByteArray) (W : World) : (Instr.lookup 50 (.map none) (.string s) true).run Try.prog W = .ok (.tuple #[.pointer none, .bool false]) W := by
  kernel_rfl
theorem len_nilmap (ty : TypeId) (W : World) : (Builtin.len_ #[50] ty #[.map none]).run Try.prog W = .ok (.int .i64 0) W := by
  kernel_rfl
set_option maxRecDepth 100000 in
set_option maxHeartbeats 4000000 in
theorem one_zero (B : Nat) (owner : Int) (x : Smp) (w : World) (h : zeroAt w B) :
    Calls Try.prog 24 #[.pointer (some ⟨B, 0, none⟩), .int .i64 owner, .agg #[.string x.nm, .int .i64 x.val, .int .i64 x.time, .bool x.counts]] w fun e w' => e = .returned (.agg #[.string x.nm, .int .i64 x.val, .int .i64 x.time, .bool x.counts, .int .i64 4, .bool false, .int .i64 0]) ∧ Below w.heap.size w w' := by
  have c0 : w.cell? ⟨B, 0, none⟩ = some (.int .i64 0) := (blk_cell h 0).trans rfl
  have c1 : w.cell? ⟨B, 1, none⟩ = some (.map none) := (blk_cell h 1).trans rfl
  have hl := blk_lt h
  have q2 := look_nil x.nm
  have q5 := len_nilmap
  clear h
  go_enter Try.func24, Try.ntmps24
  go_wp2_with fail
  go_quiet (fail)
  go_wp2_with fail
  go_quiet (fail)
  go_wp2_with fail
  refine bodyPost_ret (v := .agg #[.string x.nm, .int .i64 x.val, .int .i64 x.time, .bool x.counts, .int .i64 4, .bool false, .int .i64 0]) (by simp [results, Try.results24, go_sem]) rfl ⟨rfl, ?_⟩
  have hb : ∀ o1 o2 n, Below w.heap.size w (((w.alloc o1).alloc o2).drewN n) := fun o1 o2 n => pw_below_drewN (((Below.refl _ w).alloc (Nat.le_refl _) o1).alloc (by simp) o2) n
  repeat (refine Below.setCell ?_ (Nat.le_succ _) _)
  exact hb _ _ _
set_option maxRecDepth 100000 in
set_option maxHeartbeats 4000000 in
theorem put_zero (B A c : Nat) (w : World) (h : zeroAt w B) (hA : w.heap[A]? = some (.cells #[.string ⟨#[97]⟩, .int .i64 0, .int .i64 0, .bool false] 34 (0, 0))) :
    Calls Try.prog 10 #[.pointer (some ⟨B, 0, none⟩), .int .i64 1, .slice (some ⟨A, 0, none⟩) 1 c] w fun e w' => ∃ b cap, e = .returned (.slice (some ⟨b, 0, none⟩) 1 cap) ∧ w.heap.size ≤ b ∧ w'.cell? ⟨b, 4, none⟩ = some (.int .i64 4) ∧ Below w.heap.size w w' := by
  have c0 : w.cell? ⟨B, 0, none⟩ = some (.int .i64 0) := (blk_cell h 0).trans rfl
  have c1 : w.cell? ⟨B, 1, none⟩ = some (.map none) := (blk_cell h 1).trans rfl
  have hB := blk_lt h
  have a0 : w.cell? ⟨A, 0, none⟩ = some (.string ⟨#[97]⟩) := (blk_cell hA 0).trans rfl
  have a1 : w.cell? ⟨A, 1, none⟩ = some (.int .i64 0) := (blk_cell hA 1).trans rfl
  have a2 : w.cell? ⟨A, 2, none⟩ = some (.int .i64 0) := (blk_cell hA 2).trans rfl
  have a3 : w.cell? ⟨A, 3, none⟩ = some (.bool false) := (blk_cell hA 3).trans rfl
  have hAl := blk_lt hA
  have hone := one_zero B 1 ⟨⟨#[97]⟩, 0, 0, false⟩
  have hmk : ∀ W, (Instr.makeMap 63 none).run Try.prog W = .ok (.map (some W.heap.size)) (W.alloc (.map #[] 0)) := fun W => run_makeMap _ _
  go_enter Try.func10, Try.ntmps10
  go_wp2_with fail
  refine wp_loop_rounds 2 ?_
  rw [rounds_succ]
  have hz2 : zeroAt ((w.alloc (.map #[] 0)).alloc (.cells #[.string ⟨#[97]⟩, .int .i64 0, .int .i64 0, .bool false] 34)) B := blk_below h (((Below.refl _ w).alloc (Nat.le_refl _) _).alloc (by simp) _)
  have h1 := hone _ hz2
  clear hz2
  have hz0 : w.heap.size + 2 = ((w.alloc (.map #[] 0)).alloc (.cells #[.string ⟨#[97]⟩, .int .i64 0, .int .i64 0, .bool false] 34)).heap.size := by simp
  have hm0 : MapAt sK ((w.alloc (.map #[] 0)).alloc (.cells #[.string ⟨#[97]⟩, .int .i64 0, .int .i64 0, .bool false] 34)) w.heap.size (fun _ => none) 0 := (MapAt.made sK w).alloc _
  have hb0 : Below w.heap.size w ((w.alloc (.map #[] 0)).alloc (.cells #[.string ⟨#[97]⟩, .int .i64 0, .int .i64 0, .bool false] 34)) := ((Below.refl _ w).alloc (Nat.le_refl _) _).alloc (by simp) _
  have HM0 := Aside0.mk hm0
  have HB0 := Aside0.mk hb0
  have HZ0 := Aside0.mk hz0
  clear hm0 hb0 hz0
  go_wp2_with (first
    | (at_builtin; refine print_append_cells w.heap.size rfl (.tmp 24) (.tmp 29) 28 37 (.agg #[.string ⟨#[]⟩, .int .i64 0, .int .i64 0, .bool false, .int .i64 0, .bool false, .int .i64 0]) 7 64 rfl Try.underlying28 info_seen rfl (by decide) (by decide) (.slice none 0 0) 0 [] (snL ⟨⟨⟨#[97]⟩, 0, 0, false⟩, 4, false, 0⟩) rfl rfl rfl ?h1 (own_nil _ _ _ _) (Below.refl _ _) ?hb ?hl ?_)
    | (go_at_call 24; refine h1.mono ?_; rintro e w1 ⟨rfl, hb1⟩))
  case h1 => intro u hu; simp [snL] at hu; rcases hu with rfl | rfl | rfl | rfl | rfl | rfl <;> rfl
  case hb => have := HZ0.out; have := hb1.size; omega
  case hl => omega
  intro v1 w2 hown hb2 hg2 _
  obtain ⟨b, cap, rfl, _, hbb, _, hcell⟩ := own_cells hown (Nat.succ_pos 0)
  have k4 : w2.cell? ⟨b, 4, none⟩ = some (.int .i64 4) := hcell 4 _ rfl
  have hg2' : w1.grownBy w2 none := hg2
  have hm1 : MapAt sK w1 w.heap.size (fun _ => none) 0 := HM0.out.below hb1
  have hm2 : MapAt sK w2 w.heap.size (fun _ => none) 0 := hm1.grown hg2 (by simp [Value.ownBlock])
  have hb2' : Below w.heap.size w w2 := (HB0.out.trans (hb1.mono (by have := HZ0.out; omega))).trans hb2
  have g0 : w2.cell? ⟨B, 0, none⟩ = some (.int .i64 0) := (hb2'.cell (p := ⟨B, 0, none⟩) hB).trans c0
  have g1 : w2.cell? ⟨B, 1, none⟩ = some (.map none) := (hb2'.cell (p := ⟨B, 1, none⟩) hB).trans c1
  have e0 : w2.cell? ⟨A, 0, none⟩ = some (.string ⟨#[97]⟩) := (hb2'.cell (p := ⟨A, 0, none⟩) hAl).trans a0
  have e1 : w2.cell? ⟨A, 1, none⟩ = some (.int .i64 0) := (hb2'.cell (p := ⟨A, 1, none⟩) hAl).trans a1
  have e2 : w2.cell? ⟨A, 2, none⟩ = some (.int .i64 0) := (hb2'.cell (p := ⟨A, 2, none⟩) hAl).trans a2
  have e3 : w2.cell? ⟨A, 3, none⟩ = some (.bool false) := (hb2'.cell (p := ⟨A, 3, none⟩) hAl).trans a3
  have hbl := (own_ty hown (k := b) rfl)
  have HM2 := Aside0.mk hm2
  have HB2 := Aside0.mk hb2'
  have HOW := Aside0.mk hown
  clear hown hb2 hg2 hg2' hm1 hm2 hb2' hcell hb1 HM0 HB0 HZ0 h1 hone h hA hbl
  go_wp2
  rw [rounds_succ]
  have hrg := fun W => run_range_nilMap (P := Try.prog) W 50 _ _ Try.underlying50
  have hnx := fun W ty => run_next_nilMap (P := Try.prog) W ty 0 0 #[]
  go_wp2
  refine wp_loop_rounds 1 ?_
  rw [rounds_succ]
  go_wp2
  refine wp_loop_rounds 2 ?_
  rw [rounds_succ]
  have HM3 : Aside0 (MapAt sK (w2.alloc (.mapIter none 0 #[] 0)) w.heap.size (fun _ => none) 0) := ⟨HM2.out.alloc _⟩
  have HB3 : Aside0 (Below w.heap.size w (w2.alloc (.mapIter none 0 #[] 0))) := ⟨HB2.out.alloc HB2.out.size _⟩
  have hbw : b ≠ w.heap.size := fun e => by
    obtain ⟨_, cs, hc⟩ := own_ty HOW.out (k := b) rfl
    obtain ⟨es, cl, hm⟩ := HM2.out.obj
    rw [e, hm] at hc
    cases hc
  have hb2 : b < w2.heap.size := by
    obtain ⟨_, cs, hc⟩ := own_ty HOW.out (k := b) rfl
    exact blk_lt hc
  have hg2 : w.heap.size < w2.heap.size := HM2.out.lt
  have hA2 : A < w2.heap.size := by omega
  have hA3 : A ≠ w2.heap.size := by omega
  go_wp2_with (first | (at_delete; refine wpList_delGone rfl (.tmp 63) (.tmp 65) rfl rfl (HM3.out.alloc _) aN aok rfl ?_; intro w6 hM6 ht6))
  have hB6 : Below w.heap.size w w6 := (HB3.out.alloc HB3.out.size _).grown ht6.grown (by simp; omega) (fun k e => by have := Option.some.inj e; omega)
  have k6 : w6.cell? ⟨b, 4, none⟩ = some (.int .i64 4) := by
    have h1 := cell_blk 4 (ht6.grown.block b (by simp; omega) (fun e => hbw (Option.some.inj e)))
    have h2 := cell_blk 4 (Below.heap_alloc (w2.alloc (.mapIter none 0 #[] 0)) (.cells #[.string ⟨#[97]⟩, .int .i64 0, .int .i64 0, .bool false] 34) b (by simp; omega))
    have h3 := cell_blk 4 (Below.heap_alloc w2 (.mapIter none 0 #[] 0) b hb2)
    exact h1.trans (h2.trans (h3.trans k4))
  have hM7 : MapAt sK w6 w.heap.size (fun _ => none) 0 := hM6.congr fun y _ => by
    unfold upd
    split <;> rfl
  have HM7 := Aside0.mk hM7
  have HB6 := Aside0.mk hB6
  clear hM6 ht6 hB6 hM7 HM3 HB3 HM2 HB2 HOW hrg hnx k4 g0 g1 e0 e1 e2 e3 hb2 hg2
  go_wp2
  rw [rounds_succ]
  go_wp2_with (first | (at_range; refine wpList_rangeM rfl (.tmp 67) 63 rfl _ Try.underlying63 rfl HM7.out ?_; intro w7 hR7 hg7 hz7))
  have hB7 : Below w.heap.size w w7 := HB6.out.grown hg7 HB6.out.size (by simp)
  have k7 : w7.cell? ⟨b, 4, none⟩ = some (.int .i64 4) := (cell_blk 4 (hg7.block b (World.block_lt_of_cell? _ _ k6) (by simp))).trans k6
  have HB7 := Aside0.mk hB7
  have HR7 := Aside0.mk hR7
  clear hB7 hR7 hg7 HB6 HM7
  refine wp_loop_rounds 1 ?_
  rw [rounds_succ]
  go_wp2_with (first | (at_next; refine wpList_nextGone rfl (.tmp 68) rfl rfl HR7.out ?hgf ?done4 ?more4))
  · exact fun s v h => by cases h
  · go_ret
    exact ⟨b, cap, rfl, hbb, k7, HB7.out⟩
set_option maxRecDepth 100000 in
set_option maxHeartbeats 2000000 in
theorem equal_nil (mb : Nat) (cb : Value) (w : World) (h : MapAt sK w mb (fun _ => none) 0) :
    Calls Try.prog 27 #[.map none, .map (some mb), cb] w fun e w' => e = .returned (.bool true) ∧ Below w.heap.size w w' := by
  have q1 := len_nilmap
  have q2 : ∀ ty, (Builtin.len_ #[50] ty #[.map (some mb)]).run Try.prog w = .ok (.int .i64 0) w := fun ty => h.len Try.underlying50 ty
  have hrg := fun W => run_range_nilMap (P := Try.prog) W 50 _ _ Try.underlying50
  have hnx := fun W ty => run_next_nilMap (P := Try.prog) W ty 0 0 #[]
  clear h
  go_enter Try.func27, Try.ntmps27
  go_wp2_with fail
  refine wp_loop_rounds 1 ?_
  rw [rounds_succ]
  go_wp2
  go_ret
  exact ⟨rfl, (Below.refl _ _).alloc (Nat.le_refl _) _⟩
set_option maxRecDepth 100000 in
set_option maxHeartbeats 2000000 in
theorem same_zero (B B2 mb : Nat) (w : World) (h : zeroAt w B) (h2 : StAt w B2 mb 0 (fun _ => none) 0) :
    Calls Try.prog 18 #[.pointer (some ⟨B, 0, none⟩), .pointer (some ⟨B2, 0, none⟩)] w fun e w' => e = .returned (.bool true) ∧ Below w.heap.size w w' := by
  have c0 : w.cell? ⟨B, 0, none⟩ = some (.int .i64 0) := (blk_cell h 0).trans rfl
  have c1 : w.cell? ⟨B, 1, none⟩ = some (.map none) := (blk_cell h 1).trans rfl
  have d0 : w.cell? ⟨B2, 0, none⟩ = some (.int .i64 0) := (blk_cell h2.blk 0).trans rfl
  have d1 : w.cell? ⟨B2, 1, none⟩ = some (.map (some mb)) := (blk_cell h2.blk 1).trans rfl
  have lB := blk_lt h
  have lB2 := blk_lt h2.blk
  have he : ∀ cb W, Below w.heap.size w W → Calls Try.prog 27 #[.map none, .map (some mb), cb] W fun e w' => e = .returned (.bool true) ∧ (w'.cell? ⟨B, 0, none⟩ = some (.int .i64 0) ∧ w'.cell? ⟨B, 1, none⟩ = some (.map none) ∧ w'.cell? ⟨B2, 0, none⟩ = some (.int .i64 0) ∧ w'.cell? ⟨B2, 1, none⟩ = some (.map (some mb))) ∧ Aside0 (Below w.heap.size w w') := fun cb W hW =>
    (equal_nil mb cb W (h2.map.below hW)).mono fun e w' ⟨h1, hb⟩ => by
      have hb2 := hW.trans (hb.mono hW.size)
      exact ⟨h1, ⟨(hb2.cell (p := ⟨B, 0, none⟩) lB).trans c0, (hb2.cell (p := ⟨B, 1, none⟩) lB).trans c1, (hb2.cell (p := ⟨B2, 0, none⟩) lB2).trans d0, (hb2.cell (p := ⟨B2, 1, none⟩) lB2).trans d1⟩, ⟨hb2⟩⟩
  clear h h2
  go_enter Try.func18, Try.ntmps18
  go_wp2_with fail
  go_region_held3 (fun w' => w'.cell? ⟨B, 0, none⟩ = some (.int .i64 0) ∧ w'.cell? ⟨B, 1, none⟩ = some (.map none) ∧ w'.cell? ⟨B2, 0, none⟩ = some (.int .i64 0) ∧ w'.cell? ⟨B2, 1, none⟩ = some (.map (some mb))) (first | go_keep)
    (first
      | (go_at_call 27; refine (he _ _ (by repeat (first | apply below_alloc | apply pw_below_drewN | apply below_drew1 | exact Below.refl _ _))).mono ?_; rintro e w1 ⟨rfl, ⟨c0, c1, d0, d1⟩, HB⟩))
  go_wp2_with fail
  go_ret
  exact ⟨rfl, HB.out⟩
end Go.Proofs.Ytneodhhoejjncaa
