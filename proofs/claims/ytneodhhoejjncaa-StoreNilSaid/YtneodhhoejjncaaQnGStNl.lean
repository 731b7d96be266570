/- A text of this claim, pruned by a program of the session (prune.py) to what the theorem rests on. -/
import Derived.Test.YtneodhhoejjncaaQnGStN
import Derived.Test.YtneodhhoejjncaaQnGStNz
namespace Go.Proofs.Ytneodhhoejjncaa
open Go.RowKit Go.Shelf Go.Proofs.YtneodhhoejjncaaW.PrintWords
set_option linter.unusedVariables false
set_option linter.unusedSimpArgs false
attribute [local go_sem] Oper.semAt_some
structure Nil3 (w W : World) : Prop where
  res : Boxed W w.heap.size 4 (.bool false)
  zero : zeroAt W (w.heap.size + 1)
  smp : W.heap[w.heap.size + 1 + 1]? = some (.cells #[.string ⟨#[97]⟩, .int .i64 0, .int .i64 0, .bool false] 34 (0, 0))
  below : Below w.heap.size w W
theorem Nil3.step {w W W' : World} (h : Nil3 w W) (hb : Below W.heap.size W W') : Nil3 w W' := ⟨blk_below h.res hb, blk_below h.zero hb, blk_below h.smp hb, h.below.trans (hb.mono h.below.size)⟩
theorem wpIn_rangeFunc_none {α : Type} {F : Fence} {n : Nat} {P : Program} {g : Operand} {ps : Array Tmp} {body : Code} {Q : Exit → Act → World → Prop} {a : Act} {w : World}
    (hro : F.round = none) (h1 : 1 ≤ n) {gf : Nat} {lb : Array Value} (hg : a.eval g = .func (.func gf) #[] lb) (hFg : F.fn gf) (eg : ∀ args w, (callFunc gf args).run P w = .ok (.enter gf args) w)
    {encs : α → Array Value} {Kp : World → World → Prop} (hseq : SeqStopsK F (n - 1) P gf lb encs Kp (fun ys => ys = []) (fun pre => pre <+: []) 0 w)
    (hKt : ∀ {A B C : World}, Kp A B → Kp B C → Kp A C) (hKb : ∀ (W : World) (l : Nat) (o o' : Obj), w.heap.size ≤ l → W.heap[l]? = some o → o.isCells = false → o.isWalk = false → Kp W (W.putObj l o')) (hps : ∀ x, (encs x).size = ps.size)
    (hdone : ∀ (D : Nat) (W : World), w.heap.size ≤ D → Below w.heap.size w W → W.heap[D]? = some (.deferred (some [])) → Q .normal { a with defers := { target := .collected D, args := #[] } :: a.defers } W) :
    (Code.rangeFunc g ps Code.skip body).wpIn F n P Q a w := by
  refine wpIn_rangeFunc_ownF hro h1 hg hFg eg hseq hKt hKb (Below.refl _ _) hps (fun pre W => Below w.heap.size w W) (fun _ _ _ => False) (ownFrom_below (Nat.le_refl _) (Nat.le_refl _)) (fun _ _ _ _ _ hs _ _ => hs) (Below.refl _ _)
    (fun x => { tmps := (ps.zip (encs x)).foldl (fun t (p, v) => t.setIfInBounds p v) a.tmps, defers := [] }) ?_ ?_ ?_ ?_
  · intro l x W K hK
    have e : (ps.zip (encs x)).size = ps.size := by simp [hps]
    rw [e] at hK
    gi_wp2
    exact hK
  · intro l pre x W _ h
    exact absurd h (Nat.not_lt_zero _)
  · intro D xs W hD _ hb hK
    exact hdone D W hD hb hK
  · intro D c pre W _ _ h _
    exact h.elim
set_option maxRecDepth 100000 in
set_option maxHeartbeats 8000000 in
theorem nil_calls (w : World) : Calls Try.prog 6 #[] w fun e w' => e = .returned (.bool true) ∧ Below w.heap.size w w' := by
  refine (callsIn_wide (n := 14)).1 ?_
  have hf1 : Fence.wide.fn 20 := trivial
  have hf2 : Fence.wide.fn 21 := trivial
  have hf3 : Fence.wide.fn 10 := trivial
  refine callsIn_of_wp_marks Try.func6 rfl trivial ?_ rfl
  simp only [Try.ntmps6, List.size_toArray, List.length_cons, List.length_nil, Nat.reduceAdd, Nat.reduceSub, Array.replicate_succ, Array.replicate_zero, List.push_toArray, List.append_toArray, List.nil_append, List.cons_append]
  gi_wp2_with (gi_at_call 20; refine (callsIn_wide.2 (get_nil ⟨#[97]⟩ _)).mono ?_; rintro e w1 ⟨rfl, hb1⟩)
  have HN1 : Aside0 (Nil3 w w1) := ⟨by
    refine Nil3.step (W := ((w.alloc (.cells #[.bool false] 4)).alloc (.cells #[.int .i64 0, .map none] 52)).alloc (.cells #[.string ⟨#[97]⟩, .int .i64 0, .int .i64 0, .bool false] 34)) ⟨?_, ?_, ?_, ?_⟩ hb1
    · exact blk_alloc (blk_alloc (blk_new w _) _) _
    · have h := blk_new (w.alloc (.cells #[.bool false] 4)) (.cells #[.int .i64 0, .map none] 52)
      rw [World.size_alloc] at h
      exact blk_alloc h _
    · have h := blk_new ((w.alloc (.cells #[.bool false] 4)).alloc (.cells #[.int .i64 0, .map none] 52)) (.cells #[.string ⟨#[97]⟩, .int .i64 0, .int .i64 0, .bool false] 34)
      rw [World.size_alloc, World.size_alloc] at h
      exact h
    · exact (((Below.refl _ w).alloc (Nat.le_refl _) _).alloc (by simp) _).alloc (by simp; omega) _⟩
  have HN2 : Aside0 (Nil3 w (w1.alloc (.cells #[.string ⟨#[]⟩, .int .i64 0, .int .i64 0, .bool false, .bool false, .int .i64 0] 54))) := ⟨HN1.out.step ((Below.refl _ w1).alloc (Nat.le_refl _) _)⟩
  clear hb1 HN1
  refine (callsIn_wide.2 (all_nil _)).mono ?_
  rintro e w2 ⟨g0, rfl, hb2, B0, rfl, _⟩
  have HN3 : Aside0 (Nil3 w w2) := ⟨HN2.out.step hb2⟩
  clear hb2 HN2
  have heq : ∀ (B : Nat) (W : World), (binOp .eql 58 (.func (.func 29) #[] #[.pointer (some ⟨B, 0, none⟩)]) .nilFunc).run Try.prog W = .ok (.bool false) W := fun B W => by kernel_rfl
  gi_wp2_with fail
  refine (callsIn_wide.2 (all_nil _)).mono ?_
  rintro e w3 ⟨g1, rfl, hb3, B1, rfl, hst⟩
  have HN4 : Aside0 (Nil3 w w3) := ⟨HN3.out.step hb3⟩
  clear hb3 HN3
  gi_wp2_with fail
  refine wpIn_rangeFunc_none rfl (by omega) (gf := 29) (lb := #[.pointer (some ⟨B1, 0, none⟩)]) rfl trivial (enters_of Try.func29 (by kernel_rfl) rfl)
    (hst 13 (by omega)) keepsIn_t (keepsIn_b (Nat.le_refl _)) (fun _ => rfl) ?_
  intro D W hD hb4 hK
  have HN5 : Aside0 (Nil3 w W) := ⟨HN4.out.step hb4⟩
  have HD : Aside0 (w.heap.size ≤ D) := ⟨Nat.le_trans HN4.out.below.size hD⟩
  have s0 : W.cell? ⟨w.heap.size + 1 + 1, 0, none⟩ = some (.string ⟨#[97]⟩) := (blk_cell HN5.out.smp 0).trans rfl
  have s1 : W.cell? ⟨w.heap.size + 1 + 1, 1, none⟩ = some (.int .i64 0) := (blk_cell HN5.out.smp 1).trans rfl
  have s2 : W.cell? ⟨w.heap.size + 1 + 1, 2, none⟩ = some (.int .i64 0) := (blk_cell HN5.out.smp 2).trans rfl
  have s3 : W.cell? ⟨w.heap.size + 1 + 1, 3, none⟩ = some (.bool false) := (blk_cell HN5.out.smp 3).trans rfl
  have HK := Aside0.mk hK
  have hz := HN5.out.below.size
  clear hb4 HN4 hst hK heq
  gi_wp2_with fail
  have hA := blk_new W (.cells #[.string ⟨#[97]⟩, .int .i64 0, .int .i64 0, .bool false] 34)
  have hb0 := (Below.refl W.heap.size W).alloc (Nat.le_refl _) (.cells #[.string ⟨#[97]⟩, .int .i64 0, .int .i64 0, .bool false] 34)
  refine (callsIn_wide.2 (put_zero (w.heap.size + 1) W.heap.size 1 _ (HN5.out.step hb0).zero hA)).mono ?_
  rintro e w5 ⟨b, cap, rfl, hb, k4, hb5⟩
  have hb05 : Below W.heap.size W w5 := hb0.trans (hb5.mono (by simp))
  have HN6 : Aside0 (Nil3 w w5) := ⟨HN5.out.step hb05⟩
  have HK6 : Aside0 (w5.heap[D]? = some (.deferred (some []))) := ⟨blk_below HK.out hb05⟩
  have t0 : w5.cell? ⟨w.heap.size + 1 + 1, 0, none⟩ = some (.string ⟨#[97]⟩) := (blk_cell HN6.out.smp 0).trans rfl
  have t1 : w5.cell? ⟨w.heap.size + 1 + 1, 1, none⟩ = some (.int .i64 0) := (blk_cell HN6.out.smp 1).trans rfl
  have t2 : w5.cell? ⟨w.heap.size + 1 + 1, 2, none⟩ = some (.int .i64 0) := (blk_cell HN6.out.smp 2).trans rfl
  have t3 : w5.cell? ⟨w.heap.size + 1 + 1, 3, none⟩ = some (.bool false) := (blk_cell HN6.out.smp 3).trans rfl
  have HB := Aside0.mk hb
  have K4 := Aside0.mk k4
  have hf4 : Fence.wide.fn 11 := trivial
  have hf5 : Fence.wide.fn 22 := trivial
  have hf6 : Fence.wide.fn 16 := trivial
  have hf7 : Fence.wide.fn 18 := trivial
  have hf8 : Fence.wide.fn 9 := trivial
  have hf9 : Fence.wide.fn 8 := trivial
  clear hA hb0 hb5 hb05 hb k4 s0 s1 s2 s3 HN5 HK hz hD
  gi_wp2_with fail
  refine (callsIn_wide.2 (put_nil 1 _ _)).mono ?_
  rintro e w6 ⟨rfl, rfl⟩
  have hb6 := (Below.refl w5.heap.size w5).alloc (Nat.le_refl _) (.cells #[.string ⟨#[97]⟩, .int .i64 0, .int .i64 0, .bool false] 34)
  have HN7 := Aside0.mk (HN6.out.step hb6)
  have HK7 := Aside0.mk (blk_below HK6.out hb6)
  have K5 := Aside0.mk ((hb6.cell (p := ⟨b, 4, none⟩) (World.block_lt_of_cell? _ _ K4.out)).trans K4.out)
  clear hb6 HN6 HK6 K4 t0 t1 t2 t3
  gi_wp2_with fail
  refine (callsIn_wide.2 (len_nil _)).mono ?_
  rintro e w7 ⟨rfl, rfl⟩
  gi_wp2_with fail
  refine (callsIn_wide.2 (live_calls (.pointer none) [] _ (by simp [maxLen]) (fun W _ => all_nil W))).mono ?_
  rintro e w8 ⟨rfl, hb8⟩
  have HN8 := Aside0.mk (HN7.out.step hb8)
  have HK8 := Aside0.mk (blk_below HK7.out hb8)
  have K8 := Aside0.mk ((hb8.cell (p := ⟨b, 4, none⟩) (World.block_lt_of_cell? _ _ K5.out)).trans K5.out)
  clear hb8 HN7 HK7 K5
  have hl0 : ((liveN ([] : List (ByteArray × Lst)) : Nat) : Int) = 0 := rfl
  rw [hl0]
  gi_wp2_with fail
  refine (callsIn_wide.2 (copy_nil _)).mono ?_
  rintro e w9 ⟨rfl, rfl⟩
  gi_wp2_with fail
  refine (callsIn_wide.2 (same_nil_nil _)).mono ?_
  rintro e w10 ⟨rfl, rfl⟩
  gi_wp2_with fail
  refine (callsIn_wide.2 (same_nil_some _ _)).mono ?_
  rintro e w11 ⟨rfl, rfl⟩
  gi_wp2_with fail
  refine (callsIn_wide.2 (same_some_nil _ _)).mono ?_
  rintro e w12 ⟨rfl, rfl⟩
  have k8 := K8.out
  gi_wp2_with fail
  clear k8 K8 HB
  refine (callsIn_wide.2 (new_calls (0) _)).mono ?_
  rintro e w13 ⟨B13, m13, rfl, _, _, hst13, hb13⟩
  have HN13 := Aside0.mk (HN8.out.step hb13)
  have HK13 := Aside0.mk (blk_below HK8.out hb13)
  rw [show (if (0 : Int) < 0 then (0 : Int) else 0) = 0 from by decide] at hst13
  have HS13 := Aside0.mk hst13
  clear hb13 HN8 HK8 hst13
  gi_wp2_with fail
  refine (callsIn_wide.2 (same_zero (w.heap.size + 1) B13 m13 _ HN13.out.zero HS13.out)).mono ?_
  rintro e w14 ⟨rfl, hb14⟩
  have HN14 := Aside0.mk (HN13.out.step hb14)
  have HK14 := Aside0.mk (blk_below HK13.out hb14)
  clear hb14 HN13 HK13 HS13
  gi_wp2_with fail
  refine (callsIn_wide.2 (new_calls (-1) _)).mono ?_
  rintro e w15 ⟨B15, m15, rfl, _, _, hst15, hb15⟩
  have HN15 := Aside0.mk (HN14.out.step hb15)
  have HK15 := Aside0.mk (blk_below HK14.out hb15)
  rw [show (if (-1 : Int) < 0 then (0 : Int) else -1) = 0 from by decide] at hst15
  have HS15 := Aside0.mk hst15
  clear hb15 HN14 HK14 hst15
  gi_wp2_with fail
  refine (callsIn_wide.2 (same_zero (w.heap.size + 1) B15 m15 _ HN15.out.zero HS15.out)).mono ?_
  rintro e w16 ⟨rfl, hb16⟩
  have HN16 := Aside0.mk (HN15.out.step hb16)
  have HK16 := Aside0.mk (blk_below HK15.out hb16)
  clear hb16 HN15 HK15 HS15
  gi_wp2_with fail
  refine (callsIn_wide.2 (known_calls _)).mono ?_
  rintro e w17 ⟨rfl, hb17⟩
  have HN17 := Aside0.mk (HN16.out.step hb17)
  have hK := blk_below HK16.out hb17
  have r1 := HN17.out.res
  have c1 := r1.cell
  have f1 := r1.frozen
  clear hb17 HN16 HK16
  gi_wp2_with fail
  have hK' := (KeepsOthers.setCell w17 ⟨w.heap.size, 0, none⟩ (.bool true)).same D _ hK rfl
  refine ⟨by simp, .inl ⟨_, _, rfl, run_takeDeferred hK', ?_⟩⟩
  have hc5 := cell_kept (World.cell?_setCell_same' w17 ⟨w.heap.size, 0, none⟩ (.bool true) (by rw [c1]; rfl)) (grownBy_putObj' _ D (.deferred none)) (fun r e => by cases e; exact ⟨_, hK', rfl⟩)
  refine ⟨.bool true, ?_, rfl, ?_⟩
  · simp [results, Try.f6, go_sem, hc5]
  · exact (HN17.out.below.setCell (p := ⟨w.heap.size, 0, none⟩) (Nat.le_refl _) _).trans (belowK_b (w := w) (Nat.le_refl _) _ D _ _ HD.out hK' rfl rfl)
def odometerlaw16_StoreNil.f (_ : Nat) : Option Bool := some true
theorem odometerlaw16_StoreNil.calls (kk : Nat) (r : Bool) (w : World) (h : odometerlaw16_StoreNil.f kk = some r) : Calls Try.prog 6 #[] w fun e w' => e = .returned (.bool r) ∧ Below w.heap.size w w' := by
  obtain rfl := Option.some.inj h
  exact nil_calls w
theorem PureNil : ∃ k, odometerlaw16_StoreNil.f k = some true := ⟨0, rfl⟩
end Go.Proofs.Ytneodhhoejjncaa
