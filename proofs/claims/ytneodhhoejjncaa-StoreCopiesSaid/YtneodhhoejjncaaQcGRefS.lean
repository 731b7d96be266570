/- A text of this claim, pruned by a program of the session (prune.py) to what the theorem rests on. -/
import Derived.Test.YtneodhhoejjncaaQcGRefO
namespace Go.Proofs.Ytneodhhoejjncaa
open Go.RowKit Go.Proofs.YtneodhhoejjncaaW.PrintWords
set_option linter.unusedVariables false
set_option linter.unusedSimpArgs false
theorem set_oneC : ∀ (xs : List Sr) (k : Nat) (a : Sr) (l : Lst), xs[k]? = some a →
    ((((((oneC xs).set (k * 7 + 1) (.string l.x.nm)).set (k * 7 + 2) (.int .i64 l.x.val)).set (k * 7 + 3) (.int .i64 l.x.time)).set (k * 7 + 4) (.bool l.x.counts)).set (k * 7 + 5) (.bool l.live)).set (k * 7 + 6) (.int .i64 l.owner) = oneC (xs.set k (a.1, l))
  | [], k, a, l, h => by simp at h
  | b :: r, 0, a, l, h => by
    obtain rfl : b = a := by simpa using h
    simp [oneC, oneV, lstL]
  | b :: r, k + 1, a, l, h => by
    have e : ∀ j u, (oneC (b :: r)).set ((k + 1) * 7 + j) u = oneV b ++ (oneC r).set (k * 7 + j) u := fun j u => by
      show (oneV b ++ oneC r).set _ u = _
      rw [List.set_append_right _ _ (by rw [oneV_len]; omega), oneV_len, show (k + 1) * 7 + j - 7 = k * 7 + j by omega]
    have e2 : ∀ (L : List Value) j u, (oneV b ++ L).set ((k + 1) * 7 + j) u = oneV b ++ L.set (k * 7 + j) u := fun L j u => by
      rw [List.set_append_right _ _ (by rw [oneV_len]; omega), oneV_len, show (k + 1) * 7 + j - 7 = k * 7 + j by omega]
    rw [e, e2, e2, e2, e2, e2, set_oneC r k a l (by simpa using h)]
    rfl
theorem own_set6 {W : World} {base g n c : Nat} {xs : List Sr} (h : W.ownsRow base 71 7 (.slice (some ⟨g, 0, none⟩) n c) n (oneC xs)) (k : Nat) (a : Sr) (l : Lst) (hk : xs[k]? = some a) :
    ((((((W.setCell ⟨g, k * 7 + 1, none⟩ (.string l.x.nm)).setCell ⟨g, k * 7 + 1 + 1, none⟩ (.int .i64 l.x.val)).setCell ⟨g, k * 7 + 1 + 2, none⟩ (.int .i64 l.x.time)).setCell ⟨g, k * 7 + 1 + 3, none⟩ (.bool l.x.counts)).setCell ⟨g, k * 7 + 1 + 4, none⟩ (.bool l.live)).setCell ⟨g, k * 7 + 1 + 5, none⟩ (.int .i64 l.owner)).ownsRow base 71 7 (.slice (some ⟨g, 0, none⟩) n c) n (oneC (xs.set k (a.1, l))) := by
  have h1 := (h.stored (k * 7 + 1) (.string l.x.nm)).1
  have h2 := (h1.stored (k * 7 + 2) (.int .i64 l.x.val)).1
  have h3 := (h2.stored (k * 7 + 3) (.int .i64 l.x.time)).1
  have h4 := (h3.stored (k * 7 + 4) (.bool l.x.counts)).1
  have h5 := (h4.stored (k * 7 + 5) (.bool l.live)).1
  have h6 := (h5.stored (k * 7 + 6) (.int .i64 l.owner)).1
  rw [set_oneC xs k a l hk] at h6
  exact h6
theorem far_set6 {W : World} {g k : Nat} {l : Lst} {q : Nat} (h : q ≠ g) : ((((((W.setCell ⟨g, k * 7 + 1, none⟩ (.string l.x.nm)).setCell ⟨g, k * 7 + 1 + 1, none⟩ (.int .i64 l.x.val)).setCell ⟨g, k * 7 + 1 + 2, none⟩ (.int .i64 l.x.time)).setCell ⟨g, k * 7 + 1 + 3, none⟩ (.bool l.x.counts)).setCell ⟨g, k * 7 + 1 + 4, none⟩ (.bool l.live)).setCell ⟨g, k * 7 + 1 + 5, none⟩ (.int .i64 l.owner)).heap[q]? = W.heap[q]? := by
  rw [Below.heap_setCell _ _ _ _ h, Below.heap_setCell _ _ _ _ h, Below.heap_setCell _ _ _ _ h, Below.heap_setCell _ _ _ _ h, Below.heap_setCell _ _ _ _ h, Below.heap_setCell _ _ _ _ h]
theorem kept_set6 {F : Nat → Prop} {w W : World} {g k : Nat} {l : Lst} (h : KeptOff F w W) (hg : F g) : KeptOff F w ((((((W.setCell ⟨g, k * 7 + 1, none⟩ (.string l.x.nm)).setCell ⟨g, k * 7 + 1 + 1, none⟩ (.int .i64 l.x.val)).setCell ⟨g, k * 7 + 1 + 2, none⟩ (.int .i64 l.x.time)).setCell ⟨g, k * 7 + 1 + 3, none⟩ (.bool l.x.counts)).setCell ⟨g, k * 7 + 1 + 4, none⟩ (.bool l.live)).setCell ⟨g, k * 7 + 1 + 5, none⟩ (.int .i64 l.owner)) := by
  have h1 := h.setCell (p := ⟨g, k * 7 + 1, none⟩) (Or.inr hg) (.string l.x.nm)
  have h2 := h1.setCell (p := ⟨g, k * 7 + 1 + 1, none⟩) (Or.inr hg) (.int .i64 l.x.val)
  have h3 := h2.setCell (p := ⟨g, k * 7 + 1 + 2, none⟩) (Or.inr hg) (.int .i64 l.x.time)
  have h4 := h3.setCell (p := ⟨g, k * 7 + 1 + 3, none⟩) (Or.inr hg) (.bool l.x.counts)
  have h5 := h4.setCell (p := ⟨g, k * 7 + 1 + 4, none⟩) (Or.inr hg) (.bool l.live)
  have h6 := h5.setCell (p := ⟨g, k * 7 + 1 + 5, none⟩) (Or.inr hg) (.int .i64 l.owner)
  exact h6
theorem at_world {G : World → Prop} {w : World} (p : World → Prop) (hp : p w) (h : ∀ w', p w' → G w') : G w := h w hp
structure Turned (w w3 W : World) (base R g c k : Nat) (most owner : Int) (xs : List Sr) (a : Sr) (x : Smp) : Prop where
  st : RefAt W base R most (xs.set k (a.1, ⟨x, true, owner⟩)) (.slice (some ⟨g, 0, none⟩) xs.length c)
  kept : KeptOff (rfoot R (.slice (some ⟨g, 0, none⟩) xs.length c)) w W
  far : ∀ q, q ≠ g → W.heap[q]? = w3.heap[q]?
theorem turned_set {w w3 : World} {base R g c k : Nat} {most owner : Int} {xs : List Sr} {a : Sr} {x : Smp} (h : RefAt w3 base R most xs (.slice (some ⟨g, 0, none⟩) xs.length c)) (hg : g ≠ R) (hk : xs[k]? = some a) (hb : Below w.heap.size w w3) :
    Turned w w3 (((((((w3.setCell ⟨g, k * 7 + 1, none⟩ (.string x.nm)).setCell ⟨g, k * 7 + 1 + 1, none⟩ (.int .i64 x.val)).setCell ⟨g, k * 7 + 1 + 2, none⟩ (.int .i64 x.time)).setCell ⟨g, k * 7 + 1 + 3, none⟩ (.bool x.counts)).setCell ⟨g, k * 7 + 1 + 4, none⟩ (.bool true)).setCell ⟨g, k * 7 + 1 + 5, none⟩ (.int .i64 owner)).drew) base R g c k most owner xs a x := by
  have hf := fun q (hq : q ≠ g) => far_set6 (W := w3) (k := k) (l := ⟨x, true, owner⟩) hq
  have hr := own_set6 h.row k a ⟨x, true, owner⟩ hk
  have hkp := kept_set6 (F := rfoot R (.slice (some ⟨g, 0, none⟩) xs.length c)) (k := k) (l := ⟨x, true, owner⟩) (Kept_below hb) (Or.inr rfl)
  dsimp only at hf hr hkp
  generalize ((((((w3.setCell ⟨g, k * 7 + 1, none⟩ (.string x.nm)).setCell ⟨g, k * 7 + 1 + 1, none⟩ (.int .i64 x.val)).setCell ⟨g, k * 7 + 1 + 2, none⟩ (.int .i64 x.time)).setCell ⟨g, k * 7 + 1 + 3, none⟩ (.bool x.counts)).setCell ⟨g, k * 7 + 1 + 4, none⟩ (.bool true)).setCell ⟨g, k * 7 + 1 + 5, none⟩ (.int .i64 owner)) = W at *
  refine ⟨⟨?_, ?_⟩, hkp.drew, fun q hq => hf q hq⟩
  · exact (hf R (Ne.symm hg)).trans h.blk
  · rw [List.length_set]
    exact hr
set_option maxRecDepth 100000 in
set_option maxHeartbeats 1000000 in
theorem rone_some (base R : Nat) (most owner : Int) (xs : List Sr) (v : Value) (x : Smp) (w : World) (h : RefAt w base R most xs v) (hbase : base ≤ w.heap.size) (hl : xs.length ≤ 1099511627776) (hsome : ∃ a ∈ xs, a.1 = x.nm) :
    Calls Try.prog 26 #[.pointer (some ⟨R, 0, none⟩), .int .i64 owner, .agg (smpL x).toArray] w fun e w' => ∃ i, OfI xs x.nm i ∧ e = .returned (.agg (snL (oneX most owner x xs i).1).toArray) ∧ ∃ v', RLeft w w' base R most v v' (oneX most owner x xs i).2 := by
  have hof := fun W hb => rof_calls base R most xs v x.nm W (h.below (w' := W) hb) hl
  have H := Aside0.mk h
  have hRl : R < w.heap.size := blk_lt h.blk
  clear h
  unfold smpL
  go_enter Try.func26, Try.ntmps26
  go_wp2_with fail
  have hb1 : Below w.heap.size w ((w.alloc (.cells (smpL x).toArray 34)).alloc (.cells snZ.toArray 37)) := ((Below.refl _ w).alloc (Nat.le_refl _) _).alloc (by simp) _
  have hX1 : ((w.alloc (.cells (smpL x).toArray 34)).alloc (.cells snZ.toArray 37)).heap[w.heap.size]? = some (.cells (smpL x).toArray 34 (0, 0)) := blk_alloc (blk_new w _) _
  have hO1 : ((w.alloc (.cells (smpL x).toArray 34)).alloc (.cells snZ.toArray 37)).heap[w.heap.size + 1]? = some (.cells snZ.toArray 37 (0, 0)) := by
    have := blk_new (w.alloc (.cells (smpL x).toArray 34)) (.cells snZ.toArray 37)
    rw [size_push] at this
    exact this
  refine (hof _ hb1).mono ?_
  rintro e w2 ⟨i, rfl, hi, hb2⟩
  have hB2 : Below w.heap.size w w2 := hb1.trans (hb2.mono hb1.size)
  have hX2 := blk_below hX1 hb2
  have hO2 := blk_below hO1 hb2
  have hz2 : w.heap.size + 1 < w2.heap.size := blk_lt hO2
  have H2 := Aside0.mk (H.out.below hB2)
  have HB2 := Aside0.mk hB2
  have HX2 := Aside0.mk hX2
  have HO2 := Aside0.mk hO2
  have x0 : w2.cell? ⟨w.heap.size, 0, none⟩ = some (.string x.nm) := (blk_cell hX2 0).trans rfl
  have x1 : w2.cell? ⟨w.heap.size, 1, none⟩ = some (.int .i64 x.val) := (blk_cell hX2 1).trans rfl
  have x2 : w2.cell? ⟨w.heap.size, 2, none⟩ = some (.int .i64 x.time) := (blk_cell hX2 2).trans rfl
  have x3 : w2.cell? ⟨w.heap.size, 3, none⟩ = some (.bool x.counts) := (blk_cell hX2 3).trans rfl
  have hnX : w.heap.size ≠ w2.heap.size := by omega
  clear hof hb1 hX1 hO1 hb2 hB2 hX2 hO2
  rcases hi with ⟨rfl, hno⟩ | ⟨k, a, rfl, hk, hka⟩
  · obtain ⟨b, hb, he⟩ := hsome
    exact absurd he (hno b hb)
  · have HK := Aside0.mk hk
    have HKA := Aside0.mk hka
    have hkl : k < xs.length := (List.getElem?_eq_some_iff.1 hk).1
    obtain ⟨A, c, rfl, hcap, hrd⟩ := H2.out.reads
    obtain ⟨g, rfl, _, hgl, hgR, _, hcell⟩ := hrd.resolve_left (fun e => by obtain ⟨_, _, rfl⟩ := e; simp at hkl)
    have c0 : w2.cell? ⟨R, 0, none⟩ = some (.slice (some ⟨g, 0, none⟩) xs.length c) := (blk_cell H2.out.blk 0).trans rfl
    have a1 : w2.cell? ⟨g, k * 7 + 1, none⟩ = some (.string a.2.x.nm) := hcell k a hk 1 _ rfl
    have a2 : w2.cell? ⟨g, k * 7 + 2, none⟩ = some (.int .i64 a.2.x.val) := hcell k a hk 2 _ rfl
    have a3 : w2.cell? ⟨g, k * 7 + 3, none⟩ = some (.int .i64 a.2.x.time) := hcell k a hk 3 _ rfl
    have a4 : w2.cell? ⟨g, k * 7 + 4, none⟩ = some (.bool a.2.x.counts) := hcell k a hk 4 _ rfl
    have a5 : w2.cell? ⟨g, k * 7 + 5, none⟩ = some (.bool a.2.live) := hcell k a hk 5 _ rfl
    have a6 : w2.cell? ⟨g, k * 7 + 6, none⟩ = some (.int .i64 a.2.owner) := hcell k a hk 6 _ rfl
    have o0 : w2.cell? ⟨w.heap.size + 1, 0, none⟩ = some (.string ⟨#[]⟩) := (blk_cell HO2.out 0).trans rfl
    have o1 : w2.cell? ⟨w.heap.size + 1, 1, none⟩ = some (.int .i64 0) := (blk_cell HO2.out 1).trans rfl
    have o2 : w2.cell? ⟨w.heap.size + 1, 2, none⟩ = some (.int .i64 0) := (blk_cell HO2.out 2).trans rfl
    have o3 : w2.cell? ⟨w.heap.size + 1, 3, none⟩ = some (.bool false) := (blk_cell HO2.out 3).trans rfl
    have o4 : w2.cell? ⟨w.heap.size + 1, 4, none⟩ = some (.int .i64 0) := (blk_cell HO2.out 4).trans rfl
    have o5 : w2.cell? ⟨w.heap.size + 1, 5, none⟩ = some (.bool false) := (blk_cell HO2.out 5).trans rfl
    have o6 : w2.cell? ⟨w.heap.size + 1, 6, none⟩ = some (.int .i64 0) := (blk_cell HO2.out 6).trans rfl
    have fo : ∀ off, w2.frozen? ⟨w.heap.size + 1, off, none⟩ = false := fun off => blk_frozen HO2.out off
    have hki : ¬ (k : Int) < 0 := by omega
    have hkl2 : (k : Int) < (xs.length : Int) := by omega
    have m1 : R < w2.heap.size := by omega
    have m2 : w.heap.size < w2.heap.size := by omega
    have n1 : g ≠ w2.heap.size := by omega
    have n2 : g ≠ w2.heap.size + 1 := by omega
    have n3 : R ≠ w2.heap.size := by omega
    have n4 : R ≠ w2.heap.size + 1 := by omega
    have n5 : w.heap.size + 1 ≠ w2.heap.size := by omega
    have n6 : w.heap.size + 1 ≠ w2.heap.size + 1 := by omega
    have n7 : w.heap.size ≠ w2.heap.size + 1 := by omega
    have HG : Aside0 (g < w.heap.size) := ⟨H.out.lt (Or.inr rfl)⟩
    have HGR := Aside0.mk hgR
    clear hcell hrd hk hka hsome
    have HO4 : Aside0 (∀ o1 o2, ((w2.alloc o1).alloc o2).heap[w.heap.size + 1]? = some (.cells #[.string ⟨#[]⟩, .int .i64 0, .int .i64 0, .bool false, .int .i64 0, .bool false, .int .i64 0] 37 (0, 0))) := ⟨fun o1 o2 => blk_alloc (blk_alloc HO2.out o1) o2⟩
    have HB4 : Aside0 (∀ o1 o2, Below w.heap.size w ((w2.alloc o1).alloc o2)) := ⟨fun o1 o2 => below_alloc (below_alloc HB2.out o1) o2⟩
    have HB5 : Aside0 (∀ o1 o2, Below w2.heap.size w2 ((w2.alloc o1).alloc o2)) := ⟨fun o1 o2 => below_alloc (below_alloc (Below.refl _ _) o1) o2⟩
    have hone : ∀ s l, oneX most owner x xs (k : Int) = (s, l) ↔ (if x.time < a.2.x.time then ((⟨x, 2, false, 0⟩ : Sn), xs) else if x.time = a.2.x.time then (⟨x, 3, false, 0⟩, xs) else (⟨x, 1, a.2.live, if a.2.live then a.2.x.val else 0⟩, xs.set k (a.1, ⟨x, true, owner⟩))) = (s, l) := fun s l => by
      unfold oneX
      rw [if_neg (by omega), Int.toNat_natCast, HK.out]
    have HONE := Aside0.mk hone
    clear hone
    by_cases h1 : x.time < a.2.x.time
    · have t0 : decide (x.time < a.2.x.time) = true := decide_eq_true h1
      have h3 := (HONE.out _ _).2 (if_pos h1)
      have H3 := Aside0.mk h3
      clear h1 h3
      go_wp2_with fail
      refine bp_at (fun W => W.heap[w.heap.size + 1]? = some (.cells (snL ⟨x, 2, false, 0⟩).toArray 37 (0, 0)) ∧ Below w.heap.size w W) ⟨blk_alloc (blk_alloc (set7 w2 (w.heap.size + 1) HO2.out _ _ _ _ _ _ _) _) _, below_alloc (below_alloc (below7 (w.heap.size + 1) HB2.out (Nat.le_succ _) _ _ _ _ _ _ _) _) _⟩ ?_
      rintro W ⟨hO, hB⟩
      refine fin_one hO rfl rfl ⟨k, Or.inr ⟨k, a, rfl, HK.out, HKA.out⟩, ?_⟩
      rw [H3.out]
      exact ⟨rfl, _, RLeft.same H.out hB⟩
    · have t0 : decide (x.time < a.2.x.time) = false := decide_eq_false h1
      by_cases h2 : x.time = a.2.x.time
      · have t1 : (x.time == a.2.x.time) = true := by simpa using h2
        have h3 := (HONE.out _ _).2 ((if_neg h1).trans (if_pos h2))
        have H3 := Aside0.mk h3
        clear h1 h2 h3
        go_wp2_with fail
        refine bp_at (fun W => W.heap[w.heap.size + 1]? = some (.cells (snL ⟨x, 3, false, 0⟩).toArray 37 (0, 0)) ∧ Below w.heap.size w W) ⟨blk_alloc (blk_alloc (set7 w2 (w.heap.size + 1) HO2.out _ _ _ _ _ _ _) _) _, below_alloc (below_alloc (below7 (w.heap.size + 1) HB2.out (Nat.le_succ _) _ _ _ _ _ _ _) _) _⟩ ?_
        rintro W ⟨hO, hB⟩
        refine fin_one hO rfl rfl ⟨k, Or.inr ⟨k, a, rfl, HK.out, HKA.out⟩, ?_⟩
        rw [H3.out]
        exact ⟨rfl, _, RLeft.same H.out hB⟩
      · have t1 : (x.time == a.2.x.time) = false := by rw [beq_eq_false_iff_ne]; exact h2
        have h3 := (HONE.out _ _).2 ((if_neg h1).trans (if_neg h2))
        have H3 := Aside0.mk h3
        clear h1 h2 h3
        go_wp2_with fail
        refine wp_at (fun W => W.heap[w2.heap.size]? = some (.cells (lstL ⟨x, true, owner⟩).toArray 54 (0, 0)) ∧ W.heap[w2.heap.size + 1]? = some (.cells (lstL a.2).toArray 54 (0, 0)) ∧ Below w2.heap.size w2 W) ⟨blk_alloc (blk_new w2 _) _, by have h9 := blk_new (w2.alloc (.cells (lstL ⟨x, true, owner⟩).toArray 54)) (.cells (lstL a.2).toArray 54); rw [size_push] at h9; exact h9, HB5.out _ _⟩ ?_
        rintro w3 ⟨hN3, hM3, hB3⟩
        have H3b := Aside0.mk (H2.out.below hB3)
        have HB3 := Aside0.mk (HB2.out.trans (hB3.mono HB2.out.size))
        have HX3 := Aside0.mk (blk_below HX2.out hB3)
        have HO3 := Aside0.mk (blk_below HO2.out hB3)
        have HM3 := Aside0.mk hM3
        have e0 : w3.cell? ⟨R, 0, none⟩ = some (.slice (some ⟨g, 0, none⟩) xs.length c) := (blk_cell H3b.out.blk 0).trans rfl
        have y0 : w3.cell? ⟨w2.heap.size, 0, none⟩ = some (.string x.nm) := (blk_cell hN3 0).trans rfl
        have y1 : w3.cell? ⟨w2.heap.size, 1, none⟩ = some (.int .i64 x.val) := (blk_cell hN3 1).trans rfl
        have y2 : w3.cell? ⟨w2.heap.size, 2, none⟩ = some (.int .i64 x.time) := (blk_cell hN3 2).trans rfl
        have y3 : w3.cell? ⟨w2.heap.size, 3, none⟩ = some (.bool x.counts) := (blk_cell hN3 3).trans rfl
        have y4 : w3.cell? ⟨w2.heap.size, 4, none⟩ = some (.bool true) := (blk_cell hN3 4).trans rfl
        have y5 : w3.cell? ⟨w2.heap.size, 5, none⟩ = some (.int .i64 owner) := (blk_cell hN3 5).trans rfl
        have b1 := pw_cell_below hB3 a1
        have b2 := pw_cell_below hB3 a2
        have b3 := pw_cell_below hB3 a3
        have b4 := pw_cell_below hB3 a4
        have b5 := pw_cell_below hB3 a5
        have b6 := pw_cell_below hB3 a6
        have bf : ∀ off, w3.frozen? ⟨g, off, none⟩ = false := by
          obtain ⟨A', c', e9, _, h9⟩ := H3b.out.reads
          injection e9 with e9 _ _
          rcases h9 with ⟨e8, _⟩ | ⟨g', e8, _, _, _, ⟨cs, hcs, _⟩, _⟩
          · rw [e8] at e9; cases e9
          · rw [e8] at e9
            injection e9 with e9
            injection e9 with e9
            rw [e9]
            exact fun off => blk_frozen hcs off
        clear a1 a2 a3 a4 a5 a6 c0 o0 o1 o2 o3 o4 o5 o6 fo x0 x1 x2 x3 hN3 hM3 hB3 n5 n6 n7 n2 n4 hnX t0 t1
        go_region_held3 (fun w' => w'.cell? ⟨R, 0, none⟩ = some (.slice (some ⟨g, 0, none⟩) xs.length c) ∧ w'.cell? ⟨w2.heap.size, 0, none⟩ = some (.string x.nm) ∧ w'.cell? ⟨w2.heap.size, 1, none⟩ = some (.int .i64 x.val) ∧ w'.cell? ⟨w2.heap.size, 2, none⟩ = some (.int .i64 x.time) ∧ w'.cell? ⟨w2.heap.size, 3, none⟩ = some (.bool x.counts) ∧ w'.cell? ⟨w2.heap.size, 4, none⟩ = some (.bool true) ∧ w'.cell? ⟨w2.heap.size, 5, none⟩ = some (.int .i64 owner)) (first | go_keep) (first | fail)
        refine at_world (G := fun W => Exit.then _ _ Exit.normal _ W) (fun W => Turned w w3 W base R g c k most owner xs a x) (turned_set H3b.out HGR.out HK.out HB3.out) ?_
        intro w4 hT
        have HT := Aside0.mk hT
        have hO4 := (hT.far _ (by have := HG.out; omega)).trans HO3.out
        have hX4 := (hT.far _ (by have := HG.out; omega)).trans HX3.out
        have hM4 := (hT.far _ (by have := HG.out; omega)).trans HM3.out
        have o0 : w4.cell? ⟨w.heap.size + 1, 0, none⟩ = some (.string ⟨#[]⟩) := (blk_cell hO4 0).trans rfl
        have o1 : w4.cell? ⟨w.heap.size + 1, 1, none⟩ = some (.int .i64 0) := (blk_cell hO4 1).trans rfl
        have o2 : w4.cell? ⟨w.heap.size + 1, 2, none⟩ = some (.int .i64 0) := (blk_cell hO4 2).trans rfl
        have o3 : w4.cell? ⟨w.heap.size + 1, 3, none⟩ = some (.bool false) := (blk_cell hO4 3).trans rfl
        have o4 : w4.cell? ⟨w.heap.size + 1, 4, none⟩ = some (.int .i64 0) := (blk_cell hO4 4).trans rfl
        have o5 : w4.cell? ⟨w.heap.size + 1, 5, none⟩ = some (.bool false) := (blk_cell hO4 5).trans rfl
        have o6 : w4.cell? ⟨w.heap.size + 1, 6, none⟩ = some (.int .i64 0) := (blk_cell hO4 6).trans rfl
        have fo : ∀ off, w4.frozen? ⟨w.heap.size + 1, off, none⟩ = false := fun off => blk_frozen hO4 off
        have x0 : w4.cell? ⟨w.heap.size, 0, none⟩ = some (.string x.nm) := (blk_cell hX4 0).trans rfl
        have x1 : w4.cell? ⟨w.heap.size, 1, none⟩ = some (.int .i64 x.val) := (blk_cell hX4 1).trans rfl
        have x2 : w4.cell? ⟨w.heap.size, 2, none⟩ = some (.int .i64 x.time) := (blk_cell hX4 2).trans rfl
        have x3 : w4.cell? ⟨w.heap.size, 3, none⟩ = some (.bool x.counts) := (blk_cell hX4 3).trans rfl
        have z1 : w4.cell? ⟨w2.heap.size + 1, 1, none⟩ = some (.int .i64 a.2.x.val) := (blk_cell hM4 1).trans rfl
        have z4 : w4.cell? ⟨w2.heap.size + 1, 4, none⟩ = some (.bool a.2.live) := (blk_cell hM4 4).trans rfl
        have HO4 := Aside0.mk hO4
        clear hT hX4 hM4 hO4 e0 y0 y1 y2 y3 y4 y5 b1 b2 b3 b4 b5 b6 bf
        cases hlv : a.2.live with
        | true =>
          rw [hlv] at z4
          have HL := Aside0.mk hlv
          clear hlv
          go_wp2_with fail
          refine bp_at (fun W => W.heap[w.heap.size + 1]? = some (.cells (snL ⟨x, 1, true, a.2.x.val⟩).toArray 37 (0, 0)) ∧ RefAt W base R most (xs.set k (a.1, ⟨x, true, owner⟩)) (.slice (some ⟨g, 0, none⟩) xs.length c) ∧ KeptOff (rfoot R (.slice (some ⟨g, 0, none⟩) xs.length c)) w W) ⟨set7 _ _ HO4.out _ _ _ _ _ _ _, ref_set7 HT.out.st (rfoot_ne HT.out.st HO4.out (by decide) (by decide)) _ _ _ _ _ _ _, kept_set7 HT.out.kept (by omega) _ _ _ _ _ _ _⟩ ?_
          rintro W ⟨hO, hR, hK⟩
          refine fin_one hO rfl rfl ⟨k, Or.inr ⟨k, a, rfl, HK.out, HKA.out⟩, ?_⟩
          rw [H3.out, HL.out]
          exact ⟨rfl, _, hR, hK, fun q hq => Or.inl hq⟩
        | false =>
          rw [hlv] at z4
          have HL := Aside0.mk hlv
          clear hlv
          go_wp2_with fail
          refine bp_at (fun W => W.heap[w.heap.size + 1]? = some (.cells (snL ⟨x, 1, false, 0⟩).toArray 37 (0, 0)) ∧ RefAt W base R most (xs.set k (a.1, ⟨x, true, owner⟩)) (.slice (some ⟨g, 0, none⟩) xs.length c) ∧ KeptOff (rfoot R (.slice (some ⟨g, 0, none⟩) xs.length c)) w W) ⟨set7 _ _ HO4.out _ _ _ _ _ _ _, ref_set7 HT.out.st (rfoot_ne HT.out.st HO4.out (by decide) (by decide)) _ _ _ _ _ _ _, kept_set7 HT.out.kept (by omega) _ _ _ _ _ _ _⟩ ?_
          rintro W ⟨hO, hR, hK⟩
          refine fin_one hO rfl rfl ⟨k, Or.inr ⟨k, a, rfl, HK.out, HKA.out⟩, ?_⟩
          rw [H3.out, HL.out]
          exact ⟨rfl, _, hR, hK, fun q hq => Or.inl hq⟩
end Go.Proofs.Ytneodhhoejjncaa
