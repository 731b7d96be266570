/- A text of this claim, pruned by a program of the session (prune.py) to what the theorem rests on. -/
import Derived.Test.YtneodhhoejjncaaQcGRefO
namespace Go.Proofs.Ytneodhhoejjncaa
open Go.RowKit Go.Proofs.YtneodhhoejjncaaW.PrintWords
set_option linter.unusedVariables false
set_option linter.unusedSimpArgs false
set_option maxRecDepth 100000 in
set_option maxHeartbeats 1000000 in
theorem rone_none (base R : Nat) (most owner : Int) (xs : List Sr) (v : Value) (x : Smp) (w : World) (h : RefAt w base R most xs v) (hbase : base ≤ w.heap.size) (hl : xs.length ≤ 1099511627776) (hnone : ∀ a ∈ xs, a.1 ≠ x.nm) :
    Calls Try.prog 26 #[.pointer (some ⟨R, 0, none⟩), .int .i64 owner, .agg (smpL x).toArray] w fun e w' => ∃ i, OfI xs x.nm i ∧ e = .returned (.agg (snL (oneX most owner x xs i).1).toArray) ∧ ∃ v', RLeft w w' base R most v v' (oneX most owner x xs i).2 := by
  have hof := fun W hb => rof_calls base R most xs v x.nm W (h.below (w' := W) hb) hl
  have H := Aside0.mk h
  have hRl : R < w.heap.size := blk_lt h.blk
  clear h
  unfold smpL
  go_enter Try.func26, Try.ntmps26
  go_wp2_with fail
  have hb1 : Below w.heap.size w ((w.alloc (.cells (smpL x).toArray 34)).alloc (.cells snZ.toArray 37)) := ((Below.refl _ w).alloc (Nat.le_refl _) _).alloc (by simp) _
  have hX1 : ((w.alloc (.cells (smpL x).toArray 34)).alloc (.cells snZ.toArray 37)).heap[w.heap.size]? = some (.cells (smpL x).toArray 34 (0, 0)) := blk_alloc (blk_new w _) _
  have hO1 : ((w.alloc (.cells (smpL x).toArray 34)).alloc (.cells snZ.toArray 37)).heap[w.heap.size + 1]? = some (.cells snZ.toArray 37 (0, 0)) := by
    have := blk_new (w.alloc (.cells (smpL x).toArray 34)) (.cells snZ.toArray 37)
    rw [size_push] at this
    exact this
  refine (hof _ hb1).mono ?_
  rintro e w2 ⟨i, rfl, hi, hb2⟩
  have hB2 : Below w.heap.size w w2 := hb1.trans (hb2.mono hb1.size)
  have hX2 := blk_below hX1 hb2
  have hO2 := blk_below hO1 hb2
  have hz2 : w.heap.size + 1 < w2.heap.size := blk_lt hO2
  have H2 := Aside0.mk (H.out.below hB2)
  have HB2 := Aside0.mk hB2
  have HX2 := Aside0.mk hX2
  have HO2 := Aside0.mk hO2
  have x0 : w2.cell? ⟨w.heap.size, 0, none⟩ = some (.string x.nm) := (blk_cell hX2 0).trans rfl
  have x1 : w2.cell? ⟨w.heap.size, 1, none⟩ = some (.int .i64 x.val) := (blk_cell hX2 1).trans rfl
  have x2 : w2.cell? ⟨w.heap.size, 2, none⟩ = some (.int .i64 x.time) := (blk_cell hX2 2).trans rfl
  have x3 : w2.cell? ⟨w.heap.size, 3, none⟩ = some (.bool x.counts) := (blk_cell hX2 3).trans rfl
  have hnX : w.heap.size ≠ w2.heap.size := by omega
  clear hof hb1 hX1 hO1 hb2 hB2 hX2 hO2
  rcases hi with ⟨rfl, hno⟩ | ⟨k, a, rfl, hk, hka⟩
  · have HNO := Aside0.mk hno
    clear hno
    go_wp2_with fail
    refine wp_at (fun w3 => w3.heap[w2.heap.size]? = some (.cells (lstL ⟨x, true, owner⟩).toArray 54 (0, 0)) ∧ Below w2.heap.size w2 w3) ⟨blk_new w2 _, (Below.refl _ w2).alloc (Nat.le_refl _) _⟩ ?_
    rintro w3 ⟨hN3, hB3⟩
    clear x0 x1 x2 x3 hnX
    have H3 := Aside0.mk (H2.out.below hB3)
    have HB3 := Aside0.mk (HB2.out.trans (hB3.mono HB2.out.size))
    have HX3 := Aside0.mk (blk_below HX2.out hB3)
    have HO3 := Aside0.mk (blk_below HO2.out hB3)
    have HN3 := Aside0.mk hN3
    clear hB3 HB2 HX2 HO2 H2
    have x0 : w3.cell? ⟨w.heap.size, 0, none⟩ = some (.string x.nm) := (blk_cell HX3.out 0).trans rfl
    have x1 : w3.cell? ⟨w.heap.size, 1, none⟩ = some (.int .i64 x.val) := (blk_cell HX3.out 1).trans rfl
    have x2 : w3.cell? ⟨w.heap.size, 2, none⟩ = some (.int .i64 x.time) := (blk_cell HX3.out 2).trans rfl
    have x3 : w3.cell? ⟨w.heap.size, 3, none⟩ = some (.bool x.counts) := (blk_cell HX3.out 3).trans rfl
    have hz3 : w2.heap.size < w3.heap.size := blk_lt hN3
    obtain ⟨A, c, rfl, hcap, hrd⟩ := H3.out.reads
    have c0 : w3.cell? ⟨R, 0, none⟩ = some (.slice A xs.length c) := (blk_cell H3.out.blk 0).trans rfl
    have c1 : w3.cell? ⟨R, 1, none⟩ = some (.int .i64 most) := (blk_cell H3.out.blk 1).trans rfl
    have HRD := Aside0.mk hrd
    clear hrd hN3
    have o0 : w3.cell? ⟨w.heap.size + 1, 0, none⟩ = some (.string ⟨#[]⟩) := (blk_cell HO3.out 0).trans rfl
    have o1 : w3.cell? ⟨w.heap.size + 1, 1, none⟩ = some (.int .i64 0) := (blk_cell HO3.out 1).trans rfl
    have o2 : w3.cell? ⟨w.heap.size + 1, 2, none⟩ = some (.int .i64 0) := (blk_cell HO3.out 2).trans rfl
    have o3 : w3.cell? ⟨w.heap.size + 1, 3, none⟩ = some (.bool false) := (blk_cell HO3.out 3).trans rfl
    have o4 : w3.cell? ⟨w.heap.size + 1, 4, none⟩ = some (.int .i64 0) := (blk_cell HO3.out 4).trans rfl
    have o5 : w3.cell? ⟨w.heap.size + 1, 5, none⟩ = some (.bool false) := (blk_cell HO3.out 5).trans rfl
    have o6 : w3.cell? ⟨w.heap.size + 1, 6, none⟩ = some (.int .i64 0) := (blk_cell HO3.out 6).trans rfl
    have fo : ∀ off, w3.frozen? ⟨w.heap.size + 1, off, none⟩ = false := fun off => blk_frozen HO3.out off
    by_cases hm : most ≤ (xs.length : Int)
    · have t0 : decide (most ≤ (xs.length : Int)) = true := decide_eq_true hm
      have HM := Aside0.mk hm
      clear hm
      go_quiet (fail)
      go_wp2_with fail
      refine bp_at (fun W => W.heap[w.heap.size + 1]? = some (.cells (snL ⟨x, 4, false, 0⟩).toArray 37 (0, 0)) ∧ Below w.heap.size w W) ⟨set7 _ _ HO3.out _ _ _ _ _ _ _, below7 _ (pw_below_drewN HB3.out _) (by omega) _ _ _ _ _ _ _⟩ ?_
      rintro W ⟨hO, hB⟩
      refine fin_one hO rfl rfl ⟨-1, Or.inl ⟨rfl, HNO.out⟩, ?_⟩
      unfold oneX
      rw [if_pos (by decide), if_pos HM.out]
      exact ⟨rfl, _, RLeft.same H.out hB⟩
    · have t0 : decide (most ≤ (xs.length : Int)) = false := decide_eq_false hm
      have HM := Aside0.mk hm
      clear hm
      go_quiet (fail)
      go_wp2_with fail
      rename_i nq
      go_loopw [9] (fun v wr => ∃ j n : Nat, j ≤ xs.length ∧ v = .int .i64 j ∧ wr = w3.drewN n ∧ Aside0 (∀ a ∈ xs.take j, Op.bytesLess a.1.data.toList x.nm.data.toList = true)) (fun v _ => xs.length - (intOf v).toNat)
      case atStart => exact ⟨0, _, Nat.zero_le _, by go_num, rfl, ⟨by simp⟩⟩
      case round =>
        obtain ⟨j, n, hj, rfl, rfl, hS⟩ := hrel
        have hins : ∀ (_ : ∀ a, xs[j]? = some a → Op.bytesLess a.1.data.toList x.nm.data.toList = false), Aside0 (insP x.nm ⟨x, true, owner⟩ xs = xs.take j ++ (x.nm, ⟨x, true, owner⟩) :: xs.drop j) := fun h => ⟨insP_at _ _ xs j hj hS.out h⟩
        have HI := Aside0.mk hins
        clear hins
        have hins : ∀ (_ : ∀ a, xs[j]? = some a → Op.bytesLess a.1.data.toList x.nm.data.toList = false), Aside0 (insP x.nm ⟨x, true, owner⟩ xs = xs.take j ++ (x.nm, ⟨x, true, owner⟩) :: xs.drop j) := fun h => ⟨insP_at _ _ xs j hj hS.out h⟩
        have HI := Aside0.mk hins
        clear hins
        have hins : ∀ (_ : ∀ a, xs[j]? = some a → Op.bytesLess a.1.data.toList x.nm.data.toList = false), Aside0 (insP x.nm ⟨x, true, owner⟩ xs = xs.take j ++ (x.nm, ⟨x, true, owner⟩) :: xs.drop j) := fun h => ⟨insP_at _ _ xs j hj hS.out h⟩
        have HI := Aside0.mk hins
        clear hins
        have hins : ∀ (_ : ∀ a, xs[j]? = some a → Op.bytesLess a.1.data.toList x.nm.data.toList = false), Aside0 (insP x.nm ⟨x, true, owner⟩ xs = xs.take j ++ (x.nm, ⟨x, true, owner⟩) :: xs.drop j) := fun h => ⟨insP_at _ _ xs j hj hS.out h⟩
        have HI := Aside0.mk hins
        clear hins
        have hins : ∀ (_ : ∀ a, xs[j]? = some a → Op.bytesLess a.1.data.toList x.nm.data.toList = false), Aside0 (insP x.nm ⟨x, true, owner⟩ xs = xs.take j ++ (x.nm, ⟨x, true, owner⟩) :: xs.drop j) := fun h => ⟨insP_at _ _ xs j hj hS.out h⟩
        have HI := Aside0.mk hins
        clear hins
        have hins : ∀ (_ : ∀ a, xs[j]? = some a → Op.bytesLess a.1.data.toList x.nm.data.toList = false), Aside0 (insP x.nm ⟨x, true, owner⟩ xs = xs.take j ++ (x.nm, ⟨x, true, owner⟩) :: xs.drop j) := fun h => ⟨insP_at _ _ xs j hj hS.out h⟩
        have HI := Aside0.mk hins
        clear hins
        have hins : ∀ (_ : ∀ a, xs[j]? = some a → Op.bytesLess a.1.data.toList x.nm.data.toList = false), Aside0 (insP x.nm ⟨x, true, owner⟩ xs = xs.take j ++ (x.nm, ⟨x, true, owner⟩) :: xs.drop j) := fun h => ⟨insP_at _ _ xs j hj hS.out h⟩
        have HI := Aside0.mk hins
        clear hins
        have hins : ∀ (_ : ∀ a, xs[j]? = some a → Op.bytesLess a.1.data.toList x.nm.data.toList = false), Aside0 (insP x.nm ⟨x, true, owner⟩ xs = xs.take j ++ (x.nm, ⟨x, true, owner⟩) :: xs.drop j) := fun h => ⟨insP_at _ _ xs j hj hS.out h⟩
        have HI := Aside0.mk hins
        clear hins
        have hins : ∀ (_ : ∀ a, xs[j]? = some a → Op.bytesLess a.1.data.toList x.nm.data.toList = false), Aside0 (insP x.nm ⟨x, true, owner⟩ xs = xs.take j ++ (x.nm, ⟨x, true, owner⟩) :: xs.drop j) := fun h => ⟨insP_at _ _ xs j hj hS.out h⟩
        have HI := Aside0.mk hins
        clear hins
        have hins : ∀ (_ : ∀ a, xs[j]? = some a → Op.bytesLess a.1.data.toList x.nm.data.toList = false), Aside0 (insP x.nm ⟨x, true, owner⟩ xs = xs.take j ++ (x.nm, ⟨x, true, owner⟩) :: xs.drop j) := fun h => ⟨insP_at _ _ xs j hj hS.out h⟩
        have HI := Aside0.mk hins
        clear hins
        have hins : ∀ (_ : ∀ a, xs[j]? = some a → Op.bytesLess a.1.data.toList x.nm.data.toList = false), Aside0 (insP x.nm ⟨x, true, owner⟩ xs = xs.take j ++ (x.nm, ⟨x, true, owner⟩) :: xs.drop j) := fun h => ⟨insP_at _ _ xs j hj hS.out h⟩
        have HI := Aside0.mk hins
        clear hins
        have hins : ∀ (_ : ∀ a, xs[j]? = some a → Op.bytesLess a.1.data.toList x.nm.data.toList = false), Aside0 (insP x.nm ⟨x, true, owner⟩ xs = xs.take j ++ (x.nm, ⟨x, true, owner⟩) :: xs.drop j) := fun h => ⟨insP_at _ _ xs j hj hS.out h⟩
        have HI := Aside0.mk hins
        clear hins
        have hins : ∀ (_ : ∀ a, xs[j]? = some a → Op.bytesLess a.1.data.toList x.nm.data.toList = false), Aside0 (insP x.nm ⟨x, true, owner⟩ xs = xs.take j ++ (x.nm, ⟨x, true, owner⟩) :: xs.drop j) := fun h => ⟨insP_at _ _ xs j hj hS.out h⟩
        have HI := Aside0.mk hins
        clear hins
        by_cases hlt : j < xs.length
        · have hlti : (j : Int) < (xs.length : Int) := by omega
          obtain ⟨g, rfl, _, _, _, _, hcell⟩ := HRD.out.resolve_left (fun e => by obtain ⟨_, _, rfl⟩ := e; simp at hlt)
          have s0 : w3.cell? ⟨g, j * 7, none⟩ = some (.string xs[j].1) := by
            have := hcell j xs[j] (List.getElem?_eq_getElem hlt) 0 _ rfl
            exact this
          have HT := Aside0.mk (List.take_succ_eq_append_getElem hlt)
          have HG := Aside0.mk (List.getElem?_eq_getElem hlt)
          clear hcell
          generalize xs[j] = a at *
          cases hless : Op.bytesLess a.1.data.toList x.nm.data.toList with
          | true =>
            have hl1 : Op.bytesLess a.1.toList x.nm.toList = true := by rw [ByteArray.toList_eq, ByteArray.toList_eq]; exact hless
            have HLE := Aside0.mk hless
            clear hless
            go_wp2_with fail
            go_quiet (fail)
            go_wp2_with fail
            go_roundw
            case rel =>
              refine ⟨j + 1, _, by omega, by go_num, rfl, ⟨fun b hb => ?_⟩⟩
              rw [HT.out, List.mem_append, List.mem_singleton] at hb
              rcases hb with hb | rfl
              · exact hS.out b hb
              · exact HLE.out
            case measure => simp [intOf]; omega
          | false =>
            have hl1 : Op.bytesLess a.1.toList x.nm.toList = false := by rw [ByteArray.toList_eq, ByteArray.toList_eq]; exact hless
            have HIN := HI.out (fun b hb => by rw [HG.out] at hb; rw [← Option.some.inj hb]; exact hless)
            clear hless HI hS HT HG
            go_wp2_with fail
            go_quiet (fail)
            go_wp2_with fail
            clear s0 hl1 hlti
            have hjc : j ≤ c := by omega
            refine wp_at (fun W => Below w3.heap.size w3 W) (pw_below_drewN (pw_below_drewN (Below.refl _ w3) _) _) ?_
            intro w4 hB4
            have HS9 : Aside0 (S9 w3 R w.heap.size w2.heap.size (.slice (some ⟨g, 0, none⟩) xs.length c) x owner w3) := ⟨⟨c0, x0, (blk_cell HN3.out 0).trans rfl, (blk_cell HN3.out 1).trans rfl, (blk_cell HN3.out 2).trans rfl, (blk_cell HN3.out 3).trans rfl, (blk_cell HN3.out 4).trans rfl, (blk_cell HN3.out 5).trans rfl, Below.refl _ _⟩⟩
            refine wp_regionL 23 (S9 w3 R w.heap.size w2.heap.size (.slice (some ⟨g, 0, none⟩) xs.length c) x owner) (by kernel_rfl) ?_
            have HB4 := Aside0.mk (below_drew hB4)
            have HS : Aside0 (S9 w3 R w.heap.size w2.heap.size (.slice (some ⟨g, 0, none⟩) xs.length c) x owner w4.drew) := ⟨s9_of HS9.out _ HB4.out⟩
            have HL : Aside0 (∀ W, Below w3.heap.size w3 W → SrcAt W (some ⟨g, 0, none⟩) c j (oneC (xs.take j))) := ⟨fun W hb => src_lo H3.out j hj hb⟩
            have HH : Aside0 (∀ W, Below w3.heap.size w3 W → SrcAt W (if c = j then some ⟨g, 0, none⟩ else some ⟨g, j * 7, none⟩) (c - j) (xs.length - j) (oneC (xs.drop j))) := ⟨fun W hb => src_hi H3.out j hj hcap hb⟩
            have HLT : Aside0 ((oneC (xs.take j)).length = j * 7) := ⟨by rw [oneC_len, List.length_take_of_le hj]⟩
            clear c0 c1 x0 x1 x2 x3 o0 o1 o2 o3 o4 o5 o6 fo t0 hB4
            refine anyL_take (i := 0) (v := ?_) rfl (by kernel_rfl) (by kernel_rfl) (by kernel_rfl) (fun _ _ _ h => h) (by decide) rfl (by kernel_rfl) (by rfl) ?_ HS.out ?_
            rotate_left
            · intro W hW
              obtain ⟨g0, g1, g2, g3, g4, g5, g6, g7, gB⟩ := hW
              go_simp
              try with_reducible rfl
            simp only [Act.put, List.getElem_toArray, List.getElem_cons_succ, List.getElem_cons_zero, List.setIfInBounds_toArray, List.set_cons_zero, List.set_cons_succ]
            refine anyL_take (i := 1) (v := ?_) rfl (by kernel_rfl) (by kernel_rfl) (by kernel_rfl) (fun _ _ _ h => h) (by decide) rfl (by kernel_rfl) (by rfl) ?_ HS.out ?_
            rotate_left
            · intro W hW
              obtain ⟨g0, g1, g2, g3, g4, g5, g6, g7, gB⟩ := hW
              go_simp
              try with_reducible rfl
            simp only [Act.put, List.getElem_toArray, List.getElem_cons_succ, List.getElem_cons_zero, List.setIfInBounds_toArray, List.set_cons_zero, List.set_cons_succ]
            refine anyL_take (i := 2) (v := ?_) rfl (by kernel_rfl) (by kernel_rfl) (by kernel_rfl) (fun _ _ _ h => h) (by decide) rfl (by kernel_rfl) (by rfl) ?_ HS.out ?_
            rotate_left
            · intro W hW
              obtain ⟨g0, g1, g2, g3, g4, g5, g6, g7, gB⟩ := hW
              go_simp
              try with_reducible rfl
            simp only [Act.put, List.getElem_toArray, List.getElem_cons_succ, List.getElem_cons_zero, List.setIfInBounds_toArray, List.set_cons_zero, List.set_cons_succ]
            refine anyL_take (i := 3) (v := ?_) rfl (by kernel_rfl) (by kernel_rfl) (by kernel_rfl) (fun _ _ _ h => h) (by decide) rfl (by kernel_rfl) (by rfl) ?_ HS.out ?_
            rotate_left
            · intro W hW
              obtain ⟨g0, g1, g2, g3, g4, g5, g6, g7, gB⟩ := hW
              go_simp
              try with_reducible rfl
            simp only [Act.put, List.getElem_toArray, List.getElem_cons_succ, List.getElem_cons_zero, List.setIfInBounds_toArray, List.set_cons_zero, List.set_cons_succ]
            refine anyL_take (i := 4) (v := ?_) rfl (by kernel_rfl) (by kernel_rfl) (by kernel_rfl) (fun _ _ _ h => h) (by decide) rfl (by kernel_rfl) (by rfl) ?_ HS.out ?_
            rotate_left
            · intro W hW
              obtain ⟨g0, g1, g2, g3, g4, g5, g6, g7, gB⟩ := hW
              go_simp
              try with_reducible rfl
            simp only [Act.put, List.getElem_toArray, List.getElem_cons_succ, List.getElem_cons_zero, List.setIfInBounds_toArray, List.set_cons_zero, List.set_cons_succ]
            refine anyL_take (i := 5) (v := ?_) rfl (by kernel_rfl) (by kernel_rfl) (by kernel_rfl) (fun _ _ _ h => h) (by decide) rfl (by kernel_rfl) (by rfl) ?_ HS.out ?_
            rotate_left
            · intro W hW
              obtain ⟨g0, g1, g2, g3, g4, g5, g6, g7, gB⟩ := hW
              go_simp
              try with_reducible rfl
            simp only [Act.put, List.getElem_toArray, List.getElem_cons_succ, List.getElem_cons_zero, List.setIfInBounds_toArray, List.set_cons_zero, List.set_cons_succ]
            refine anyL_take (i := 6) (v := ?_) rfl (by kernel_rfl) (by kernel_rfl) (by kernel_rfl) (fun _ _ _ h => h) (by decide) rfl (by kernel_rfl) (by rfl) ?_ HS.out ?_
            rotate_left
            · intro W hW
              obtain ⟨g0, g1, g2, g3, g4, g5, g6, g7, gB⟩ := hW
              go_simp
              try with_reducible rfl
            simp only [Act.put, List.getElem_toArray, List.getElem_cons_succ, List.getElem_cons_zero, List.setIfInBounds_toArray, List.set_cons_zero, List.set_cons_succ]
            refine anyL_take (i := 8) (v := ?_) rfl (by kernel_rfl) (by kernel_rfl) (by kernel_rfl) (fun _ _ _ h => h) (by decide) rfl (by kernel_rfl) (by rfl) ?_ HS.out ?_
            rotate_left
            · intro W hW
              obtain ⟨g0, g1, g2, g3, g4, g5, g6, g7, gB⟩ := hW
              go_simp
              try with_reducible rfl
            simp only [Act.put, List.getElem_toArray, List.getElem_cons_succ, List.getElem_cons_zero, List.setIfInBounds_toArray, List.set_cons_zero, List.set_cons_succ]
            refine anyL_take (i := 9) (v := ?_) rfl (by kernel_rfl) (by kernel_rfl) (by kernel_rfl) (fun _ _ _ h => h) (by decide) rfl (by kernel_rfl) (by rfl) ?_ HS.out ?_
            rotate_left
            · intro W hW
              obtain ⟨g0, g1, g2, g3, g4, g5, g6, g7, gB⟩ := hW
              go_simp
              try with_reducible rfl
            simp only [Act.put, List.getElem_toArray, List.getElem_cons_succ, List.getElem_cons_zero, List.setIfInBounds_toArray, List.set_cons_zero, List.set_cons_succ]
            refine anyL_take (i := 10) (v := ?_) rfl (by kernel_rfl) (by kernel_rfl) (by kernel_rfl) (fun _ _ _ h => h) (by decide) rfl (by kernel_rfl) (by rfl) ?_ HS.out ?_
            rotate_left
            · intro W hW
              obtain ⟨g0, g1, g2, g3, g4, g5, g6, g7, gB⟩ := hW
              go_simp
              try with_reducible rfl
            simp only [Act.put, List.getElem_toArray, List.getElem_cons_succ, List.getElem_cons_zero, List.setIfInBounds_toArray, List.set_cons_zero, List.set_cons_succ]
            refine anyL_take (i := 11) (v := ?_) rfl (by kernel_rfl) (by kernel_rfl) (by kernel_rfl) (fun _ _ _ h => h) (by decide) rfl (by kernel_rfl) (by rfl) ?_ HS.out ?_
            rotate_left
            · intro W hW
              obtain ⟨g0, g1, g2, g3, g4, g5, g6, g7, gB⟩ := hW
              go_simp
              try with_reducible rfl
            simp only [Act.put, List.getElem_toArray, List.getElem_cons_succ, List.getElem_cons_zero, List.setIfInBounds_toArray, List.set_cons_zero, List.set_cons_succ]
            refine anyL_take (i := 14) (v := ?_) rfl (by kernel_rfl) (by kernel_rfl) (by kernel_rfl) (fun _ _ _ h => h) (by decide) rfl (by kernel_rfl) (by rfl) ?_ HS.out ?_
            rotate_left
            · intro W hW
              obtain ⟨g0, g1, g2, g3, g4, g5, g6, g7, gB⟩ := hW
              go_simp
              try with_reducible rfl
            simp only [Act.put, List.getElem_toArray, List.getElem_cons_succ, List.getElem_cons_zero, List.setIfInBounds_toArray, List.set_cons_zero, List.set_cons_succ]
            refine anyL_take (i := 15) (v := ?_) rfl (by kernel_rfl) (by kernel_rfl) (by kernel_rfl) (fun _ _ _ h => h) (by decide) rfl (by kernel_rfl) (by rfl) ?_ HS.out ?_
            rotate_left
            · intro W hW
              obtain ⟨g0, g1, g2, g3, g4, g5, g6, g7, gB⟩ := hW
              go_simp
              try with_reducible rfl
            simp only [Act.put, List.getElem_toArray, List.getElem_cons_succ, List.getElem_cons_zero, List.setIfInBounds_toArray, List.set_cons_zero, List.set_cons_succ]
            refine anyL_take (i := 16) (v := ?_) rfl (by kernel_rfl) (by kernel_rfl) (by kernel_rfl) (fun _ _ _ h => h) (by decide) rfl (by kernel_rfl) (by rfl) ?_ HS.out ?_
            rotate_left
            · intro W hW
              obtain ⟨g0, g1, g2, g3, g4, g5, g6, g7, gB⟩ := hW
              go_simp
              try with_reducible rfl
            simp only [Act.put, List.getElem_toArray, List.getElem_cons_succ, List.getElem_cons_zero, List.setIfInBounds_toArray, List.set_cons_zero, List.set_cons_succ]
            refine anyL_take (i := 17) (v := ?_) rfl (by kernel_rfl) (by kernel_rfl) (by kernel_rfl) (fun _ _ _ h => h) (by decide) rfl (by kernel_rfl) (by rfl) ?_ HS.out ?_
            rotate_left
            · intro W hW
              obtain ⟨g0, g1, g2, g3, g4, g5, g6, g7, gB⟩ := hW
              go_simp
              try with_reducible rfl
            simp only [Act.put, List.getElem_toArray, List.getElem_cons_succ, List.getElem_cons_zero, List.setIfInBounds_toArray, List.set_cons_zero, List.set_cons_succ]
            refine anyL_take (i := 18) (v := ?_) rfl (by kernel_rfl) (by kernel_rfl) (by kernel_rfl) (fun _ _ _ h => h) (by decide) rfl (by kernel_rfl) (by rfl) ?_ HS.out ?_
            rotate_left
            · intro W hW
              obtain ⟨g0, g1, g2, g3, g4, g5, g6, g7, gB⟩ := hW
              go_simp
              try with_reducible rfl
            simp only [Act.put, List.getElem_toArray, List.getElem_cons_succ, List.getElem_cons_zero, List.setIfInBounds_toArray, List.set_cons_zero, List.set_cons_succ]
            refine anyL_take (i := 19) (v := ?_) rfl (by kernel_rfl) (by kernel_rfl) (by kernel_rfl) (fun _ _ _ h => h) (by decide) rfl (by kernel_rfl) (by rfl) ?_ HS.out ?_
            rotate_left
            · intro W hW
              obtain ⟨g0, g1, g2, g3, g4, g5, g6, g7, gB⟩ := hW
              go_simp
              try with_reducible rfl
            simp only [Act.put, List.getElem_toArray, List.getElem_cons_succ, List.getElem_cons_zero, List.setIfInBounds_toArray, List.set_cons_zero, List.set_cons_succ]
            refine anyL_two (i := 7) (j := 12) (by kernel_rfl) rfl rfl (by rfl) (by rfl) ?_ ?_
            · refine app_wp w3.heap.size (.const (.slice none 0 0)) (.tmp 60) rfl (.slice none 0 0) 0 [] rfl (own_nil _ _ _ _) (some ⟨g, 0, none⟩) j c (oneC (xs.take j)) rfl HLT.out (HL.out _ HB4.out) (oneC_one _) (by omega) HB4.out.size ?_
              intro v5 w5 hown5 hg5
              rw [Nat.zero_add] at hown5
              have HB5a : Aside0 (Below w3.heap.size w3 w5) := ⟨HB4.out.grown hg5 HB4.out.size (fun k hk => by cases hk)⟩
              have HR5a := Aside0.mk hown5
              clear hown5 hg5
              refine ⟨fun _ => s9_of HS9.out _ HB5a.out, ?_⟩
              try simp only [Act.put, List.getElem_toArray, List.getElem_cons_succ, List.getElem_cons_zero, List.setIfInBounds_toArray, List.set_cons_zero, List.set_cons_succ]
              refine anyL_one (i := 12) (by kernel_rfl) rfl (by rfl) ?_
              go_simp
              have HB5 : Aside0 (Below w3.heap.size w3 (w5.alloc (.cells (oneV (x.nm, ⟨x, true, owner⟩)).toArray 71))) := ⟨HB5a.out.alloc HB5a.out.size _⟩
              have HX5 : Aside0 ((w5.alloc (.cells (oneV (x.nm, ⟨x, true, owner⟩)).toArray 71)).heap[w5.heap.size]? = some (.cells (oneV (x.nm, ⟨x, true, owner⟩)).toArray 71 (0, 0))) := ⟨blk_new w5 _⟩
              have HR5 := Aside0.mk (HR5a.out.alloc (.cells (oneV (x.nm, ⟨x, true, owner⟩)).toArray 71))
              refine ⟨s9_of HS9.out _ HB5.out, ?_⟩
              try simp only [Act.put, List.getElem_toArray, List.getElem_cons_succ, List.getElem_cons_zero, List.setIfInBounds_toArray, List.set_cons_zero, List.set_cons_succ]
              refine anyL_one (i := 13) (by kernel_rfl) rfl (by rfl) ?_
              refine app_wp w3.heap.size (.tmp 61) (.tmp 66) rfl v5 j _ rfl HR5.out (some ⟨w5.heap.size, 0, none⟩) 1 1 (oneV (x.nm, ⟨x, true, owner⟩)) rfl rfl (Or.inr ⟨_, rfl, fun k u hu => by rw [add_plain]; exact (blk_cell HX5.out k).trans (by simpa using hu)⟩) (oneV_one _) (by omega) HB5.out.size ?_
              intro v6 w6 hown6 hg6
              have HB6 : Aside0 (Below w3.heap.size w3 w6) := ⟨HB5.out.grown hg6 HB5.out.size (fun k hk => own_base HR5.out k hk)⟩
              have HR6 := Aside0.mk hown6
              clear hown6 hg6
              refine ⟨fun _ => s9_of HS9.out _ HB6.out, ?_⟩
              try simp only [Act.put, List.getElem_toArray, List.getElem_cons_succ, List.getElem_cons_zero, List.setIfInBounds_toArray, List.set_cons_zero, List.set_cons_succ]
              refine anyL_one (i := 20) (by kernel_rfl) rfl (by rfl) ?_
              refine app_wp w3.heap.size (.tmp 67) (.tmp 73) rfl v6 (j + 1) _ rfl HR6.out (if c = j then some ⟨g, 0, none⟩ else some ⟨g, j * 7, none⟩) (xs.length - j) (c - j) (oneC (xs.drop j)) rfl (by rw [oneC_len, List.length_drop]) (HH.out _ HB6.out) (oneC_one _) (by omega) HB6.out.size ?_
              intro v7 w7 hown7 hg7
              obtain ⟨A7, c7, rfl⟩ := own_slice hown7
              have HB7 : Aside0 (Below w3.heap.size w3 w7) := ⟨HB6.out.grown hg7 HB6.out.size (fun k hk => own_base HR6.out k hk)⟩
              have HR7 := Aside0.mk hown7
              clear hown7 hg7
              have HE := Aside0.mk (ins_end H.out H3.out HB3.out HB7.out HO3.out (by omega) HX3.out HR7.out hbase hj HIN.out)
              have hf7 : w7.frozen? ⟨R, 0, none⟩ = false := blk_frozen (H3.out.below HB7.out).blk 0
              have hc7 : w7.cell? ⟨R, 0, none⟩ = some (.slice (some ⟨g, 0, none⟩) xs.length c) := (blk_cell (H3.out.below HB7.out).blk 0).trans rfl
              refine ⟨fun _ => s9_of HS9.out _ HB7.out, ?_⟩
              try simp only [Act.put, List.getElem_toArray, List.getElem_cons_succ, List.getElem_cons_zero, List.setIfInBounds_toArray, List.set_cons_zero, List.set_cons_succ]
              refine anyL_one (i := 21) (by kernel_rfl) rfl (by rfl) ?_
              go_simp
              refine ⟨s9_of HS9.out _ HB7.out, ?_⟩
              refine anyL_one (i := 22) (by kernel_rfl) rfl (by rfl) ?_
              go_simp
              refine ⟨s9_of HS9.out _ HB7.out, ?_⟩
              refine anyL_one (i := 23) (by kernel_rfl) rfl (by rfl) ?_
              go_simp
              refine anyL_done (by kernel_rfl) ?_
              obtain ⟨hO8, hX8, hR8, hK8, hG8⟩ := HE.out
              have o0 : (w7.setCell ⟨R, 0, none⟩ (.slice A7 (j + 1 + (xs.length - j)) c7)).cell? ⟨w.heap.size + 1, 0, none⟩ = some (.string ⟨#[]⟩) := (blk_cell hO8 0).trans rfl
              have o1 : (w7.setCell ⟨R, 0, none⟩ (.slice A7 (j + 1 + (xs.length - j)) c7)).cell? ⟨w.heap.size + 1, 1, none⟩ = some (.int .i64 0) := (blk_cell hO8 1).trans rfl
              have o2 : (w7.setCell ⟨R, 0, none⟩ (.slice A7 (j + 1 + (xs.length - j)) c7)).cell? ⟨w.heap.size + 1, 2, none⟩ = some (.int .i64 0) := (blk_cell hO8 2).trans rfl
              have o3 : (w7.setCell ⟨R, 0, none⟩ (.slice A7 (j + 1 + (xs.length - j)) c7)).cell? ⟨w.heap.size + 1, 3, none⟩ = some (.bool false) := (blk_cell hO8 3).trans rfl
              have o4 : (w7.setCell ⟨R, 0, none⟩ (.slice A7 (j + 1 + (xs.length - j)) c7)).cell? ⟨w.heap.size + 1, 4, none⟩ = some (.int .i64 0) := (blk_cell hO8 4).trans rfl
              have o5 : (w7.setCell ⟨R, 0, none⟩ (.slice A7 (j + 1 + (xs.length - j)) c7)).cell? ⟨w.heap.size + 1, 5, none⟩ = some (.bool false) := (blk_cell hO8 5).trans rfl
              have o6 : (w7.setCell ⟨R, 0, none⟩ (.slice A7 (j + 1 + (xs.length - j)) c7)).cell? ⟨w.heap.size + 1, 6, none⟩ = some (.int .i64 0) := (blk_cell hO8 6).trans rfl
              have fo : ∀ off, (w7.setCell ⟨R, 0, none⟩ (.slice A7 (j + 1 + (xs.length - j)) c7)).frozen? ⟨w.heap.size + 1, off, none⟩ = false := fun off => blk_frozen hO8 off
              have x0 : (w7.setCell ⟨R, 0, none⟩ (.slice A7 (j + 1 + (xs.length - j)) c7)).cell? ⟨w.heap.size, 0, none⟩ = some (.string x.nm) := (blk_cell hX8 0).trans rfl
              have x1 : (w7.setCell ⟨R, 0, none⟩ (.slice A7 (j + 1 + (xs.length - j)) c7)).cell? ⟨w.heap.size, 1, none⟩ = some (.int .i64 x.val) := (blk_cell hX8 1).trans rfl
              have x2 : (w7.setCell ⟨R, 0, none⟩ (.slice A7 (j + 1 + (xs.length - j)) c7)).cell? ⟨w.heap.size, 2, none⟩ = some (.int .i64 x.time) := (blk_cell hX8 2).trans rfl
              have x3 : (w7.setCell ⟨R, 0, none⟩ (.slice A7 (j + 1 + (xs.length - j)) c7)).cell? ⟨w.heap.size, 3, none⟩ = some (.bool x.counts) := (blk_cell hX8 3).trans rfl
              have HE8 := Aside0.mk (And.intro hO8 (And.intro hR8 (And.intro hK8 hG8)))
              clear hO8 hX8 hR8 hK8 hG8 hc7 hf7
              generalize w7.setCell ⟨R, 0, none⟩ (.slice A7 (j + 1 + (xs.length - j)) c7) = w8 at *
              go_wp2_with fail
              all_goals refine bp_at (fun W => W.heap[w.heap.size + 1]? = some (.cells (snL ⟨x, 1, false, 0⟩).toArray 37 (0, 0)) ∧ RefAt W base R most (insP x.nm ⟨x, true, owner⟩ xs) (.slice A7 (j + 1 + (xs.length - j)) c7) ∧ KeptOff (rfoot R (.slice (some ⟨g, 0, none⟩) xs.length c)) w W) ⟨set7 _ _ HE8.out.1 _ _ _ _ _ _ _, ref_set7 HE8.out.2.1 (rfoot_ne HE8.out.2.1 HE8.out.1 (by decide) (by decide)) _ _ _ _ _ _ _, kept_set7 HE8.out.2.2.1 (by omega) _ _ _ _ _ _ _⟩ ?_
              all_goals rintro W ⟨hO, hR, hK⟩
              all_goals refine fin_one hO rfl rfl ⟨-1, Or.inl ⟨rfl, HNO.out⟩, ?_⟩
              all_goals unfold oneX
              all_goals rw [if_pos (by decide), if_neg (by have := HM.out; omega)]
              all_goals exact ⟨rfl, _, hR, hK, HE8.out.2.2.2⟩
            · go_simp
              have HBb : Aside0 (Below w3.heap.size w3 (w4.drew.alloc (.cells (oneV (x.nm, ⟨x, true, owner⟩)).toArray 71))) := ⟨HB4.out.alloc HB4.out.size _⟩
              have HXb : Aside0 ((w4.drew.alloc (.cells (oneV (x.nm, ⟨x, true, owner⟩)).toArray 71)).heap[w4.heap.size]? = some (.cells (oneV (x.nm, ⟨x, true, owner⟩)).toArray 71 (0, 0))) := ⟨blk_new w4.drew _⟩
              refine ⟨s9_of HS9.out _ HBb.out, ?_⟩
              try simp only [Act.put, List.getElem_toArray, List.getElem_cons_succ, List.getElem_cons_zero, List.setIfInBounds_toArray, List.set_cons_zero, List.set_cons_succ]
              refine anyL_one (i := 7) (by kernel_rfl) rfl (by rfl) ?_
              refine app_wp w3.heap.size (.const (.slice none 0 0)) (.tmp 60) rfl (.slice none 0 0) 0 [] rfl (own_nil _ _ _ _) (some ⟨g, 0, none⟩) j c (oneC (xs.take j)) rfl HLT.out (HL.out _ HBb.out) (oneC_one _) (by omega) HBb.out.size ?_
              intro v5 w5 hown5 hg5
              rw [Nat.zero_add] at hown5
              have HB5 : Aside0 (Below w3.heap.size w3 w5) := ⟨HBb.out.grown hg5 HBb.out.size (fun k hk => by cases hk)⟩
              have HX5 : Aside0 (w5.heap[w4.heap.size]? = some (.cells (oneV (x.nm, ⟨x, true, owner⟩)).toArray 71 (0, 0))) := ⟨(hg5.block _ (blk_lt HXb.out) (by intro e; cases e)).trans HXb.out⟩
              have HR5 := Aside0.mk hown5
              clear hown5 hg5
              refine ⟨fun _ => s9_of HS9.out _ HB5.out, ?_⟩
              try simp only [Act.put, List.getElem_toArray, List.getElem_cons_succ, List.getElem_cons_zero, List.setIfInBounds_toArray, List.set_cons_zero, List.set_cons_succ]
              refine anyL_one (i := 13) (by kernel_rfl) rfl (by rfl) ?_
              refine app_wp w3.heap.size (.tmp 61) (.tmp 66) rfl v5 j _ rfl HR5.out (some ⟨w4.heap.size, 0, none⟩) 1 1 (oneV (x.nm, ⟨x, true, owner⟩)) rfl rfl (Or.inr ⟨_, rfl, fun k u hu => by rw [add_plain]; exact (blk_cell HX5.out k).trans (by simpa using hu)⟩) (oneV_one _) (by omega) HB5.out.size ?_
              intro v6 w6 hown6 hg6
              have HB6 : Aside0 (Below w3.heap.size w3 w6) := ⟨HB5.out.grown hg6 HB5.out.size (fun k hk => own_base HR5.out k hk)⟩
              have HR6 := Aside0.mk hown6
              clear hown6 hg6
              refine ⟨fun _ => s9_of HS9.out _ HB6.out, ?_⟩
              try simp only [Act.put, List.getElem_toArray, List.getElem_cons_succ, List.getElem_cons_zero, List.setIfInBounds_toArray, List.set_cons_zero, List.set_cons_succ]
              refine anyL_one (i := 20) (by kernel_rfl) rfl (by rfl) ?_
              refine app_wp w3.heap.size (.tmp 67) (.tmp 73) rfl v6 (j + 1) _ rfl HR6.out (if c = j then some ⟨g, 0, none⟩ else some ⟨g, j * 7, none⟩) (xs.length - j) (c - j) (oneC (xs.drop j)) rfl (by rw [oneC_len, List.length_drop]) (HH.out _ HB6.out) (oneC_one _) (by omega) HB6.out.size ?_
              intro v7 w7 hown7 hg7
              obtain ⟨A7, c7, rfl⟩ := own_slice hown7
              have HB7 : Aside0 (Below w3.heap.size w3 w7) := ⟨HB6.out.grown hg7 HB6.out.size (fun k hk => own_base HR6.out k hk)⟩
              have HR7 := Aside0.mk hown7
              clear hown7 hg7
              have HE := Aside0.mk (ins_end H.out H3.out HB3.out HB7.out HO3.out (by omega) HX3.out HR7.out hbase hj HIN.out)
              have hf7 : w7.frozen? ⟨R, 0, none⟩ = false := blk_frozen (H3.out.below HB7.out).blk 0
              have hc7 : w7.cell? ⟨R, 0, none⟩ = some (.slice (some ⟨g, 0, none⟩) xs.length c) := (blk_cell (H3.out.below HB7.out).blk 0).trans rfl
              refine ⟨fun _ => s9_of HS9.out _ HB7.out, ?_⟩
              try simp only [Act.put, List.getElem_toArray, List.getElem_cons_succ, List.getElem_cons_zero, List.setIfInBounds_toArray, List.set_cons_zero, List.set_cons_succ]
              refine anyL_one (i := 21) (by kernel_rfl) rfl (by rfl) ?_
              go_simp
              refine ⟨s9_of HS9.out _ HB7.out, ?_⟩
              refine anyL_one (i := 22) (by kernel_rfl) rfl (by rfl) ?_
              go_simp
              refine ⟨s9_of HS9.out _ HB7.out, ?_⟩
              refine anyL_one (i := 23) (by kernel_rfl) rfl (by rfl) ?_
              go_simp
              refine anyL_done (by kernel_rfl) ?_
              obtain ⟨hO8, hX8, hR8, hK8, hG8⟩ := HE.out
              have o0 : (w7.setCell ⟨R, 0, none⟩ (.slice A7 (j + 1 + (xs.length - j)) c7)).cell? ⟨w.heap.size + 1, 0, none⟩ = some (.string ⟨#[]⟩) := (blk_cell hO8 0).trans rfl
              have o1 : (w7.setCell ⟨R, 0, none⟩ (.slice A7 (j + 1 + (xs.length - j)) c7)).cell? ⟨w.heap.size + 1, 1, none⟩ = some (.int .i64 0) := (blk_cell hO8 1).trans rfl
              have o2 : (w7.setCell ⟨R, 0, none⟩ (.slice A7 (j + 1 + (xs.length - j)) c7)).cell? ⟨w.heap.size + 1, 2, none⟩ = some (.int .i64 0) := (blk_cell hO8 2).trans rfl
              have o3 : (w7.setCell ⟨R, 0, none⟩ (.slice A7 (j + 1 + (xs.length - j)) c7)).cell? ⟨w.heap.size + 1, 3, none⟩ = some (.bool false) := (blk_cell hO8 3).trans rfl
              have o4 : (w7.setCell ⟨R, 0, none⟩ (.slice A7 (j + 1 + (xs.length - j)) c7)).cell? ⟨w.heap.size + 1, 4, none⟩ = some (.int .i64 0) := (blk_cell hO8 4).trans rfl
              have o5 : (w7.setCell ⟨R, 0, none⟩ (.slice A7 (j + 1 + (xs.length - j)) c7)).cell? ⟨w.heap.size + 1, 5, none⟩ = some (.bool false) := (blk_cell hO8 5).trans rfl
              have o6 : (w7.setCell ⟨R, 0, none⟩ (.slice A7 (j + 1 + (xs.length - j)) c7)).cell? ⟨w.heap.size + 1, 6, none⟩ = some (.int .i64 0) := (blk_cell hO8 6).trans rfl
              have fo : ∀ off, (w7.setCell ⟨R, 0, none⟩ (.slice A7 (j + 1 + (xs.length - j)) c7)).frozen? ⟨w.heap.size + 1, off, none⟩ = false := fun off => blk_frozen hO8 off
              have x0 : (w7.setCell ⟨R, 0, none⟩ (.slice A7 (j + 1 + (xs.length - j)) c7)).cell? ⟨w.heap.size, 0, none⟩ = some (.string x.nm) := (blk_cell hX8 0).trans rfl
              have x1 : (w7.setCell ⟨R, 0, none⟩ (.slice A7 (j + 1 + (xs.length - j)) c7)).cell? ⟨w.heap.size, 1, none⟩ = some (.int .i64 x.val) := (blk_cell hX8 1).trans rfl
              have x2 : (w7.setCell ⟨R, 0, none⟩ (.slice A7 (j + 1 + (xs.length - j)) c7)).cell? ⟨w.heap.size, 2, none⟩ = some (.int .i64 x.time) := (blk_cell hX8 2).trans rfl
              have x3 : (w7.setCell ⟨R, 0, none⟩ (.slice A7 (j + 1 + (xs.length - j)) c7)).cell? ⟨w.heap.size, 3, none⟩ = some (.bool x.counts) := (blk_cell hX8 3).trans rfl
              have HE8 := Aside0.mk (And.intro hO8 (And.intro hR8 (And.intro hK8 hG8)))
              clear hO8 hX8 hR8 hK8 hG8 hc7 hf7
              generalize w7.setCell ⟨R, 0, none⟩ (.slice A7 (j + 1 + (xs.length - j)) c7) = w8 at *
              go_wp2_with fail
              all_goals refine bp_at (fun W => W.heap[w.heap.size + 1]? = some (.cells (snL ⟨x, 1, false, 0⟩).toArray 37 (0, 0)) ∧ RefAt W base R most (insP x.nm ⟨x, true, owner⟩ xs) (.slice A7 (j + 1 + (xs.length - j)) c7) ∧ KeptOff (rfoot R (.slice (some ⟨g, 0, none⟩) xs.length c)) w W) ⟨set7 _ _ HE8.out.1 _ _ _ _ _ _ _, ref_set7 HE8.out.2.1 (rfoot_ne HE8.out.2.1 HE8.out.1 (by decide) (by decide)) _ _ _ _ _ _ _, kept_set7 HE8.out.2.2.1 (by omega) _ _ _ _ _ _ _⟩ ?_
              all_goals rintro W ⟨hO, hR, hK⟩
              all_goals refine fin_one hO rfl rfl ⟨-1, Or.inl ⟨rfl, HNO.out⟩, ?_⟩
              all_goals unfold oneX
              all_goals rw [if_pos (by decide), if_neg (by have := HM.out; omega)]
              all_goals exact ⟨rfl, _, hR, hK, HE8.out.2.2.2⟩
        · have hje : j = xs.length := by omega
          have hlti : ¬ (j : Int) < (xs.length : Int) := by omega
          have HIN := HI.out (fun b hb => by rw [List.getElem?_eq_none (by omega)] at hb; cases hb)
          clear HI hS
          have HJE := Aside0.mk hje
          clear hje
          rcases HRD.out with ⟨rfl, hc0, hx0⟩ | ⟨g, rfl, _, _, _, _, _⟩
          · have HC0 := Aside0.mk hc0
            have HX0 := Aside0.mk hx0
            have HL0 : Aside0 (j = 0) := ⟨by rw [HJE.out, hx0]; rfl⟩
            clear hc0 hx0
            go_wp2_with fail
            go_quiet (fail)
            go_wp2_with fail
            clear hlti
            have hjc : j ≤ c := by omega
            refine wp_at (fun W => Below w3.heap.size w3 W) (pw_below_drewN (pw_below_drewN (Below.refl _ w3) _) _) ?_
            intro w4 hB4
            have HS9 : Aside0 (S9 w3 R w.heap.size w2.heap.size (.slice none xs.length c) x owner w3) := ⟨⟨c0, x0, (blk_cell HN3.out 0).trans rfl, (blk_cell HN3.out 1).trans rfl, (blk_cell HN3.out 2).trans rfl, (blk_cell HN3.out 3).trans rfl, (blk_cell HN3.out 4).trans rfl, (blk_cell HN3.out 5).trans rfl, Below.refl _ _⟩⟩
            refine wp_regionL 23 (S9 w3 R w.heap.size w2.heap.size (.slice none xs.length c) x owner) (by kernel_rfl) ?_
            have HB4 := Aside0.mk (below_drew hB4)
            have HS : Aside0 (S9 w3 R w.heap.size w2.heap.size (.slice none xs.length c) x owner w4.drew) := ⟨s9_of HS9.out _ HB4.out⟩
            have HL : Aside0 (∀ W, Below w3.heap.size w3 W → SrcAt W none c j (oneC (xs.take j))) := ⟨fun W hb => Or.inl ⟨rfl, HC0.out, HL0.out, by rw [HX0.out]; simp [oneC]⟩⟩
            have HH : Aside0 (∀ W, Below w3.heap.size w3 W → SrcAt W none (c - j) (xs.length - j) (oneC (xs.drop j))) := ⟨fun W hb => Or.inl ⟨rfl, by rw [HC0.out]; omega, by rw [HX0.out]; simp, by rw [HX0.out]; simp [oneC]⟩⟩
            have HLT : Aside0 ((oneC (xs.take j)).length = j * 7) := ⟨by rw [oneC_len, List.length_take_of_le hj]⟩
            clear c0 c1 x0 x1 x2 x3 o0 o1 o2 o3 o4 o5 o6 fo t0 hB4
            refine anyL_take (i := 0) (v := ?_) rfl (by kernel_rfl) (by kernel_rfl) (by kernel_rfl) (fun _ _ _ h => h) (by decide) rfl (by kernel_rfl) (by rfl) ?_ HS.out ?_
            rotate_left
            · intro W hW
              obtain ⟨g0, g1, g2, g3, g4, g5, g6, g7, gB⟩ := hW
              go_simp
              try with_reducible rfl
            simp only [Act.put, List.getElem_toArray, List.getElem_cons_succ, List.getElem_cons_zero, List.setIfInBounds_toArray, List.set_cons_zero, List.set_cons_succ]
            refine anyL_take (i := 1) (v := ?_) rfl (by kernel_rfl) (by kernel_rfl) (by kernel_rfl) (fun _ _ _ h => h) (by decide) rfl (by kernel_rfl) (by rfl) ?_ HS.out ?_
            rotate_left
            · intro W hW
              obtain ⟨g0, g1, g2, g3, g4, g5, g6, g7, gB⟩ := hW
              go_simp
              try with_reducible rfl
            simp only [Act.put, List.getElem_toArray, List.getElem_cons_succ, List.getElem_cons_zero, List.setIfInBounds_toArray, List.set_cons_zero, List.set_cons_succ]
            refine anyL_take (i := 2) (v := ?_) rfl (by kernel_rfl) (by kernel_rfl) (by kernel_rfl) (fun _ _ _ h => h) (by decide) rfl (by kernel_rfl) (by rfl) ?_ HS.out ?_
            rotate_left
            · intro W hW
              obtain ⟨g0, g1, g2, g3, g4, g5, g6, g7, gB⟩ := hW
              go_simp
              try with_reducible rfl
            simp only [Act.put, List.getElem_toArray, List.getElem_cons_succ, List.getElem_cons_zero, List.setIfInBounds_toArray, List.set_cons_zero, List.set_cons_succ]
            refine anyL_take (i := 3) (v := ?_) rfl (by kernel_rfl) (by kernel_rfl) (by kernel_rfl) (fun _ _ _ h => h) (by decide) rfl (by kernel_rfl) (by rfl) ?_ HS.out ?_
            rotate_left
            · intro W hW
              obtain ⟨g0, g1, g2, g3, g4, g5, g6, g7, gB⟩ := hW
              go_simp
              try with_reducible rfl
            simp only [Act.put, List.getElem_toArray, List.getElem_cons_succ, List.getElem_cons_zero, List.setIfInBounds_toArray, List.set_cons_zero, List.set_cons_succ]
            refine anyL_take (i := 4) (v := ?_) rfl (by kernel_rfl) (by kernel_rfl) (by kernel_rfl) (fun _ _ _ h => h) (by decide) rfl (by kernel_rfl) (by rfl) ?_ HS.out ?_
            rotate_left
            · intro W hW
              obtain ⟨g0, g1, g2, g3, g4, g5, g6, g7, gB⟩ := hW
              go_simp
              try with_reducible rfl
            simp only [Act.put, List.getElem_toArray, List.getElem_cons_succ, List.getElem_cons_zero, List.setIfInBounds_toArray, List.set_cons_zero, List.set_cons_succ]
            refine anyL_take (i := 5) (v := ?_) rfl (by kernel_rfl) (by kernel_rfl) (by kernel_rfl) (fun _ _ _ h => h) (by decide) rfl (by kernel_rfl) (by rfl) ?_ HS.out ?_
            rotate_left
            · intro W hW
              obtain ⟨g0, g1, g2, g3, g4, g5, g6, g7, gB⟩ := hW
              go_simp
              try with_reducible rfl
            simp only [Act.put, List.getElem_toArray, List.getElem_cons_succ, List.getElem_cons_zero, List.setIfInBounds_toArray, List.set_cons_zero, List.set_cons_succ]
            refine anyL_take (i := 6) (v := ?_) rfl (by kernel_rfl) (by kernel_rfl) (by kernel_rfl) (fun _ _ _ h => h) (by decide) rfl (by kernel_rfl) (by rfl) ?_ HS.out ?_
            rotate_left
            · intro W hW
              obtain ⟨g0, g1, g2, g3, g4, g5, g6, g7, gB⟩ := hW
              go_simp
              try with_reducible rfl
            simp only [Act.put, List.getElem_toArray, List.getElem_cons_succ, List.getElem_cons_zero, List.setIfInBounds_toArray, List.set_cons_zero, List.set_cons_succ]
            refine anyL_take (i := 8) (v := ?_) rfl (by kernel_rfl) (by kernel_rfl) (by kernel_rfl) (fun _ _ _ h => h) (by decide) rfl (by kernel_rfl) (by rfl) ?_ HS.out ?_
            rotate_left
            · intro W hW
              obtain ⟨g0, g1, g2, g3, g4, g5, g6, g7, gB⟩ := hW
              go_simp
              try with_reducible rfl
            simp only [Act.put, List.getElem_toArray, List.getElem_cons_succ, List.getElem_cons_zero, List.setIfInBounds_toArray, List.set_cons_zero, List.set_cons_succ]
            refine anyL_take (i := 9) (v := ?_) rfl (by kernel_rfl) (by kernel_rfl) (by kernel_rfl) (fun _ _ _ h => h) (by decide) rfl (by kernel_rfl) (by rfl) ?_ HS.out ?_
            rotate_left
            · intro W hW
              obtain ⟨g0, g1, g2, g3, g4, g5, g6, g7, gB⟩ := hW
              go_simp
              try with_reducible rfl
            simp only [Act.put, List.getElem_toArray, List.getElem_cons_succ, List.getElem_cons_zero, List.setIfInBounds_toArray, List.set_cons_zero, List.set_cons_succ]
            refine anyL_take (i := 10) (v := ?_) rfl (by kernel_rfl) (by kernel_rfl) (by kernel_rfl) (fun _ _ _ h => h) (by decide) rfl (by kernel_rfl) (by rfl) ?_ HS.out ?_
            rotate_left
            · intro W hW
              obtain ⟨g0, g1, g2, g3, g4, g5, g6, g7, gB⟩ := hW
              go_simp
              try with_reducible rfl
            simp only [Act.put, List.getElem_toArray, List.getElem_cons_succ, List.getElem_cons_zero, List.setIfInBounds_toArray, List.set_cons_zero, List.set_cons_succ]
            refine anyL_take (i := 11) (v := ?_) rfl (by kernel_rfl) (by kernel_rfl) (by kernel_rfl) (fun _ _ _ h => h) (by decide) rfl (by kernel_rfl) (by rfl) ?_ HS.out ?_
            rotate_left
            · intro W hW
              obtain ⟨g0, g1, g2, g3, g4, g5, g6, g7, gB⟩ := hW
              go_simp
              try with_reducible rfl
            simp only [Act.put, List.getElem_toArray, List.getElem_cons_succ, List.getElem_cons_zero, List.setIfInBounds_toArray, List.set_cons_zero, List.set_cons_succ]
            refine anyL_take (i := 14) (v := ?_) rfl (by kernel_rfl) (by kernel_rfl) (by kernel_rfl) (fun _ _ _ h => h) (by decide) rfl (by kernel_rfl) (by rfl) ?_ HS.out ?_
            rotate_left
            · intro W hW
              obtain ⟨g0, g1, g2, g3, g4, g5, g6, g7, gB⟩ := hW
              go_simp
              try with_reducible rfl
            simp only [Act.put, List.getElem_toArray, List.getElem_cons_succ, List.getElem_cons_zero, List.setIfInBounds_toArray, List.set_cons_zero, List.set_cons_succ]
            refine anyL_take (i := 15) (v := ?_) rfl (by kernel_rfl) (by kernel_rfl) (by kernel_rfl) (fun _ _ _ h => h) (by decide) rfl (by kernel_rfl) (by rfl) ?_ HS.out ?_
            rotate_left
            · intro W hW
              obtain ⟨g0, g1, g2, g3, g4, g5, g6, g7, gB⟩ := hW
              go_simp
              try with_reducible rfl
            simp only [Act.put, List.getElem_toArray, List.getElem_cons_succ, List.getElem_cons_zero, List.setIfInBounds_toArray, List.set_cons_zero, List.set_cons_succ]
            refine anyL_take (i := 16) (v := ?_) rfl (by kernel_rfl) (by kernel_rfl) (by kernel_rfl) (fun _ _ _ h => h) (by decide) rfl (by kernel_rfl) (by rfl) ?_ HS.out ?_
            rotate_left
            · intro W hW
              obtain ⟨g0, g1, g2, g3, g4, g5, g6, g7, gB⟩ := hW
              go_simp
              try with_reducible rfl
            simp only [Act.put, List.getElem_toArray, List.getElem_cons_succ, List.getElem_cons_zero, List.setIfInBounds_toArray, List.set_cons_zero, List.set_cons_succ]
            refine anyL_take (i := 17) (v := ?_) rfl (by kernel_rfl) (by kernel_rfl) (by kernel_rfl) (fun _ _ _ h => h) (by decide) rfl (by kernel_rfl) (by rfl) ?_ HS.out ?_
            rotate_left
            · intro W hW
              obtain ⟨g0, g1, g2, g3, g4, g5, g6, g7, gB⟩ := hW
              go_simp
              try with_reducible rfl
            simp only [Act.put, List.getElem_toArray, List.getElem_cons_succ, List.getElem_cons_zero, List.setIfInBounds_toArray, List.set_cons_zero, List.set_cons_succ]
            refine anyL_take (i := 18) (v := ?_) rfl (by kernel_rfl) (by kernel_rfl) (by kernel_rfl) (fun _ _ _ h => h) (by decide) rfl (by kernel_rfl) (by rfl) ?_ HS.out ?_
            rotate_left
            · intro W hW
              obtain ⟨g0, g1, g2, g3, g4, g5, g6, g7, gB⟩ := hW
              go_simp
              try with_reducible rfl
            simp only [Act.put, List.getElem_toArray, List.getElem_cons_succ, List.getElem_cons_zero, List.setIfInBounds_toArray, List.set_cons_zero, List.set_cons_succ]
            refine anyL_take (i := 19) (v := ?_) rfl (by kernel_rfl) (by kernel_rfl) (by kernel_rfl) (fun _ _ _ h => h) (by decide) rfl (by kernel_rfl) (by rfl) ?_ HS.out ?_
            rotate_left
            · intro W hW
              obtain ⟨g0, g1, g2, g3, g4, g5, g6, g7, gB⟩ := hW
              go_simp
              try with_reducible rfl
            simp only [Act.put, List.getElem_toArray, List.getElem_cons_succ, List.getElem_cons_zero, List.setIfInBounds_toArray, List.set_cons_zero, List.set_cons_succ]
            refine anyL_two (i := 7) (j := 12) (by kernel_rfl) rfl rfl (by rfl) (by rfl) ?_ ?_
            · refine app_wp w3.heap.size (.const (.slice none 0 0)) (.tmp 60) rfl (.slice none 0 0) 0 [] rfl (own_nil _ _ _ _) none j c (oneC (xs.take j)) rfl HLT.out (HL.out _ HB4.out) (oneC_one _) (by omega) HB4.out.size ?_
              intro v5 w5 hown5 hg5
              rw [Nat.zero_add] at hown5
              have HB5a : Aside0 (Below w3.heap.size w3 w5) := ⟨HB4.out.grown hg5 HB4.out.size (fun k hk => by cases hk)⟩
              have HR5a := Aside0.mk hown5
              clear hown5 hg5
              refine ⟨fun _ => s9_of HS9.out _ HB5a.out, ?_⟩
              try simp only [Act.put, List.getElem_toArray, List.getElem_cons_succ, List.getElem_cons_zero, List.setIfInBounds_toArray, List.set_cons_zero, List.set_cons_succ]
              refine anyL_one (i := 12) (by kernel_rfl) rfl (by rfl) ?_
              go_simp
              have HB5 : Aside0 (Below w3.heap.size w3 (w5.alloc (.cells (oneV (x.nm, ⟨x, true, owner⟩)).toArray 71))) := ⟨HB5a.out.alloc HB5a.out.size _⟩
              have HX5 : Aside0 ((w5.alloc (.cells (oneV (x.nm, ⟨x, true, owner⟩)).toArray 71)).heap[w5.heap.size]? = some (.cells (oneV (x.nm, ⟨x, true, owner⟩)).toArray 71 (0, 0))) := ⟨blk_new w5 _⟩
              have HR5 := Aside0.mk (HR5a.out.alloc (.cells (oneV (x.nm, ⟨x, true, owner⟩)).toArray 71))
              refine ⟨s9_of HS9.out _ HB5.out, ?_⟩
              try simp only [Act.put, List.getElem_toArray, List.getElem_cons_succ, List.getElem_cons_zero, List.setIfInBounds_toArray, List.set_cons_zero, List.set_cons_succ]
              refine anyL_one (i := 13) (by kernel_rfl) rfl (by rfl) ?_
              refine app_wp w3.heap.size (.tmp 61) (.tmp 66) rfl v5 j _ rfl HR5.out (some ⟨w5.heap.size, 0, none⟩) 1 1 (oneV (x.nm, ⟨x, true, owner⟩)) rfl rfl (Or.inr ⟨_, rfl, fun k u hu => by rw [add_plain]; exact (blk_cell HX5.out k).trans (by simpa using hu)⟩) (oneV_one _) (by omega) HB5.out.size ?_
              intro v6 w6 hown6 hg6
              have HB6 : Aside0 (Below w3.heap.size w3 w6) := ⟨HB5.out.grown hg6 HB5.out.size (fun k hk => own_base HR5.out k hk)⟩
              have HR6 := Aside0.mk hown6
              clear hown6 hg6
              refine ⟨fun _ => s9_of HS9.out _ HB6.out, ?_⟩
              try simp only [Act.put, List.getElem_toArray, List.getElem_cons_succ, List.getElem_cons_zero, List.setIfInBounds_toArray, List.set_cons_zero, List.set_cons_succ]
              refine anyL_one (i := 20) (by kernel_rfl) rfl (by rfl) ?_
              refine app_wp w3.heap.size (.tmp 67) (.tmp 73) rfl v6 (j + 1) _ rfl HR6.out none (xs.length - j) (c - j) (oneC (xs.drop j)) rfl (by rw [oneC_len, List.length_drop]) (HH.out _ HB6.out) (oneC_one _) (by omega) HB6.out.size ?_
              intro v7 w7 hown7 hg7
              obtain ⟨A7, c7, rfl⟩ := own_slice hown7
              have HB7 : Aside0 (Below w3.heap.size w3 w7) := ⟨HB6.out.grown hg7 HB6.out.size (fun k hk => own_base HR6.out k hk)⟩
              have HR7 := Aside0.mk hown7
              clear hown7 hg7
              have HE := Aside0.mk (ins_end H.out H3.out HB3.out HB7.out HO3.out (by omega) HX3.out HR7.out hbase hj HIN.out)
              have hf7 : w7.frozen? ⟨R, 0, none⟩ = false := blk_frozen (H3.out.below HB7.out).blk 0
              have hc7 : w7.cell? ⟨R, 0, none⟩ = some (.slice none xs.length c) := (blk_cell (H3.out.below HB7.out).blk 0).trans rfl
              refine ⟨fun _ => s9_of HS9.out _ HB7.out, ?_⟩
              try simp only [Act.put, List.getElem_toArray, List.getElem_cons_succ, List.getElem_cons_zero, List.setIfInBounds_toArray, List.set_cons_zero, List.set_cons_succ]
              refine anyL_one (i := 21) (by kernel_rfl) rfl (by rfl) ?_
              go_simp
              refine ⟨s9_of HS9.out _ HB7.out, ?_⟩
              refine anyL_one (i := 22) (by kernel_rfl) rfl (by rfl) ?_
              go_simp
              refine ⟨s9_of HS9.out _ HB7.out, ?_⟩
              refine anyL_one (i := 23) (by kernel_rfl) rfl (by rfl) ?_
              go_simp
              refine anyL_done (by kernel_rfl) ?_
              obtain ⟨hO8, hX8, hR8, hK8, hG8⟩ := HE.out
              have o0 : (w7.setCell ⟨R, 0, none⟩ (.slice A7 (j + 1 + (xs.length - j)) c7)).cell? ⟨w.heap.size + 1, 0, none⟩ = some (.string ⟨#[]⟩) := (blk_cell hO8 0).trans rfl
              have o1 : (w7.setCell ⟨R, 0, none⟩ (.slice A7 (j + 1 + (xs.length - j)) c7)).cell? ⟨w.heap.size + 1, 1, none⟩ = some (.int .i64 0) := (blk_cell hO8 1).trans rfl
              have o2 : (w7.setCell ⟨R, 0, none⟩ (.slice A7 (j + 1 + (xs.length - j)) c7)).cell? ⟨w.heap.size + 1, 2, none⟩ = some (.int .i64 0) := (blk_cell hO8 2).trans rfl
              have o3 : (w7.setCell ⟨R, 0, none⟩ (.slice A7 (j + 1 + (xs.length - j)) c7)).cell? ⟨w.heap.size + 1, 3, none⟩ = some (.bool false) := (blk_cell hO8 3).trans rfl
              have o4 : (w7.setCell ⟨R, 0, none⟩ (.slice A7 (j + 1 + (xs.length - j)) c7)).cell? ⟨w.heap.size + 1, 4, none⟩ = some (.int .i64 0) := (blk_cell hO8 4).trans rfl
              have o5 : (w7.setCell ⟨R, 0, none⟩ (.slice A7 (j + 1 + (xs.length - j)) c7)).cell? ⟨w.heap.size + 1, 5, none⟩ = some (.bool false) := (blk_cell hO8 5).trans rfl
              have o6 : (w7.setCell ⟨R, 0, none⟩ (.slice A7 (j + 1 + (xs.length - j)) c7)).cell? ⟨w.heap.size + 1, 6, none⟩ = some (.int .i64 0) := (blk_cell hO8 6).trans rfl
              have fo : ∀ off, (w7.setCell ⟨R, 0, none⟩ (.slice A7 (j + 1 + (xs.length - j)) c7)).frozen? ⟨w.heap.size + 1, off, none⟩ = false := fun off => blk_frozen hO8 off
              have x0 : (w7.setCell ⟨R, 0, none⟩ (.slice A7 (j + 1 + (xs.length - j)) c7)).cell? ⟨w.heap.size, 0, none⟩ = some (.string x.nm) := (blk_cell hX8 0).trans rfl
              have x1 : (w7.setCell ⟨R, 0, none⟩ (.slice A7 (j + 1 + (xs.length - j)) c7)).cell? ⟨w.heap.size, 1, none⟩ = some (.int .i64 x.val) := (blk_cell hX8 1).trans rfl
              have x2 : (w7.setCell ⟨R, 0, none⟩ (.slice A7 (j + 1 + (xs.length - j)) c7)).cell? ⟨w.heap.size, 2, none⟩ = some (.int .i64 x.time) := (blk_cell hX8 2).trans rfl
              have x3 : (w7.setCell ⟨R, 0, none⟩ (.slice A7 (j + 1 + (xs.length - j)) c7)).cell? ⟨w.heap.size, 3, none⟩ = some (.bool x.counts) := (blk_cell hX8 3).trans rfl
              have HE8 := Aside0.mk (And.intro hO8 (And.intro hR8 (And.intro hK8 hG8)))
              clear hO8 hX8 hR8 hK8 hG8 hc7 hf7
              generalize w7.setCell ⟨R, 0, none⟩ (.slice A7 (j + 1 + (xs.length - j)) c7) = w8 at *
              go_wp2_with fail
              all_goals refine bp_at (fun W => W.heap[w.heap.size + 1]? = some (.cells (snL ⟨x, 1, false, 0⟩).toArray 37 (0, 0)) ∧ RefAt W base R most (insP x.nm ⟨x, true, owner⟩ xs) (.slice A7 (j + 1 + (xs.length - j)) c7) ∧ KeptOff (rfoot R (.slice none xs.length c)) w W) ⟨set7 _ _ HE8.out.1 _ _ _ _ _ _ _, ref_set7 HE8.out.2.1 (rfoot_ne HE8.out.2.1 HE8.out.1 (by decide) (by decide)) _ _ _ _ _ _ _, kept_set7 HE8.out.2.2.1 (by omega) _ _ _ _ _ _ _⟩ ?_
              all_goals rintro W ⟨hO, hR, hK⟩
              all_goals refine fin_one hO rfl rfl ⟨-1, Or.inl ⟨rfl, HNO.out⟩, ?_⟩
              all_goals unfold oneX
              all_goals rw [if_pos (by decide), if_neg (by have := HM.out; omega)]
              all_goals exact ⟨rfl, _, hR, hK, HE8.out.2.2.2⟩
            · go_simp
              have HBb : Aside0 (Below w3.heap.size w3 (w4.drew.alloc (.cells (oneV (x.nm, ⟨x, true, owner⟩)).toArray 71))) := ⟨HB4.out.alloc HB4.out.size _⟩
              have HXb : Aside0 ((w4.drew.alloc (.cells (oneV (x.nm, ⟨x, true, owner⟩)).toArray 71)).heap[w4.heap.size]? = some (.cells (oneV (x.nm, ⟨x, true, owner⟩)).toArray 71 (0, 0))) := ⟨blk_new w4.drew _⟩
              refine ⟨s9_of HS9.out _ HBb.out, ?_⟩
              try simp only [Act.put, List.getElem_toArray, List.getElem_cons_succ, List.getElem_cons_zero, List.setIfInBounds_toArray, List.set_cons_zero, List.set_cons_succ]
              refine anyL_one (i := 7) (by kernel_rfl) rfl (by rfl) ?_
              refine app_wp w3.heap.size (.const (.slice none 0 0)) (.tmp 60) rfl (.slice none 0 0) 0 [] rfl (own_nil _ _ _ _) none j c (oneC (xs.take j)) rfl HLT.out (HL.out _ HBb.out) (oneC_one _) (by omega) HBb.out.size ?_
              intro v5 w5 hown5 hg5
              rw [Nat.zero_add] at hown5
              have HB5 : Aside0 (Below w3.heap.size w3 w5) := ⟨HBb.out.grown hg5 HBb.out.size (fun k hk => by cases hk)⟩
              have HX5 : Aside0 (w5.heap[w4.heap.size]? = some (.cells (oneV (x.nm, ⟨x, true, owner⟩)).toArray 71 (0, 0))) := ⟨(hg5.block _ (blk_lt HXb.out) (by intro e; cases e)).trans HXb.out⟩
              have HR5 := Aside0.mk hown5
              clear hown5 hg5
              refine ⟨fun _ => s9_of HS9.out _ HB5.out, ?_⟩
              try simp only [Act.put, List.getElem_toArray, List.getElem_cons_succ, List.getElem_cons_zero, List.setIfInBounds_toArray, List.set_cons_zero, List.set_cons_succ]
              refine anyL_one (i := 13) (by kernel_rfl) rfl (by rfl) ?_
              refine app_wp w3.heap.size (.tmp 61) (.tmp 66) rfl v5 j _ rfl HR5.out (some ⟨w4.heap.size, 0, none⟩) 1 1 (oneV (x.nm, ⟨x, true, owner⟩)) rfl rfl (Or.inr ⟨_, rfl, fun k u hu => by rw [add_plain]; exact (blk_cell HX5.out k).trans (by simpa using hu)⟩) (oneV_one _) (by omega) HB5.out.size ?_
              intro v6 w6 hown6 hg6
              have HB6 : Aside0 (Below w3.heap.size w3 w6) := ⟨HB5.out.grown hg6 HB5.out.size (fun k hk => own_base HR5.out k hk)⟩
              have HR6 := Aside0.mk hown6
              clear hown6 hg6
              refine ⟨fun _ => s9_of HS9.out _ HB6.out, ?_⟩
              try simp only [Act.put, List.getElem_toArray, List.getElem_cons_succ, List.getElem_cons_zero, List.setIfInBounds_toArray, List.set_cons_zero, List.set_cons_succ]
              refine anyL_one (i := 20) (by kernel_rfl) rfl (by rfl) ?_
              refine app_wp w3.heap.size (.tmp 67) (.tmp 73) rfl v6 (j + 1) _ rfl HR6.out none (xs.length - j) (c - j) (oneC (xs.drop j)) rfl (by rw [oneC_len, List.length_drop]) (HH.out _ HB6.out) (oneC_one _) (by omega) HB6.out.size ?_
              intro v7 w7 hown7 hg7
              obtain ⟨A7, c7, rfl⟩ := own_slice hown7
              have HB7 : Aside0 (Below w3.heap.size w3 w7) := ⟨HB6.out.grown hg7 HB6.out.size (fun k hk => own_base HR6.out k hk)⟩
              have HR7 := Aside0.mk hown7
              clear hown7 hg7
              have HE := Aside0.mk (ins_end H.out H3.out HB3.out HB7.out HO3.out (by omega) HX3.out HR7.out hbase hj HIN.out)
              have hf7 : w7.frozen? ⟨R, 0, none⟩ = false := blk_frozen (H3.out.below HB7.out).blk 0
              have hc7 : w7.cell? ⟨R, 0, none⟩ = some (.slice none xs.length c) := (blk_cell (H3.out.below HB7.out).blk 0).trans rfl
              refine ⟨fun _ => s9_of HS9.out _ HB7.out, ?_⟩
              try simp only [Act.put, List.getElem_toArray, List.getElem_cons_succ, List.getElem_cons_zero, List.setIfInBounds_toArray, List.set_cons_zero, List.set_cons_succ]
              refine anyL_one (i := 21) (by kernel_rfl) rfl (by rfl) ?_
              go_simp
              refine ⟨s9_of HS9.out _ HB7.out, ?_⟩
              refine anyL_one (i := 22) (by kernel_rfl) rfl (by rfl) ?_
              go_simp
              refine ⟨s9_of HS9.out _ HB7.out, ?_⟩
              refine anyL_one (i := 23) (by kernel_rfl) rfl (by rfl) ?_
              go_simp
              refine anyL_done (by kernel_rfl) ?_
              obtain ⟨hO8, hX8, hR8, hK8, hG8⟩ := HE.out
              have o0 : (w7.setCell ⟨R, 0, none⟩ (.slice A7 (j + 1 + (xs.length - j)) c7)).cell? ⟨w.heap.size + 1, 0, none⟩ = some (.string ⟨#[]⟩) := (blk_cell hO8 0).trans rfl
              have o1 : (w7.setCell ⟨R, 0, none⟩ (.slice A7 (j + 1 + (xs.length - j)) c7)).cell? ⟨w.heap.size + 1, 1, none⟩ = some (.int .i64 0) := (blk_cell hO8 1).trans rfl
              have o2 : (w7.setCell ⟨R, 0, none⟩ (.slice A7 (j + 1 + (xs.length - j)) c7)).cell? ⟨w.heap.size + 1, 2, none⟩ = some (.int .i64 0) := (blk_cell hO8 2).trans rfl
              have o3 : (w7.setCell ⟨R, 0, none⟩ (.slice A7 (j + 1 + (xs.length - j)) c7)).cell? ⟨w.heap.size + 1, 3, none⟩ = some (.bool false) := (blk_cell hO8 3).trans rfl
              have o4 : (w7.setCell ⟨R, 0, none⟩ (.slice A7 (j + 1 + (xs.length - j)) c7)).cell? ⟨w.heap.size + 1, 4, none⟩ = some (.int .i64 0) := (blk_cell hO8 4).trans rfl
              have o5 : (w7.setCell ⟨R, 0, none⟩ (.slice A7 (j + 1 + (xs.length - j)) c7)).cell? ⟨w.heap.size + 1, 5, none⟩ = some (.bool false) := (blk_cell hO8 5).trans rfl
              have o6 : (w7.setCell ⟨R, 0, none⟩ (.slice A7 (j + 1 + (xs.length - j)) c7)).cell? ⟨w.heap.size + 1, 6, none⟩ = some (.int .i64 0) := (blk_cell hO8 6).trans rfl
              have fo : ∀ off, (w7.setCell ⟨R, 0, none⟩ (.slice A7 (j + 1 + (xs.length - j)) c7)).frozen? ⟨w.heap.size + 1, off, none⟩ = false := fun off => blk_frozen hO8 off
              have x0 : (w7.setCell ⟨R, 0, none⟩ (.slice A7 (j + 1 + (xs.length - j)) c7)).cell? ⟨w.heap.size, 0, none⟩ = some (.string x.nm) := (blk_cell hX8 0).trans rfl
              have x1 : (w7.setCell ⟨R, 0, none⟩ (.slice A7 (j + 1 + (xs.length - j)) c7)).cell? ⟨w.heap.size, 1, none⟩ = some (.int .i64 x.val) := (blk_cell hX8 1).trans rfl
              have x2 : (w7.setCell ⟨R, 0, none⟩ (.slice A7 (j + 1 + (xs.length - j)) c7)).cell? ⟨w.heap.size, 2, none⟩ = some (.int .i64 x.time) := (blk_cell hX8 2).trans rfl
              have x3 : (w7.setCell ⟨R, 0, none⟩ (.slice A7 (j + 1 + (xs.length - j)) c7)).cell? ⟨w.heap.size, 3, none⟩ = some (.bool x.counts) := (blk_cell hX8 3).trans rfl
              have HE8 := Aside0.mk (And.intro hO8 (And.intro hR8 (And.intro hK8 hG8)))
              clear hO8 hX8 hR8 hK8 hG8 hc7 hf7
              generalize w7.setCell ⟨R, 0, none⟩ (.slice A7 (j + 1 + (xs.length - j)) c7) = w8 at *
              go_wp2_with fail
              all_goals refine bp_at (fun W => W.heap[w.heap.size + 1]? = some (.cells (snL ⟨x, 1, false, 0⟩).toArray 37 (0, 0)) ∧ RefAt W base R most (insP x.nm ⟨x, true, owner⟩ xs) (.slice A7 (j + 1 + (xs.length - j)) c7) ∧ KeptOff (rfoot R (.slice none xs.length c)) w W) ⟨set7 _ _ HE8.out.1 _ _ _ _ _ _ _, ref_set7 HE8.out.2.1 (rfoot_ne HE8.out.2.1 HE8.out.1 (by decide) (by decide)) _ _ _ _ _ _ _, kept_set7 HE8.out.2.2.1 (by omega) _ _ _ _ _ _ _⟩ ?_
              all_goals rintro W ⟨hO, hR, hK⟩
              all_goals refine fin_one hO rfl rfl ⟨-1, Or.inl ⟨rfl, HNO.out⟩, ?_⟩
              all_goals unfold oneX
              all_goals rw [if_pos (by decide), if_neg (by have := HM.out; omega)]
              all_goals exact ⟨rfl, _, hR, hK, HE8.out.2.2.2⟩
          · go_wp2_with fail
            go_quiet (fail)
            go_wp2_with fail
            clear hlti
            have hjc : j ≤ c := by omega
            refine wp_at (fun W => Below w3.heap.size w3 W) (pw_below_drewN (pw_below_drewN (Below.refl _ w3) _) _) ?_
            intro w4 hB4
            have HS9 : Aside0 (S9 w3 R w.heap.size w2.heap.size (.slice (some ⟨g, 0, none⟩) xs.length c) x owner w3) := ⟨⟨c0, x0, (blk_cell HN3.out 0).trans rfl, (blk_cell HN3.out 1).trans rfl, (blk_cell HN3.out 2).trans rfl, (blk_cell HN3.out 3).trans rfl, (blk_cell HN3.out 4).trans rfl, (blk_cell HN3.out 5).trans rfl, Below.refl _ _⟩⟩
            refine wp_regionL 23 (S9 w3 R w.heap.size w2.heap.size (.slice (some ⟨g, 0, none⟩) xs.length c) x owner) (by kernel_rfl) ?_
            have HB4 := Aside0.mk (below_drew hB4)
            have HS : Aside0 (S9 w3 R w.heap.size w2.heap.size (.slice (some ⟨g, 0, none⟩) xs.length c) x owner w4.drew) := ⟨s9_of HS9.out _ HB4.out⟩
            have HL : Aside0 (∀ W, Below w3.heap.size w3 W → SrcAt W (some ⟨g, 0, none⟩) c j (oneC (xs.take j))) := ⟨fun W hb => src_lo H3.out j hj hb⟩
            have HH : Aside0 (∀ W, Below w3.heap.size w3 W → SrcAt W (if c = j then some ⟨g, 0, none⟩ else some ⟨g, j * 7, none⟩) (c - j) (xs.length - j) (oneC (xs.drop j))) := ⟨fun W hb => src_hi H3.out j hj hcap hb⟩
            have HLT : Aside0 ((oneC (xs.take j)).length = j * 7) := ⟨by rw [oneC_len, List.length_take_of_le hj]⟩
            clear c0 c1 x0 x1 x2 x3 o0 o1 o2 o3 o4 o5 o6 fo t0 hB4
            refine anyL_take (i := 0) (v := ?_) rfl (by kernel_rfl) (by kernel_rfl) (by kernel_rfl) (fun _ _ _ h => h) (by decide) rfl (by kernel_rfl) (by rfl) ?_ HS.out ?_
            rotate_left
            · intro W hW
              obtain ⟨g0, g1, g2, g3, g4, g5, g6, g7, gB⟩ := hW
              go_simp
              try with_reducible rfl
            simp only [Act.put, List.getElem_toArray, List.getElem_cons_succ, List.getElem_cons_zero, List.setIfInBounds_toArray, List.set_cons_zero, List.set_cons_succ]
            refine anyL_take (i := 1) (v := ?_) rfl (by kernel_rfl) (by kernel_rfl) (by kernel_rfl) (fun _ _ _ h => h) (by decide) rfl (by kernel_rfl) (by rfl) ?_ HS.out ?_
            rotate_left
            · intro W hW
              obtain ⟨g0, g1, g2, g3, g4, g5, g6, g7, gB⟩ := hW
              go_simp
              try with_reducible rfl
            simp only [Act.put, List.getElem_toArray, List.getElem_cons_succ, List.getElem_cons_zero, List.setIfInBounds_toArray, List.set_cons_zero, List.set_cons_succ]
            refine anyL_take (i := 2) (v := ?_) rfl (by kernel_rfl) (by kernel_rfl) (by kernel_rfl) (fun _ _ _ h => h) (by decide) rfl (by kernel_rfl) (by rfl) ?_ HS.out ?_
            rotate_left
            · intro W hW
              obtain ⟨g0, g1, g2, g3, g4, g5, g6, g7, gB⟩ := hW
              go_simp
              try with_reducible rfl
            simp only [Act.put, List.getElem_toArray, List.getElem_cons_succ, List.getElem_cons_zero, List.setIfInBounds_toArray, List.set_cons_zero, List.set_cons_succ]
            refine anyL_take (i := 3) (v := ?_) rfl (by kernel_rfl) (by kernel_rfl) (by kernel_rfl) (fun _ _ _ h => h) (by decide) rfl (by kernel_rfl) (by rfl) ?_ HS.out ?_
            rotate_left
            · intro W hW
              obtain ⟨g0, g1, g2, g3, g4, g5, g6, g7, gB⟩ := hW
              go_simp
              try with_reducible rfl
            simp only [Act.put, List.getElem_toArray, List.getElem_cons_succ, List.getElem_cons_zero, List.setIfInBounds_toArray, List.set_cons_zero, List.set_cons_succ]
            refine anyL_take (i := 4) (v := ?_) rfl (by kernel_rfl) (by kernel_rfl) (by kernel_rfl) (fun _ _ _ h => h) (by decide) rfl (by kernel_rfl) (by rfl) ?_ HS.out ?_
            rotate_left
            · intro W hW
              obtain ⟨g0, g1, g2, g3, g4, g5, g6, g7, gB⟩ := hW
              go_simp
              try with_reducible rfl
            simp only [Act.put, List.getElem_toArray, List.getElem_cons_succ, List.getElem_cons_zero, List.setIfInBounds_toArray, List.set_cons_zero, List.set_cons_succ]
            refine anyL_take (i := 5) (v := ?_) rfl (by kernel_rfl) (by kernel_rfl) (by kernel_rfl) (fun _ _ _ h => h) (by decide) rfl (by kernel_rfl) (by rfl) ?_ HS.out ?_
            rotate_left
            · intro W hW
              obtain ⟨g0, g1, g2, g3, g4, g5, g6, g7, gB⟩ := hW
              go_simp
              try with_reducible rfl
            simp only [Act.put, List.getElem_toArray, List.getElem_cons_succ, List.getElem_cons_zero, List.setIfInBounds_toArray, List.set_cons_zero, List.set_cons_succ]
            refine anyL_take (i := 6) (v := ?_) rfl (by kernel_rfl) (by kernel_rfl) (by kernel_rfl) (fun _ _ _ h => h) (by decide) rfl (by kernel_rfl) (by rfl) ?_ HS.out ?_
            rotate_left
            · intro W hW
              obtain ⟨g0, g1, g2, g3, g4, g5, g6, g7, gB⟩ := hW
              go_simp
              try with_reducible rfl
            simp only [Act.put, List.getElem_toArray, List.getElem_cons_succ, List.getElem_cons_zero, List.setIfInBounds_toArray, List.set_cons_zero, List.set_cons_succ]
            refine anyL_take (i := 8) (v := ?_) rfl (by kernel_rfl) (by kernel_rfl) (by kernel_rfl) (fun _ _ _ h => h) (by decide) rfl (by kernel_rfl) (by rfl) ?_ HS.out ?_
            rotate_left
            · intro W hW
              obtain ⟨g0, g1, g2, g3, g4, g5, g6, g7, gB⟩ := hW
              go_simp
              try with_reducible rfl
            simp only [Act.put, List.getElem_toArray, List.getElem_cons_succ, List.getElem_cons_zero, List.setIfInBounds_toArray, List.set_cons_zero, List.set_cons_succ]
            refine anyL_take (i := 9) (v := ?_) rfl (by kernel_rfl) (by kernel_rfl) (by kernel_rfl) (fun _ _ _ h => h) (by decide) rfl (by kernel_rfl) (by rfl) ?_ HS.out ?_
            rotate_left
            · intro W hW
              obtain ⟨g0, g1, g2, g3, g4, g5, g6, g7, gB⟩ := hW
              go_simp
              try with_reducible rfl
            simp only [Act.put, List.getElem_toArray, List.getElem_cons_succ, List.getElem_cons_zero, List.setIfInBounds_toArray, List.set_cons_zero, List.set_cons_succ]
            refine anyL_take (i := 10) (v := ?_) rfl (by kernel_rfl) (by kernel_rfl) (by kernel_rfl) (fun _ _ _ h => h) (by decide) rfl (by kernel_rfl) (by rfl) ?_ HS.out ?_
            rotate_left
            · intro W hW
              obtain ⟨g0, g1, g2, g3, g4, g5, g6, g7, gB⟩ := hW
              go_simp
              try with_reducible rfl
            simp only [Act.put, List.getElem_toArray, List.getElem_cons_succ, List.getElem_cons_zero, List.setIfInBounds_toArray, List.set_cons_zero, List.set_cons_succ]
            refine anyL_take (i := 11) (v := ?_) rfl (by kernel_rfl) (by kernel_rfl) (by kernel_rfl) (fun _ _ _ h => h) (by decide) rfl (by kernel_rfl) (by rfl) ?_ HS.out ?_
            rotate_left
            · intro W hW
              obtain ⟨g0, g1, g2, g3, g4, g5, g6, g7, gB⟩ := hW
              go_simp
              try with_reducible rfl
            simp only [Act.put, List.getElem_toArray, List.getElem_cons_succ, List.getElem_cons_zero, List.setIfInBounds_toArray, List.set_cons_zero, List.set_cons_succ]
            refine anyL_take (i := 14) (v := ?_) rfl (by kernel_rfl) (by kernel_rfl) (by kernel_rfl) (fun _ _ _ h => h) (by decide) rfl (by kernel_rfl) (by rfl) ?_ HS.out ?_
            rotate_left
            · intro W hW
              obtain ⟨g0, g1, g2, g3, g4, g5, g6, g7, gB⟩ := hW
              go_simp
              try with_reducible rfl
            simp only [Act.put, List.getElem_toArray, List.getElem_cons_succ, List.getElem_cons_zero, List.setIfInBounds_toArray, List.set_cons_zero, List.set_cons_succ]
            refine anyL_take (i := 15) (v := ?_) rfl (by kernel_rfl) (by kernel_rfl) (by kernel_rfl) (fun _ _ _ h => h) (by decide) rfl (by kernel_rfl) (by rfl) ?_ HS.out ?_
            rotate_left
            · intro W hW
              obtain ⟨g0, g1, g2, g3, g4, g5, g6, g7, gB⟩ := hW
              go_simp
              try with_reducible rfl
            simp only [Act.put, List.getElem_toArray, List.getElem_cons_succ, List.getElem_cons_zero, List.setIfInBounds_toArray, List.set_cons_zero, List.set_cons_succ]
            refine anyL_take (i := 16) (v := ?_) rfl (by kernel_rfl) (by kernel_rfl) (by kernel_rfl) (fun _ _ _ h => h) (by decide) rfl (by kernel_rfl) (by rfl) ?_ HS.out ?_
            rotate_left
            · intro W hW
              obtain ⟨g0, g1, g2, g3, g4, g5, g6, g7, gB⟩ := hW
              go_simp
              try with_reducible rfl
            simp only [Act.put, List.getElem_toArray, List.getElem_cons_succ, List.getElem_cons_zero, List.setIfInBounds_toArray, List.set_cons_zero, List.set_cons_succ]
            refine anyL_take (i := 17) (v := ?_) rfl (by kernel_rfl) (by kernel_rfl) (by kernel_rfl) (fun _ _ _ h => h) (by decide) rfl (by kernel_rfl) (by rfl) ?_ HS.out ?_
            rotate_left
            · intro W hW
              obtain ⟨g0, g1, g2, g3, g4, g5, g6, g7, gB⟩ := hW
              go_simp
              try with_reducible rfl
            simp only [Act.put, List.getElem_toArray, List.getElem_cons_succ, List.getElem_cons_zero, List.setIfInBounds_toArray, List.set_cons_zero, List.set_cons_succ]
            refine anyL_take (i := 18) (v := ?_) rfl (by kernel_rfl) (by kernel_rfl) (by kernel_rfl) (fun _ _ _ h => h) (by decide) rfl (by kernel_rfl) (by rfl) ?_ HS.out ?_
            rotate_left
            · intro W hW
              obtain ⟨g0, g1, g2, g3, g4, g5, g6, g7, gB⟩ := hW
              go_simp
              try with_reducible rfl
            simp only [Act.put, List.getElem_toArray, List.getElem_cons_succ, List.getElem_cons_zero, List.setIfInBounds_toArray, List.set_cons_zero, List.set_cons_succ]
            refine anyL_take (i := 19) (v := ?_) rfl (by kernel_rfl) (by kernel_rfl) (by kernel_rfl) (fun _ _ _ h => h) (by decide) rfl (by kernel_rfl) (by rfl) ?_ HS.out ?_
            rotate_left
            · intro W hW
              obtain ⟨g0, g1, g2, g3, g4, g5, g6, g7, gB⟩ := hW
              go_simp
              try with_reducible rfl
            simp only [Act.put, List.getElem_toArray, List.getElem_cons_succ, List.getElem_cons_zero, List.setIfInBounds_toArray, List.set_cons_zero, List.set_cons_succ]
            refine anyL_two (i := 7) (j := 12) (by kernel_rfl) rfl rfl (by rfl) (by rfl) ?_ ?_
            · refine app_wp w3.heap.size (.const (.slice none 0 0)) (.tmp 60) rfl (.slice none 0 0) 0 [] rfl (own_nil _ _ _ _) (some ⟨g, 0, none⟩) j c (oneC (xs.take j)) rfl HLT.out (HL.out _ HB4.out) (oneC_one _) (by omega) HB4.out.size ?_
              intro v5 w5 hown5 hg5
              rw [Nat.zero_add] at hown5
              have HB5a : Aside0 (Below w3.heap.size w3 w5) := ⟨HB4.out.grown hg5 HB4.out.size (fun k hk => by cases hk)⟩
              have HR5a := Aside0.mk hown5
              clear hown5 hg5
              refine ⟨fun _ => s9_of HS9.out _ HB5a.out, ?_⟩
              try simp only [Act.put, List.getElem_toArray, List.getElem_cons_succ, List.getElem_cons_zero, List.setIfInBounds_toArray, List.set_cons_zero, List.set_cons_succ]
              refine anyL_one (i := 12) (by kernel_rfl) rfl (by rfl) ?_
              go_simp
              have HB5 : Aside0 (Below w3.heap.size w3 (w5.alloc (.cells (oneV (x.nm, ⟨x, true, owner⟩)).toArray 71))) := ⟨HB5a.out.alloc HB5a.out.size _⟩
              have HX5 : Aside0 ((w5.alloc (.cells (oneV (x.nm, ⟨x, true, owner⟩)).toArray 71)).heap[w5.heap.size]? = some (.cells (oneV (x.nm, ⟨x, true, owner⟩)).toArray 71 (0, 0))) := ⟨blk_new w5 _⟩
              have HR5 := Aside0.mk (HR5a.out.alloc (.cells (oneV (x.nm, ⟨x, true, owner⟩)).toArray 71))
              refine ⟨s9_of HS9.out _ HB5.out, ?_⟩
              try simp only [Act.put, List.getElem_toArray, List.getElem_cons_succ, List.getElem_cons_zero, List.setIfInBounds_toArray, List.set_cons_zero, List.set_cons_succ]
              refine anyL_one (i := 13) (by kernel_rfl) rfl (by rfl) ?_
              refine app_wp w3.heap.size (.tmp 61) (.tmp 66) rfl v5 j _ rfl HR5.out (some ⟨w5.heap.size, 0, none⟩) 1 1 (oneV (x.nm, ⟨x, true, owner⟩)) rfl rfl (Or.inr ⟨_, rfl, fun k u hu => by rw [add_plain]; exact (blk_cell HX5.out k).trans (by simpa using hu)⟩) (oneV_one _) (by omega) HB5.out.size ?_
              intro v6 w6 hown6 hg6
              have HB6 : Aside0 (Below w3.heap.size w3 w6) := ⟨HB5.out.grown hg6 HB5.out.size (fun k hk => own_base HR5.out k hk)⟩
              have HR6 := Aside0.mk hown6
              clear hown6 hg6
              refine ⟨fun _ => s9_of HS9.out _ HB6.out, ?_⟩
              try simp only [Act.put, List.getElem_toArray, List.getElem_cons_succ, List.getElem_cons_zero, List.setIfInBounds_toArray, List.set_cons_zero, List.set_cons_succ]
              refine anyL_one (i := 20) (by kernel_rfl) rfl (by rfl) ?_
              refine app_wp w3.heap.size (.tmp 67) (.tmp 73) rfl v6 (j + 1) _ rfl HR6.out (if c = j then some ⟨g, 0, none⟩ else some ⟨g, j * 7, none⟩) (xs.length - j) (c - j) (oneC (xs.drop j)) rfl (by rw [oneC_len, List.length_drop]) (HH.out _ HB6.out) (oneC_one _) (by omega) HB6.out.size ?_
              intro v7 w7 hown7 hg7
              obtain ⟨A7, c7, rfl⟩ := own_slice hown7
              have HB7 : Aside0 (Below w3.heap.size w3 w7) := ⟨HB6.out.grown hg7 HB6.out.size (fun k hk => own_base HR6.out k hk)⟩
              have HR7 := Aside0.mk hown7
              clear hown7 hg7
              have HE := Aside0.mk (ins_end H.out H3.out HB3.out HB7.out HO3.out (by omega) HX3.out HR7.out hbase hj HIN.out)
              have hf7 : w7.frozen? ⟨R, 0, none⟩ = false := blk_frozen (H3.out.below HB7.out).blk 0
              have hc7 : w7.cell? ⟨R, 0, none⟩ = some (.slice (some ⟨g, 0, none⟩) xs.length c) := (blk_cell (H3.out.below HB7.out).blk 0).trans rfl
              refine ⟨fun _ => s9_of HS9.out _ HB7.out, ?_⟩
              try simp only [Act.put, List.getElem_toArray, List.getElem_cons_succ, List.getElem_cons_zero, List.setIfInBounds_toArray, List.set_cons_zero, List.set_cons_succ]
              refine anyL_one (i := 21) (by kernel_rfl) rfl (by rfl) ?_
              go_simp
              refine ⟨s9_of HS9.out _ HB7.out, ?_⟩
              refine anyL_one (i := 22) (by kernel_rfl) rfl (by rfl) ?_
              go_simp
              refine ⟨s9_of HS9.out _ HB7.out, ?_⟩
              refine anyL_one (i := 23) (by kernel_rfl) rfl (by rfl) ?_
              go_simp
              refine anyL_done (by kernel_rfl) ?_
              obtain ⟨hO8, hX8, hR8, hK8, hG8⟩ := HE.out
              have o0 : (w7.setCell ⟨R, 0, none⟩ (.slice A7 (j + 1 + (xs.length - j)) c7)).cell? ⟨w.heap.size + 1, 0, none⟩ = some (.string ⟨#[]⟩) := (blk_cell hO8 0).trans rfl
              have o1 : (w7.setCell ⟨R, 0, none⟩ (.slice A7 (j + 1 + (xs.length - j)) c7)).cell? ⟨w.heap.size + 1, 1, none⟩ = some (.int .i64 0) := (blk_cell hO8 1).trans rfl
              have o2 : (w7.setCell ⟨R, 0, none⟩ (.slice A7 (j + 1 + (xs.length - j)) c7)).cell? ⟨w.heap.size + 1, 2, none⟩ = some (.int .i64 0) := (blk_cell hO8 2).trans rfl
              have o3 : (w7.setCell ⟨R, 0, none⟩ (.slice A7 (j + 1 + (xs.length - j)) c7)).cell? ⟨w.heap.size + 1, 3, none⟩ = some (.bool false) := (blk_cell hO8 3).trans rfl
              have o4 : (w7.setCell ⟨R, 0, none⟩ (.slice A7 (j + 1 + (xs.length - j)) c7)).cell? ⟨w.heap.size + 1, 4, none⟩ = some (.int .i64 0) := (blk_cell hO8 4).trans rfl
              have o5 : (w7.setCell ⟨R, 0, none⟩ (.slice A7 (j + 1 + (xs.length - j)) c7)).cell? ⟨w.heap.size + 1, 5, none⟩ = some (.bool false) := (blk_cell hO8 5).trans rfl
              have o6 : (w7.setCell ⟨R, 0, none⟩ (.slice A7 (j + 1 + (xs.length - j)) c7)).cell? ⟨w.heap.size + 1, 6, none⟩ = some (.int .i64 0) := (blk_cell hO8 6).trans rfl
              have fo : ∀ off, (w7.setCell ⟨R, 0, none⟩ (.slice A7 (j + 1 + (xs.length - j)) c7)).frozen? ⟨w.heap.size + 1, off, none⟩ = false := fun off => blk_frozen hO8 off
              have x0 : (w7.setCell ⟨R, 0, none⟩ (.slice A7 (j + 1 + (xs.length - j)) c7)).cell? ⟨w.heap.size, 0, none⟩ = some (.string x.nm) := (blk_cell hX8 0).trans rfl
              have x1 : (w7.setCell ⟨R, 0, none⟩ (.slice A7 (j + 1 + (xs.length - j)) c7)).cell? ⟨w.heap.size, 1, none⟩ = some (.int .i64 x.val) := (blk_cell hX8 1).trans rfl
              have x2 : (w7.setCell ⟨R, 0, none⟩ (.slice A7 (j + 1 + (xs.length - j)) c7)).cell? ⟨w.heap.size, 2, none⟩ = some (.int .i64 x.time) := (blk_cell hX8 2).trans rfl
              have x3 : (w7.setCell ⟨R, 0, none⟩ (.slice A7 (j + 1 + (xs.length - j)) c7)).cell? ⟨w.heap.size, 3, none⟩ = some (.bool x.counts) := (blk_cell hX8 3).trans rfl
              have HE8 := Aside0.mk (And.intro hO8 (And.intro hR8 (And.intro hK8 hG8)))
              clear hO8 hX8 hR8 hK8 hG8 hc7 hf7
              generalize w7.setCell ⟨R, 0, none⟩ (.slice A7 (j + 1 + (xs.length - j)) c7) = w8 at *
              go_wp2_with fail
              all_goals refine bp_at (fun W => W.heap[w.heap.size + 1]? = some (.cells (snL ⟨x, 1, false, 0⟩).toArray 37 (0, 0)) ∧ RefAt W base R most (insP x.nm ⟨x, true, owner⟩ xs) (.slice A7 (j + 1 + (xs.length - j)) c7) ∧ KeptOff (rfoot R (.slice (some ⟨g, 0, none⟩) xs.length c)) w W) ⟨set7 _ _ HE8.out.1 _ _ _ _ _ _ _, ref_set7 HE8.out.2.1 (rfoot_ne HE8.out.2.1 HE8.out.1 (by decide) (by decide)) _ _ _ _ _ _ _, kept_set7 HE8.out.2.2.1 (by omega) _ _ _ _ _ _ _⟩ ?_
              all_goals rintro W ⟨hO, hR, hK⟩
              all_goals refine fin_one hO rfl rfl ⟨-1, Or.inl ⟨rfl, HNO.out⟩, ?_⟩
              all_goals unfold oneX
              all_goals rw [if_pos (by decide), if_neg (by have := HM.out; omega)]
              all_goals exact ⟨rfl, _, hR, hK, HE8.out.2.2.2⟩
            · go_simp
              have HBb : Aside0 (Below w3.heap.size w3 (w4.drew.alloc (.cells (oneV (x.nm, ⟨x, true, owner⟩)).toArray 71))) := ⟨HB4.out.alloc HB4.out.size _⟩
              have HXb : Aside0 ((w4.drew.alloc (.cells (oneV (x.nm, ⟨x, true, owner⟩)).toArray 71)).heap[w4.heap.size]? = some (.cells (oneV (x.nm, ⟨x, true, owner⟩)).toArray 71 (0, 0))) := ⟨blk_new w4.drew _⟩
              refine ⟨s9_of HS9.out _ HBb.out, ?_⟩
              try simp only [Act.put, List.getElem_toArray, List.getElem_cons_succ, List.getElem_cons_zero, List.setIfInBounds_toArray, List.set_cons_zero, List.set_cons_succ]
              refine anyL_one (i := 7) (by kernel_rfl) rfl (by rfl) ?_
              refine app_wp w3.heap.size (.const (.slice none 0 0)) (.tmp 60) rfl (.slice none 0 0) 0 [] rfl (own_nil _ _ _ _) (some ⟨g, 0, none⟩) j c (oneC (xs.take j)) rfl HLT.out (HL.out _ HBb.out) (oneC_one _) (by omega) HBb.out.size ?_
              intro v5 w5 hown5 hg5
              rw [Nat.zero_add] at hown5
              have HB5 : Aside0 (Below w3.heap.size w3 w5) := ⟨HBb.out.grown hg5 HBb.out.size (fun k hk => by cases hk)⟩
              have HX5 : Aside0 (w5.heap[w4.heap.size]? = some (.cells (oneV (x.nm, ⟨x, true, owner⟩)).toArray 71 (0, 0))) := ⟨(hg5.block _ (blk_lt HXb.out) (by intro e; cases e)).trans HXb.out⟩
              have HR5 := Aside0.mk hown5
              clear hown5 hg5
              refine ⟨fun _ => s9_of HS9.out _ HB5.out, ?_⟩
              try simp only [Act.put, List.getElem_toArray, List.getElem_cons_succ, List.getElem_cons_zero, List.setIfInBounds_toArray, List.set_cons_zero, List.set_cons_succ]
              refine anyL_one (i := 13) (by kernel_rfl) rfl (by rfl) ?_
              refine app_wp w3.heap.size (.tmp 61) (.tmp 66) rfl v5 j _ rfl HR5.out (some ⟨w4.heap.size, 0, none⟩) 1 1 (oneV (x.nm, ⟨x, true, owner⟩)) rfl rfl (Or.inr ⟨_, rfl, fun k u hu => by rw [add_plain]; exact (blk_cell HX5.out k).trans (by simpa using hu)⟩) (oneV_one _) (by omega) HB5.out.size ?_
              intro v6 w6 hown6 hg6
              have HB6 : Aside0 (Below w3.heap.size w3 w6) := ⟨HB5.out.grown hg6 HB5.out.size (fun k hk => own_base HR5.out k hk)⟩
              have HR6 := Aside0.mk hown6
              clear hown6 hg6
              refine ⟨fun _ => s9_of HS9.out _ HB6.out, ?_⟩
              try simp only [Act.put, List.getElem_toArray, List.getElem_cons_succ, List.getElem_cons_zero, List.setIfInBounds_toArray, List.set_cons_zero, List.set_cons_succ]
              refine anyL_one (i := 20) (by kernel_rfl) rfl (by rfl) ?_
              refine app_wp w3.heap.size (.tmp 67) (.tmp 73) rfl v6 (j + 1) _ rfl HR6.out (if c = j then some ⟨g, 0, none⟩ else some ⟨g, j * 7, none⟩) (xs.length - j) (c - j) (oneC (xs.drop j)) rfl (by rw [oneC_len, List.length_drop]) (HH.out _ HB6.out) (oneC_one _) (by omega) HB6.out.size ?_
              intro v7 w7 hown7 hg7
              obtain ⟨A7, c7, rfl⟩ := own_slice hown7
              have HB7 : Aside0 (Below w3.heap.size w3 w7) := ⟨HB6.out.grown hg7 HB6.out.size (fun k hk => own_base HR6.out k hk)⟩
              have HR7 := Aside0.mk hown7
              clear hown7 hg7
              have HE := Aside0.mk (ins_end H.out H3.out HB3.out HB7.out HO3.out (by omega) HX3.out HR7.out hbase hj HIN.out)
              have hf7 : w7.frozen? ⟨R, 0, none⟩ = false := blk_frozen (H3.out.below HB7.out).blk 0
              have hc7 : w7.cell? ⟨R, 0, none⟩ = some (.slice (some ⟨g, 0, none⟩) xs.length c) := (blk_cell (H3.out.below HB7.out).blk 0).trans rfl
              refine ⟨fun _ => s9_of HS9.out _ HB7.out, ?_⟩
              try simp only [Act.put, List.getElem_toArray, List.getElem_cons_succ, List.getElem_cons_zero, List.setIfInBounds_toArray, List.set_cons_zero, List.set_cons_succ]
              refine anyL_one (i := 21) (by kernel_rfl) rfl (by rfl) ?_
              go_simp
              refine ⟨s9_of HS9.out _ HB7.out, ?_⟩
              refine anyL_one (i := 22) (by kernel_rfl) rfl (by rfl) ?_
              go_simp
              refine ⟨s9_of HS9.out _ HB7.out, ?_⟩
              refine anyL_one (i := 23) (by kernel_rfl) rfl (by rfl) ?_
              go_simp
              refine anyL_done (by kernel_rfl) ?_
              obtain ⟨hO8, hX8, hR8, hK8, hG8⟩ := HE.out
              have o0 : (w7.setCell ⟨R, 0, none⟩ (.slice A7 (j + 1 + (xs.length - j)) c7)).cell? ⟨w.heap.size + 1, 0, none⟩ = some (.string ⟨#[]⟩) := (blk_cell hO8 0).trans rfl
              have o1 : (w7.setCell ⟨R, 0, none⟩ (.slice A7 (j + 1 + (xs.length - j)) c7)).cell? ⟨w.heap.size + 1, 1, none⟩ = some (.int .i64 0) := (blk_cell hO8 1).trans rfl
              have o2 : (w7.setCell ⟨R, 0, none⟩ (.slice A7 (j + 1 + (xs.length - j)) c7)).cell? ⟨w.heap.size + 1, 2, none⟩ = some (.int .i64 0) := (blk_cell hO8 2).trans rfl
              have o3 : (w7.setCell ⟨R, 0, none⟩ (.slice A7 (j + 1 + (xs.length - j)) c7)).cell? ⟨w.heap.size + 1, 3, none⟩ = some (.bool false) := (blk_cell hO8 3).trans rfl
              have o4 : (w7.setCell ⟨R, 0, none⟩ (.slice A7 (j + 1 + (xs.length - j)) c7)).cell? ⟨w.heap.size + 1, 4, none⟩ = some (.int .i64 0) := (blk_cell hO8 4).trans rfl
              have o5 : (w7.setCell ⟨R, 0, none⟩ (.slice A7 (j + 1 + (xs.length - j)) c7)).cell? ⟨w.heap.size + 1, 5, none⟩ = some (.bool false) := (blk_cell hO8 5).trans rfl
              have o6 : (w7.setCell ⟨R, 0, none⟩ (.slice A7 (j + 1 + (xs.length - j)) c7)).cell? ⟨w.heap.size + 1, 6, none⟩ = some (.int .i64 0) := (blk_cell hO8 6).trans rfl
              have fo : ∀ off, (w7.setCell ⟨R, 0, none⟩ (.slice A7 (j + 1 + (xs.length - j)) c7)).frozen? ⟨w.heap.size + 1, off, none⟩ = false := fun off => blk_frozen hO8 off
              have x0 : (w7.setCell ⟨R, 0, none⟩ (.slice A7 (j + 1 + (xs.length - j)) c7)).cell? ⟨w.heap.size, 0, none⟩ = some (.string x.nm) := (blk_cell hX8 0).trans rfl
              have x1 : (w7.setCell ⟨R, 0, none⟩ (.slice A7 (j + 1 + (xs.length - j)) c7)).cell? ⟨w.heap.size, 1, none⟩ = some (.int .i64 x.val) := (blk_cell hX8 1).trans rfl
              have x2 : (w7.setCell ⟨R, 0, none⟩ (.slice A7 (j + 1 + (xs.length - j)) c7)).cell? ⟨w.heap.size, 2, none⟩ = some (.int .i64 x.time) := (blk_cell hX8 2).trans rfl
              have x3 : (w7.setCell ⟨R, 0, none⟩ (.slice A7 (j + 1 + (xs.length - j)) c7)).cell? ⟨w.heap.size, 3, none⟩ = some (.bool x.counts) := (blk_cell hX8 3).trans rfl
              have HE8 := Aside0.mk (And.intro hO8 (And.intro hR8 (And.intro hK8 hG8)))
              clear hO8 hX8 hR8 hK8 hG8 hc7 hf7
              generalize w7.setCell ⟨R, 0, none⟩ (.slice A7 (j + 1 + (xs.length - j)) c7) = w8 at *
              go_wp2_with fail
              all_goals refine bp_at (fun W => W.heap[w.heap.size + 1]? = some (.cells (snL ⟨x, 1, false, 0⟩).toArray 37 (0, 0)) ∧ RefAt W base R most (insP x.nm ⟨x, true, owner⟩ xs) (.slice A7 (j + 1 + (xs.length - j)) c7) ∧ KeptOff (rfoot R (.slice (some ⟨g, 0, none⟩) xs.length c)) w W) ⟨set7 _ _ HE8.out.1 _ _ _ _ _ _ _, ref_set7 HE8.out.2.1 (rfoot_ne HE8.out.2.1 HE8.out.1 (by decide) (by decide)) _ _ _ _ _ _ _, kept_set7 HE8.out.2.2.1 (by omega) _ _ _ _ _ _ _⟩ ?_
              all_goals rintro W ⟨hO, hR, hK⟩
              all_goals refine fin_one hO rfl rfl ⟨-1, Or.inl ⟨rfl, HNO.out⟩, ?_⟩
              all_goals unfold oneX
              all_goals rw [if_pos (by decide), if_neg (by have := HM.out; omega)]
              all_goals exact ⟨rfl, _, hR, hK, HE8.out.2.2.2⟩
  · exact absurd hka (hnone a (List.mem_of_getElem? hk))
end Go.Proofs.Ytneodhhoejjncaa
