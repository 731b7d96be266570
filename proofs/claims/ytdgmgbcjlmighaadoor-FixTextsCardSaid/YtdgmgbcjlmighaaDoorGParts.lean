import Derived.Test.YtdgmgbcjlmighaaDoorGPlain
import Derived.Deep.LoopGhost
/-! fix.parts: a text's parts, of ASCII texts. -/
namespace Go.Proofs.YtdgmgbcjlmighaaDoor
open Go.RowKit Go.Proofs.YtdgmgbcjlmighaaDoorW.PrintWords Go.Proofs.YtdgmgbcjlmighaaDoorW.PrintMore
set_option linter.unusedVariables false
set_option linter.unusedSimpArgs false
theorem info_byte : (Tryd.prog.info? 5).map (fun i => (i.zero, i.size, i.bytes)) = some (some (.int .u8 0), 1, 1) := by kernel_rfl
/-- What holds at a round's head: of the memory. -/
structure PMem (s : ByteArray) (w : World) (v : Value) (k : Nat) (x : PS) (wr : World) : Prop where
  it : wr.heap[w.heap.size + 2]? = some (.stringIter s k)
  bx : wr.heap[w.heap.size + 1]? = some (.cells #[.bool x.neg, .string ⟨#[]⟩, .int .i64 x.e] 39 (0, 0))
  br : wr.heap[w.heap.size]? = some (.cells #[.bool false, .string ⟨#[]⟩, .int .i64 0] 39 (0, 0))
  own : wr.ownsRow (w.heap.size + 3) 5 1 v x.ds.length (Lib.byteCells x.ds)
  bel : Below w.heap.size w wr
/-- And of what is left. -/
structure PLeft (s : ByteArray) (k : Nat) (x : PS) : Prop where
  le : k ≤ s.size
  left : prun (s.data.toList.drop k) k x = prun s.data.toList 0 PS.start
  e1 : -(k : Int) ≤ x.e
  e2 : x.e ≤ 0
  p1 : 0 ≤ x.exp
  p2 : x.exp ≤ 1099511627776
  at6 : x.at_ ≤ 6
  dl : x.ds.length ≤ k
def PRel (s : ByteArray) (w : World) (v a p d : Value) (wr : World) : Prop :=
  ∃ (k : Nat) (x : PS), PMem s w v k x wr ∧ PLeft s k x ∧ a = .int .i64 x.at_ ∧ p = .int .i64 x.exp ∧ d = .bool x.down
theorem pleft_next {s : ByteArray} {k : Nat} {x y : PS} (h : PLeft s k x) (hk : k < s.size) (hy : pstep k s[k].toNat x = some y) (h1 : x.e - 1 ≤ y.e) (h2 : y.e ≤ x.e) (h3 : 0 ≤ y.exp) (h4 : y.exp ≤ 1099511627776) (h5 : y.at_ ≤ 6) (h6 : y.ds.length ≤ x.ds.length + 1) : PLeft s (k + 1) y := by
  have hsz : s.data.toList.length = s.size := by simp
  have g1 := h.e1; have g2 := h.e2; have g3 := h.dl
  refine ⟨hk, ?_, by push_cast; omega, by omega, h3, h4, h5, by omega⟩
  rw [← h.left, List.drop_eq_getElem_cons (l := s.data.toList) (i := k) (by omega), show s.data.toList[k]'(by omega) = s[k] from rfl, prun, hy]
  rfl
theorem pleft_end {s : ByteArray} {x : PS} (h : PLeft s s.size x) : prun s.data.toList 0 PS.start = some x := by
  rw [← h.left, List.drop_of_length_le (by simp)]; rfl
theorem pleft_none {s : ByteArray} {k : Nat} {x : PS} (h : PLeft s k x) (hk : k < s.size) (hy : pstep k s[k].toNat x = none) : partsF s.data.toList = none := by
  have hsz : s.data.toList.length = s.size := by simp
  unfold partsF
  rw [← h.left, List.drop_eq_getElem_cons (by omega), show s.data.toList[k]'(by omega) = s[k] from rfl, prun, hy]
  rfl
theorem pleft_start (s : ByteArray) : PLeft s 0 PS.start := ⟨Nat.zero_le _, rfl, by decide, by decide, by decide, by decide, by decide, Nat.le_refl _⟩
def zeroN : Obj := .cells #[.bool false, .string ⟨#[]⟩, .int .i64 0] 39 (0, 0)
theorem pmem_start' (s : ByteArray) (w : World) : PMem s w (.slice none 0 0) 0 PS.start (((w.alloc zeroN).alloc zeroN).alloc (.stringIter s 0)) := by
  have s1 : (w.alloc zeroN).heap.size = w.heap.size + 1 := Array.size_push _
  have s2 : ((w.alloc zeroN).alloc zeroN).heap.size = w.heap.size + 2 := (Array.size_push _).trans (by rw [s1])
  have b1 := (Below.refl w.heap.size w).alloc (Nat.le_refl _) zeroN
  have b2 := b1.alloc (by rw [s1]; omega) zeroN
  have b3 := b2.alloc (by rw [s2]; omega) (.stringIter s 0)
  refine ⟨?_, ?_, ?_, World.ownsRow_nil _ _ _ _, b3⟩
  · have := heap_alloc_new ((w.alloc zeroN).alloc zeroN) (.stringIter s 0)
    rwa [s2] at this
  · rw [Below.heap_alloc _ _ _ (by rw [s2]; omega)]
    have := heap_alloc_new (w.alloc zeroN) zeroN
    rw [s1] at this
    exact this
  · rw [Below.heap_alloc _ _ _ (by rw [s2]; omega), Below.heap_alloc _ _ _ (by rw [s1]; omega)]
    exact heap_alloc_new _ _
theorem pmem_start (s : ByteArray) (w : World) : PMem s w (.slice none 0 0) 0 PS.start (((w.alloc (.cells #[.bool false, .string ⟨#[]⟩, .int .i64 0] 39)).alloc (.cells #[.bool false, .string ⟨#[]⟩, .int .i64 0] 39)).iter s 0) := pmem_start' s w
theorem ascii_at {s : ByteArray} (h : ∀ (j : Nat) (b : UInt8), s.data.toList[j]? = some b → b.toNat < 128) {k : Nat} (hk : k < s.size) : s[k].toNat < 128 :=
  h k s[k] (by rw [List.getElem?_eq_getElem (by simpa using hk)]; rfl)
theorem pmem_next {s : ByteArray} {w : World} {v : Value} {k : Nat} {x : PS} {wr : World} (h : PMem s w v k x wr) : PMem s w v (k + 1) x (wr.iterAt (w.heap.size + 2) s (k + 1)) :=
  ⟨Lib.iterAt_heap wr _ s k _ h.it, (Lib.iterAt_other _ _ _ _ _ (by omega)).trans h.bx, (Lib.iterAt_other _ _ _ _ _ (by omega)).trans h.br, ownsRow_iterAt h.own (by omega) _ _, Lib.below_iterAt h.bel (by omega) _ _⟩
theorem pmem_same {s : ByteArray} {w : World} {v : Value} {k : Nat} {x y : PS} {wr : World} (h : PMem s w v k x wr) (h1 : y.neg = x.neg) (h2 : y.e = x.e) (h3 : y.ds = x.ds) : PMem s w v k y wr :=
  ⟨h.it, by rw [h1, h2]; exact h.bx, h.br, by rw [h3]; exact h.own, h.bel⟩
theorem pmem_store {s : ByteArray} {w : World} {v : Value} {k : Nat} {x y : PS} {wr : World} (h : PMem s w v k x wr) (i : Nat) (u : Value) (h1 : #[.bool x.neg, .string ⟨#[]⟩, .int .i64 x.e].setIfInBounds i u = #[.bool y.neg, .string ⟨#[]⟩, .int .i64 y.e]) (h3 : y.ds = x.ds) :
    PMem s w v k y (wr.setCell ⟨w.heap.size + 1, i, none⟩ u) := by
  refine ⟨(heap_setCell_other _ _ _ _ (by show w.heap.size + 2 ≠ w.heap.size + 1; omega)).trans h.it, ?_, (heap_setCell_other _ _ _ _ (by show w.heap.size ≠ w.heap.size + 1; omega)).trans h.br, ?_, h.bel.setCell (by show w.heap.size ≤ w.heap.size + 1; omega) _⟩
  · rw [heap_setCell_same _ _ _ _ _ _ h.bx, h1]
  · rw [h3]; exact ownsRow_setCell h.own _ _ (by omega) _
theorem pmem_add {s : ByteArray} {w : World} {v v' : Value} {k : Nat} {x y : PS} {wr w1 : World} (h : PMem s w v k x wr) (o : Obj) (c : UInt8) (hown : w1.ownsRow (w.heap.size + 3) 5 1 v' (x.ds.length + 1) (Lib.byteCells x.ds ++ [.int .u8 c.toNat])) (hg : (wr.alloc o).grownBy w1 v.ownBlock)
    (h1 : y.neg = x.neg) (h2 : y.e = x.e) (h3 : y.ds = x.ds ++ [c]) : PMem s w v' k y w1 := by
  have l2 := lt_of_blk h.it
  have old : ∀ b, b < w.heap.size + 3 → w1.heap[b]? = wr.heap[b]? := fun b hb => by
    rw [hg.block b (by show b < (wr.heap.push o).size; rw [Array.size_push]; omega) (fun e => by have := (h.own.lt _ e.symm).1; omega), Below.heap_alloc _ _ _ (by omega)]
  refine ⟨(old _ (by omega)).trans h.it, by rw [h1, h2]; exact (old _ (by omega)).trans h.bx, (old _ (by omega)).trans h.br, ?_, Below.grown (h.bel.alloc h.bel.size _) hg (by show w.heap.size ≤ (wr.heap.push o).size; rw [Array.size_push]; omega) (fun j hj => by have := (h.own.lt _ hj).1; omega)⟩
  rw [h3, List.length_append, List.length_singleton, Lib.byteCells_append]
  exact hown
theorem slice_of {w : World} {base : Nat} {e : TypeId} {size : Nat} {v : Value} {n : Nat} {xs : List Value} (h : w.ownsRow base e size v n xs) : ∃ A c, v = .slice A n c := by
  rcases h.2 with ⟨rfl, rfl⟩ | ⟨g, cap, cur, hv, _⟩
  · exact ⟨_, _, rfl⟩
  · exact ⟨_, _, hv⟩
theorem own_text_of {W : World} {base : Nat} {A : Option Addr} {cap : Nat} {ds : List UInt8} (h : W.ownsRow base 5 1 (.slice A ds.length cap) ds.length (Lib.byteCells ds)) :
    (convert 53 9 (.slice A ds.length cap)).run Tryd.prog W = .ok (.string ⟨ds.toArray⟩) W := by
  rcases h.2 with ⟨hv, hn⟩ | ⟨g, cp, cur, hv, _⟩
  · obtain rfl : ds = [] := List.eq_nil_of_length_eq_zero hn
    cases hv
    exact run_convert_bytes_nil W 53 5 Tryd.underlying53 Tryd.underlying5 0 0 9 Tryd.underlying9
  · cases hv
    refine run_convert_bytes_back W _ _ 5 _ _ ds Tryd.underlying53 Tryd.underlying5 Tryd.underlying9 (fun j hj => ?_)
    refine h.cells (g := g) rfl j _ ?_
    simp [Lib.byteCells, List.getElem?_eq_getElem hj]
theorem partsF_yes {s : ByteArray} {x : PS} (h : PLeft s s.size x) (hg : 0 < x.ds.length ∧ x.at_ ≠ 4 ∧ x.at_ ≠ 5) : partsF s.data.toList = some (x.neg, x.ds, x.e + (if x.down then -x.exp else x.exp)) := by
  unfold partsF; rw [pleft_end h, Option.bind_some, if_pos hg]
theorem partsF_no {s : ByteArray} {x : PS} (h : PLeft s s.size x) (hg : ¬ (0 < x.ds.length ∧ x.at_ ≠ 4 ∧ x.at_ ≠ 5)) : partsF s.data.toList = none := by
  unfold partsF; rw [pleft_end h, Option.bind_some, if_neg hg]
/-- What parts answers. -/
def PartsEnd (s : ByteArray) (w : World) (e : Ending) (w' : World) : Prop :=
  (∃ neg ds x, partsF s.data.toList = some (neg, ds, x) ∧ e = .returned (.tuple #[.agg #[.bool neg, .string ⟨ds.toArray⟩, .int .i64 x], .bool true]) ∧ Below w.heap.size w w') ∨
  (∃ a b c, partsF s.data.toList = none ∧ e = .returned (.tuple #[.agg #[.bool a, .string b, .int .i64 c], .bool false]) ∧ Below w.heap.size w w')
set_option maxHeartbeats 4000000 in
set_option maxRecDepth 100000 in
theorem parts_calls (s : ByteArray) (w : World) (hs : s.size ≤ 1000000) (ha : ∀ (j : Nat) (b : UInt8), s.data.toList[j]? = some b → b.toNat < 128) :
    Calls Tryd.prog 21 #[.string s] w (PartsEnd s w) := by
  have HA := Aside0.mk ha
  clear ha
  obtain ⟨i0, hi, hz0, hz1, hz2⟩ := info_parts info_byte
  go_enter Tryd.func21, Tryd.ntmps21
  go_wp2
  go_loopw [5, 6, 7, 8] (fun v a p d wr => PRel s w v a p d wr) (fun _ _ _ _ wr => s.size - wr.iterPos (w.heap.size + 2))
  case atStart =>
    exact ⟨0, PS.start, pmem_start s w, pleft_start s, rfl, rfl, rfl⟩
  case round =>
    obtain ⟨k, x, hM, hL, rfl, rfl, rfl⟩ := hrel
    by_cases hlt : k < s.size
    · have hc := ascii_at HA.out hlt
      have hnx : ∀ ty, (Instr.next (.pointer (some ⟨w.heap.size + 2, 0, none⟩)) true ty).run Tryd.prog wr = _ := fun ty => Lib.run_next_ascii_at wr (w.heap.size + 2) s k ty hM.it hlt hc
      have hM1 := pmem_next hM
      have hpos := iterPos_of hM.it
      obtain ⟨W1, hW1⟩ : ∃ W1, W1 = wr.iterAt (w.heap.size + 2) s (k + 1) := ⟨_, rfl⟩
      rw [← hW1] at hnx hM1
      have HL : Aside0 (∀ y, pstep k s[k].toNat x = some y → x.e - 1 ≤ y.e → y.e ≤ x.e → 0 ≤ y.exp → y.exp ≤ 1099511627776 → y.at_ ≤ 6 → y.ds.length ≤ x.ds.length + 1 → PLeft s (k + 1) y) := ⟨fun y h0 h1 h2 h3 h4 h5 h6 => pleft_next hL hlt h0 h1 h2 h3 h4 h5 h6⟩
      have HN : Aside0 (pstep k s[k].toNat x = none → partsF s.data.toList = none) := ⟨fun h => pleft_none hL hlt h⟩
      obtain ⟨neg, e, at_, exp, down, ds⟩ := x
      have c2 : W1.cell? ⟨w.heap.size + 1, 2, none⟩ = some (.int .i64 e) := (blk3_cell hM1.bx 2).trans rfl
      have c0 : W1.cell? ⟨w.heap.size + 1, 0, none⟩ = some (.bool neg) := (blk3_cell hM1.bx 0).trans rfl
      have c1 : W1.cell? ⟨w.heap.size + 1, 1, none⟩ = some (.string ⟨#[]⟩) := (blk3_cell hM1.bx 1).trans rfl
      have fz : ∀ i, W1.frozen? ⟨w.heap.size + 1, i, none⟩ = false := fun i => frozen_of_row _ _ _ _ _ hM1.bx
      have r0 : W1.cell? ⟨w.heap.size, 0, none⟩ = some (.bool false) := (blk3_cell hM1.br 0).trans rfl
      have r1 : W1.cell? ⟨w.heap.size, 1, none⟩ = some (.string ⟨#[]⟩) := (blk3_cell hM1.br 1).trans rfl
      have r2 : W1.cell? ⟨w.heap.size, 2, none⟩ = some (.int .i64 0) := (blk3_cell hM1.br 2).trans rfl
      have rz : ∀ i, W1.frozen? ⟨w.heap.size, i, none⟩ = false := fun i => frozen_of_row _ _ _ _ _ hM1.br
      obtain ⟨A0, cap, rfl⟩ := slice_of hM1.own
      have HM1 := Aside0.mk hM1
      have e1 := hL.e1; have e2 := hL.e2; have p1 := hL.p1; have p2 := hL.p2; have a6 := hL.at6; have dl := hL.dl
      simp only at e1 e2 p1 p2 a6 dl
      clear hM hM1 hL hW1
      generalize s[k].toNat = c at *
      by_cases hk0 : k = 0 ∧ (c = 43 ∨ c = 45)
      · obtain ⟨rfl, h45⟩ := hk0
        rcases h45 with rfl | rfl
        · go_wp2
          go_roundw
          case rel => exact ⟨1, ⟨false, e, at_, exp, down, ds⟩, pmem_store HM1.out 0 (.bool false) rfl rfl, HL.out _ rfl (by simp only; omega) (by simp only; omega) p1 p2 a6 (by simp only; omega), rfl, rfl, rfl⟩
          case measure => rw [iterPos_of (pmem_store (y := ⟨false, e, at_, exp, down, ds⟩) HM1.out 0 (.bool false) rfl rfl).it, hpos]; omega
        · go_wp2
          go_roundw
          case rel => exact ⟨1, ⟨true, e, at_, exp, down, ds⟩, pmem_store HM1.out 0 (.bool true) rfl rfl, HL.out _ rfl (by simp only; omega) (by simp only; omega) p1 p2 a6 (by simp only; omega), rfl, rfl, rfl⟩
          case measure => rw [iterPos_of (pmem_store (y := ⟨true, e, at_, exp, down, ds⟩) HM1.out 0 (.bool true) rfl rfl).it, hpos]; omega
      · have hk1 : ((k : Int) == 0) = false ∨ (((k : Int) == 0) = true ∧ ((c : Int) == 43) = false ∧ ((c : Int) == 45) = false) := by
          simp only [beq_eq_false_iff_ne, beq_iff_eq]
          omega
        have HK := Aside0.mk hk0
        clear hk0
        by_cases hd : 48 ≤ c ∧ c ≤ 57
        · have d1 : (48 : Int) ≤ (c : Int) := by omega
          have d2 : (c : Int) ≤ 57 := by omega
          have d3 : decide ((48 : Int) ≤ (c : Int)) = true := decide_eq_true d1
          have d4 : decide ((c : Int) ≤ 57) = true := decide_eq_true d2
          have HD := Aside0.mk hd
          clear hd
          have hcu := Aside0.mk (show ((UInt8.ofNat c).toNat : Int) = (c : Int) by simp; omega)
          have hsz1 : w.heap.size + 2 < W1.heap.size := lt_of_blk HM1.out.it
          by_cases h23 : at_ = 2 ∨ at_ = 3
          · have HY : Aside0 (pstep k c ⟨neg, e, at_, exp, down, ds⟩ = some ⟨neg, e - 1, 3, exp, down, ds ++ [UInt8.ofNat c]⟩) := ⟨by simp only [pstep]; rw [if_neg HK.out, if_pos HD.out, if_pos h23]⟩
            have HM2 := Aside0.mk (pmem_store (y := ⟨neg, e - 1, 3, exp, down, ds⟩) HM1.out 2 (.int .i64 (e - 1)) rfl rfl)
            rcases h23 with rfl | rfl
            all_goals
              rcases hk1 with hk1 | ⟨hk1, n43, n45⟩
            all_goals
              go_wp2_with (at_builtin; refine wpList_append_own _ rfl (.tmp 50) (.tmp 53) 53 rfl (w.heap.size + 3) 5 i0 (.int .u8 0) 1 1 Tryd.underlying53 hi hz0 hz1 hz2 rfl (by decide) _ _ _ rfl (HM2.out.own.alloc _) _ 1 1 [.int .u8 (c : Int)] rfl rfl (cell_one_new _ _ _ _ (by simp)) (fun x hx => by simp at hx; rcases hx with rfl; rfl) (by simp only [maxLen]; omega) (by simp only [Nat.mul_one]; omega) (by simp; omega) ?_; intro v' w3 hown' hgrow3 hnil3; have HM3 := Aside0.mk (pmem_add (y := ⟨neg, e - 1, 3, exp, down, ds ++ [UInt8.ofNat c]⟩) HM2.out _ (UInt8.ofNat c) (by rw [hcu.out]; exact hown') hgrow3 rfl rfl rfl); clear hown' hgrow3 hnil3)
              go_roundw
              case rel => exact ⟨k + 1, ⟨neg, e - 1, 3, exp, down, ds ++ [UInt8.ofNat c]⟩, HM3.out, HL.out _ HY.out (by simp only; omega) (by simp only; omega) p1 p2 (by simp only; omega) (by simp), rfl, rfl, rfl⟩
              case measure => rw [iterPos_of HM3.out.it, hpos]; omega
          · by_cases h01 : at_ = 0 ∨ at_ = 1
            · have HY : Aside0 (pstep k c ⟨neg, e, at_, exp, down, ds⟩ = some ⟨neg, e, 1, exp, down, ds ++ [UInt8.ofNat c]⟩) := ⟨by simp only [pstep]; rw [if_neg HK.out, if_pos HD.out, if_neg h23, if_pos h01]⟩
              clear h23
              rcases h01 with rfl | rfl
              all_goals
                rcases hk1 with hk1 | ⟨hk1, n43, n45⟩
              all_goals
                go_wp2_with (at_builtin; refine wpList_append_own _ rfl (.tmp 50) (.tmp 53) 53 rfl (w.heap.size + 3) 5 i0 (.int .u8 0) 1 1 Tryd.underlying53 hi hz0 hz1 hz2 rfl (by decide) _ _ _ rfl (HM1.out.own.alloc _) _ 1 1 [.int .u8 (c : Int)] rfl rfl (cell_one_new _ _ _ _ (by simp)) (fun x hx => by simp at hx; rcases hx with rfl; rfl) (by simp only [maxLen]; omega) (by simp only [Nat.mul_one]; omega) (by simp; omega) ?_; intro v' w3 hown' hgrow3 hnil3; have HM3 := Aside0.mk (pmem_add (y := ⟨neg, e, 1, exp, down, ds ++ [UInt8.ofNat c]⟩) HM1.out _ (UInt8.ofNat c) (by rw [hcu.out]; exact hown') hgrow3 rfl rfl rfl); clear hown' hgrow3 hnil3)
                go_roundw
                case rel => exact ⟨k + 1, ⟨neg, e, 1, exp, down, ds ++ [UInt8.ofNat c]⟩, HM3.out, HL.out _ HY.out (by simp only; omega) (by simp only; omega) p1 p2 (by simp only; omega) (by simp), rfl, rfl, rfl⟩
                case measure => rw [iterPos_of HM3.out.it, hpos]; omega
            · have t0 : ((at_ : Int) == 0) = false := by rw [beq_eq_false_iff_ne]; omega
              have t1 : ((at_ : Int) == 1) = false := by rw [beq_eq_false_iff_ne]; omega
              have t2 : ((at_ : Int) == 2) = false := by rw [beq_eq_false_iff_ne]; omega
              have t3 : ((at_ : Int) == 3) = false := by rw [beq_eq_false_iff_ne]; omega
              have HY : Aside0 (pstep k c ⟨neg, e, at_, exp, down, ds⟩ = some ⟨neg, e, 6, min (10 * exp + ((c : Int) - 48)) 1099511627776, down, ds⟩) := ⟨by simp only [pstep]; rw [if_neg HK.out, if_pos HD.out, if_neg h23, if_neg h01]⟩
              have hmin : min (10 * exp + ((c : Int) - 48)) 1099511627776 ≤ 1099511627776 ∧ 0 ≤ min (10 * exp + ((c : Int) - 48)) 1099511627776 := by omega
              have HM := Aside0.mk hmin
              clear h23 h01 hmin
              rcases hk1 with hk1 | ⟨hk1, n43, n45⟩
              all_goals
                go_wp2
                go_roundw
                case rel => exact ⟨k + 1, ⟨neg, e, 6, min (10 * exp + ((c : Int) - 48)) 1099511627776, down, ds⟩, pmem_same HM1.out rfl rfl rfl, HL.out _ HY.out (by simp only; omega) (by simp only; omega) HM.out.2 HM.out.1 (by simp only; omega) (by simp only; omega), rfl, rfl, rfl⟩
                case measure => rw [iterPos_of HM1.out.it, hpos]; omega
        · have nd : (decide ((48 : Int) ≤ (c : Int)) = true ∧ decide ((c : Int) ≤ 57) = false ∧ ¬ (c : Int) ≤ 57) ∨ (decide ((48 : Int) ≤ (c : Int)) = false ∧ ¬ (48 : Int) ≤ (c : Int)) := by
            simp only [decide_eq_true_eq, decide_eq_false_iff_not]
            omega
          have HD := Aside0.mk hd
          clear hd
          by_cases hdot : c = 46 ∧ at_ ≤ 1
          · obtain ⟨rfl, hat⟩ := hdot
            have t1 : (at_ : Int) ≤ 1 := by omega
            have t2 : decide ((at_ : Int) ≤ 1) = true := decide_eq_true t1
            have HY : Aside0 (pstep k 46 ⟨neg, e, at_, exp, down, ds⟩ = some ⟨neg, e, 2, exp, down, ds⟩) := ⟨by simp only [pstep]; rw [if_neg HK.out, if_neg HD.out, if_pos ⟨trivial, hat⟩]⟩
            clear nd
            rcases hk1 with hk1 | ⟨hk1, _, _⟩
            all_goals
              go_wp2
              go_roundw
              case rel => exact ⟨k + 1, ⟨neg, e, 2, exp, down, ds⟩, pmem_same HM1.out rfl rfl rfl, HL.out _ HY.out (by simp only; omega) (by simp only; omega) p1 p2 (by simp only; omega) (by simp only; omega), rfl, rfl, rfl⟩
              case measure => rw [iterPos_of HM1.out.it, hpos]; omega
          · by_cases hmark : (c = 101 ∨ c = 69) ∧ at_ < 4 ∧ 0 < ds.length
            · obtain ⟨hc2, hat, hlen⟩ := hmark
              have t1 : (at_ : Int) < 4 := by omega
              have t2 : decide ((at_ : Int) < 4) = true := decide_eq_true t1
              have l1 : (0 : Int) < (ds.length : Int) := by omega
              have l2 : decide ((0 : Int) < (ds.length : Int)) = true := decide_eq_true l1
              have HY : Aside0 (pstep k c ⟨neg, e, at_, exp, down, ds⟩ = some ⟨neg, e, 4, exp, down, ds⟩) := ⟨by simp only [pstep]; rw [if_neg HK.out, if_neg HD.out, if_neg hdot, if_pos ⟨hc2, hat, hlen⟩]⟩
              clear nd hdot hlen
              rcases hc2 with rfl | rfl
              all_goals
                rcases hk1 with hk1 | ⟨hk1, _, _⟩
              all_goals
                go_wp2
                go_roundw
                case rel => exact ⟨k + 1, ⟨neg, e, 4, exp, down, ds⟩, pmem_same HM1.out rfl rfl rfl, HL.out _ HY.out (by simp only; omega) (by simp only; omega) p1 p2 (by simp only; omega) (by simp only; omega), rfl, rfl, rfl⟩
                case measure => rw [iterPos_of HM1.out.it, hpos]; omega
            · by_cases hsign : (c = 43 ∨ c = 45) ∧ at_ = 4
              · obtain ⟨hc2, rfl⟩ := hsign
                have HY : Aside0 (pstep k c ⟨neg, e, 4, exp, down, ds⟩ = some ⟨neg, e, 5, exp, c == 45, ds⟩) := ⟨by simp only [pstep]; rw [if_neg HK.out, if_neg HD.out, if_neg hdot, if_neg hmark, if_pos ⟨hc2, trivial⟩]⟩
                clear nd hdot hmark
                rcases hk1 with hk1 | ⟨hk1, n43, n45⟩
                · rcases hc2 with rfl | rfl
                  all_goals
                    go_wp2
                    go_roundw
                    case rel => exact ⟨k + 1, ⟨neg, e, 5, exp, _, ds⟩, pmem_same HM1.out rfl rfl rfl, HL.out _ HY.out (by simp only; omega) (by simp only; omega) p1 p2 (by simp only; omega) (by simp only; omega), rfl, rfl, rfl⟩
                    case measure => rw [iterPos_of HM1.out.it, hpos]; omega
                · exfalso
                  rw [beq_eq_false_iff_ne] at n43 n45
                  omega
              · have HY : Aside0 (partsF s.data.toList = none) := ⟨HN.out (by simp only [pstep]; rw [if_neg HK.out, if_neg HD.out, if_neg hdot, if_neg hmark, if_neg hsign])⟩
                by_cases c46 : c = 46
                · subst c46
                  have t1 : ¬ (at_ : Int) ≤ 1 := by omega
                  have t2 : decide ((at_ : Int) ≤ 1) = false := decide_eq_false t1
                  clear nd hdot hmark hsign
                  rcases hk1 with hk1 | ⟨hk1, _, _⟩
                  all_goals
                    go_wp2
                    obtain ⟨W2, hW2⟩ : ∃ W2, W2 = ((W1.setCell ⟨w.heap.size, 0, none⟩ (.bool neg)).setCell ⟨w.heap.size, 1, none⟩ (.string ⟨#[]⟩)).setCell ⟨w.heap.size, 2, none⟩ (.int .i64 e) := ⟨_, rfl⟩
                    have hb2 : W2.heap[w.heap.size]? = some (.cells #[.bool neg, .string ⟨#[]⟩, .int .i64 e] 39 (0, 0)) := by rw [hW2]; exact store3 HM1.out.br _ _ _
                    have hB2 : Below w.heap.size w W2 := by rw [hW2]; exact below_store3 HM1.out.bel (Nat.le_refl _) _ _ _
                    rw [← hW2]
                    have q0 := (blk3_cell hb2 0).trans rfl
                    have q1 := (blk3_cell hb2 1).trans rfl
                    have q2 := (blk3_cell hb2 2).trans rfl
                    exact bodyPost_ret (v := .tuple #[.agg #[.bool neg, .string ⟨#[]⟩, .int .i64 e], .bool false]) (by simp [results, Tryd.results21, go_sem, q0, q1, q2]) rfl (Or.inr ⟨_, _, _, HY.out, rfl, hB2⟩)
                · by_cases ce : c = 101 ∨ c = 69
                  · have hq : (¬ (at_ : Int) < 4 ∧ decide ((at_ : Int) < 4) = false) ∨ (((at_ : Int) < 4 ∧ decide ((at_ : Int) < 4) = true) ∧ ¬ (0 : Int) < (ds.length : Int) ∧ decide ((0 : Int) < (ds.length : Int)) = false) := by
                      simp only [decide_eq_true_eq, decide_eq_false_iff_not]
                      omega
                    clear nd hdot hmark hsign c46
                    rcases ce with rfl | rfl
                    all_goals
                      rcases hk1 with hk1 | ⟨hk1, _, _⟩
                    all_goals
                      rcases hq with ⟨q1, q2⟩ | ⟨⟨q1, q2⟩, q3, q4⟩
                    all_goals
                      go_wp2
                      obtain ⟨W2, hW2⟩ : ∃ W2, W2 = ((W1.setCell ⟨w.heap.size, 0, none⟩ (.bool neg)).setCell ⟨w.heap.size, 1, none⟩ (.string ⟨#[]⟩)).setCell ⟨w.heap.size, 2, none⟩ (.int .i64 e) := ⟨_, rfl⟩
                      have hb2 : W2.heap[w.heap.size]? = some (.cells #[.bool neg, .string ⟨#[]⟩, .int .i64 e] 39 (0, 0)) := by rw [hW2]; exact store3 HM1.out.br _ _ _
                      have hB2 : Below w.heap.size w W2 := by rw [hW2]; exact below_store3 HM1.out.bel (Nat.le_refl _) _ _ _
                      rw [← hW2]
                      have q0 := (blk3_cell hb2 0).trans rfl
                      have q1 := (blk3_cell hb2 1).trans rfl
                      have q2 := (blk3_cell hb2 2).trans rfl
                      exact bodyPost_ret (v := .tuple #[.agg #[.bool neg, .string ⟨#[]⟩, .int .i64 e], .bool false]) (by simp [results, Tryd.results21, go_sem, q0, q1, q2]) rfl (Or.inr ⟨_, _, _, HY.out, rfl, hB2⟩)
                  · have n46 : ((c : Int) == 46) = false := by rw [beq_eq_false_iff_ne]; omega
                    have n101 : ((c : Int) == 101) = false := by rw [beq_eq_false_iff_ne]; omega
                    have n69 : ((c : Int) == 69) = false := by rw [beq_eq_false_iff_ne]; omega
                    have hq : (((k : Int) == 0) = false ∧ ((at_ : Int) == 4) = false) ∨ (((c : Int) == 43) = false ∧ ((c : Int) == 45) = false) := by
                      simp only [beq_eq_false_iff_ne]
                      have := HK.out
                      omega
                    clear hdot hmark hsign c46 ce hk1
                    rcases nd with ⟨g1, g2, g3⟩ | ⟨g1, g2⟩
                    all_goals
                      rcases hq with ⟨q1, q2⟩ | ⟨q1, q2⟩
                    · have n43 : ((c : Int) == 43) = false := by rw [beq_eq_false_iff_ne]; omega
                      have n45 : ((c : Int) == 45) = false := by rw [beq_eq_false_iff_ne]; omega
                      go_wp2
                      obtain ⟨W2, hW2⟩ : ∃ W2, W2 = ((W1.setCell ⟨w.heap.size, 0, none⟩ (.bool neg)).setCell ⟨w.heap.size, 1, none⟩ (.string ⟨#[]⟩)).setCell ⟨w.heap.size, 2, none⟩ (.int .i64 e) := ⟨_, rfl⟩
                      have hb2 : W2.heap[w.heap.size]? = some (.cells #[.bool neg, .string ⟨#[]⟩, .int .i64 e] 39 (0, 0)) := by rw [hW2]; exact store3 HM1.out.br _ _ _
                      have hB2 : Below w.heap.size w W2 := by rw [hW2]; exact below_store3 HM1.out.bel (Nat.le_refl _) _ _ _
                      rw [← hW2]
                      have q0 := (blk3_cell hb2 0).trans rfl
                      have q1 := (blk3_cell hb2 1).trans rfl
                      have q2 := (blk3_cell hb2 2).trans rfl
                      exact bodyPost_ret (v := .tuple #[.agg #[.bool neg, .string ⟨#[]⟩, .int .i64 e], .bool false]) (by simp [results, Tryd.results21, go_sem, q0, q1, q2]) rfl (Or.inr ⟨_, _, _, HY.out, rfl, hB2⟩)
                    · by_cases hk0 : k = 0
                      · have zk : ((k : Int) == 0) = true := by rw [hk0]; rfl
                        go_wp2
                        obtain ⟨W2, hW2⟩ : ∃ W2, W2 = ((W1.setCell ⟨w.heap.size, 0, none⟩ (.bool neg)).setCell ⟨w.heap.size, 1, none⟩ (.string ⟨#[]⟩)).setCell ⟨w.heap.size, 2, none⟩ (.int .i64 e) := ⟨_, rfl⟩
                        have hb2 : W2.heap[w.heap.size]? = some (.cells #[.bool neg, .string ⟨#[]⟩, .int .i64 e] 39 (0, 0)) := by rw [hW2]; exact store3 HM1.out.br _ _ _
                        have hB2 : Below w.heap.size w W2 := by rw [hW2]; exact below_store3 HM1.out.bel (Nat.le_refl _) _ _ _
                        rw [← hW2]
                        have q0 := (blk3_cell hb2 0).trans rfl
                        have q1 := (blk3_cell hb2 1).trans rfl
                        have q2 := (blk3_cell hb2 2).trans rfl
                        exact bodyPost_ret (v := .tuple #[.agg #[.bool neg, .string ⟨#[]⟩, .int .i64 e], .bool false]) (by simp [results, Tryd.results21, go_sem, q0, q1, q2]) rfl (Or.inr ⟨_, _, _, HY.out, rfl, hB2⟩)
                      · have zk : ((k : Int) == 0) = false := by rw [beq_eq_false_iff_ne]; omega
                        go_wp2
                        obtain ⟨W2, hW2⟩ : ∃ W2, W2 = ((W1.setCell ⟨w.heap.size, 0, none⟩ (.bool neg)).setCell ⟨w.heap.size, 1, none⟩ (.string ⟨#[]⟩)).setCell ⟨w.heap.size, 2, none⟩ (.int .i64 e) := ⟨_, rfl⟩
                        have hb2 : W2.heap[w.heap.size]? = some (.cells #[.bool neg, .string ⟨#[]⟩, .int .i64 e] 39 (0, 0)) := by rw [hW2]; exact store3 HM1.out.br _ _ _
                        have hB2 : Below w.heap.size w W2 := by rw [hW2]; exact below_store3 HM1.out.bel (Nat.le_refl _) _ _ _
                        rw [← hW2]
                        have q0 := (blk3_cell hb2 0).trans rfl
                        have q1 := (blk3_cell hb2 1).trans rfl
                        have q2 := (blk3_cell hb2 2).trans rfl
                        exact bodyPost_ret (v := .tuple #[.agg #[.bool neg, .string ⟨#[]⟩, .int .i64 e], .bool false]) (by simp [results, Tryd.results21, go_sem, q0, q1, q2]) rfl (Or.inr ⟨_, _, _, HY.out, rfl, hB2⟩)
                    · by_cases h43 : c = 43
                      · subst h43
                        go_wp2
                        obtain ⟨W2, hW2⟩ : ∃ W2, W2 = ((W1.setCell ⟨w.heap.size, 0, none⟩ (.bool neg)).setCell ⟨w.heap.size, 1, none⟩ (.string ⟨#[]⟩)).setCell ⟨w.heap.size, 2, none⟩ (.int .i64 e) := ⟨_, rfl⟩
                        have hb2 : W2.heap[w.heap.size]? = some (.cells #[.bool neg, .string ⟨#[]⟩, .int .i64 e] 39 (0, 0)) := by rw [hW2]; exact store3 HM1.out.br _ _ _
                        have hB2 : Below w.heap.size w W2 := by rw [hW2]; exact below_store3 HM1.out.bel (Nat.le_refl _) _ _ _
                        rw [← hW2]
                        have q0 := (blk3_cell hb2 0).trans rfl
                        have q1 := (blk3_cell hb2 1).trans rfl
                        have q2 := (blk3_cell hb2 2).trans rfl
                        exact bodyPost_ret (v := .tuple #[.agg #[.bool neg, .string ⟨#[]⟩, .int .i64 e], .bool false]) (by simp [results, Tryd.results21, go_sem, q0, q1, q2]) rfl (Or.inr ⟨_, _, _, HY.out, rfl, hB2⟩)
                      · have n43 : ((c : Int) == 43) = false := by rw [beq_eq_false_iff_ne]; omega
                        by_cases h45 : c = 45
                        · subst h45
                          go_wp2
                          obtain ⟨W2, hW2⟩ : ∃ W2, W2 = ((W1.setCell ⟨w.heap.size, 0, none⟩ (.bool neg)).setCell ⟨w.heap.size, 1, none⟩ (.string ⟨#[]⟩)).setCell ⟨w.heap.size, 2, none⟩ (.int .i64 e) := ⟨_, rfl⟩
                          have hb2 : W2.heap[w.heap.size]? = some (.cells #[.bool neg, .string ⟨#[]⟩, .int .i64 e] 39 (0, 0)) := by rw [hW2]; exact store3 HM1.out.br _ _ _
                          have hB2 : Below w.heap.size w W2 := by rw [hW2]; exact below_store3 HM1.out.bel (Nat.le_refl _) _ _ _
                          rw [← hW2]
                          have q0 := (blk3_cell hb2 0).trans rfl
                          have q1 := (blk3_cell hb2 1).trans rfl
                          have q2 := (blk3_cell hb2 2).trans rfl
                          exact bodyPost_ret (v := .tuple #[.agg #[.bool neg, .string ⟨#[]⟩, .int .i64 e], .bool false]) (by simp [results, Tryd.results21, go_sem, q0, q1, q2]) rfl (Or.inr ⟨_, _, _, HY.out, rfl, hB2⟩)
                        · have n45 : ((c : Int) == 45) = false := by rw [beq_eq_false_iff_ne]; omega
                          go_wp2
                          obtain ⟨W2, hW2⟩ : ∃ W2, W2 = ((W1.setCell ⟨w.heap.size, 0, none⟩ (.bool neg)).setCell ⟨w.heap.size, 1, none⟩ (.string ⟨#[]⟩)).setCell ⟨w.heap.size, 2, none⟩ (.int .i64 e) := ⟨_, rfl⟩
                          have hb2 : W2.heap[w.heap.size]? = some (.cells #[.bool neg, .string ⟨#[]⟩, .int .i64 e] 39 (0, 0)) := by rw [hW2]; exact store3 HM1.out.br _ _ _
                          have hB2 : Below w.heap.size w W2 := by rw [hW2]; exact below_store3 HM1.out.bel (Nat.le_refl _) _ _ _
                          rw [← hW2]
                          have q0 := (blk3_cell hb2 0).trans rfl
                          have q1 := (blk3_cell hb2 1).trans rfl
                          have q2 := (blk3_cell hb2 2).trans rfl
                          exact bodyPost_ret (v := .tuple #[.agg #[.bool neg, .string ⟨#[]⟩, .int .i64 e], .bool false]) (by simp [results, Tryd.results21, go_sem, q0, q1, q2]) rfl (Or.inr ⟨_, _, _, HY.out, rfl, hB2⟩)
                    · by_cases hk0 : k = 0
                      · have zk : ((k : Int) == 0) = true := by rw [hk0]; rfl
                        go_wp2
                        obtain ⟨W2, hW2⟩ : ∃ W2, W2 = ((W1.setCell ⟨w.heap.size, 0, none⟩ (.bool neg)).setCell ⟨w.heap.size, 1, none⟩ (.string ⟨#[]⟩)).setCell ⟨w.heap.size, 2, none⟩ (.int .i64 e) := ⟨_, rfl⟩
                        have hb2 : W2.heap[w.heap.size]? = some (.cells #[.bool neg, .string ⟨#[]⟩, .int .i64 e] 39 (0, 0)) := by rw [hW2]; exact store3 HM1.out.br _ _ _
                        have hB2 : Below w.heap.size w W2 := by rw [hW2]; exact below_store3 HM1.out.bel (Nat.le_refl _) _ _ _
                        rw [← hW2]
                        have q0 := (blk3_cell hb2 0).trans rfl
                        have q1 := (blk3_cell hb2 1).trans rfl
                        have q2 := (blk3_cell hb2 2).trans rfl
                        exact bodyPost_ret (v := .tuple #[.agg #[.bool neg, .string ⟨#[]⟩, .int .i64 e], .bool false]) (by simp [results, Tryd.results21, go_sem, q0, q1, q2]) rfl (Or.inr ⟨_, _, _, HY.out, rfl, hB2⟩)
                      · have zk : ((k : Int) == 0) = false := by rw [beq_eq_false_iff_ne]; omega
                        go_wp2
                        obtain ⟨W2, hW2⟩ : ∃ W2, W2 = ((W1.setCell ⟨w.heap.size, 0, none⟩ (.bool neg)).setCell ⟨w.heap.size, 1, none⟩ (.string ⟨#[]⟩)).setCell ⟨w.heap.size, 2, none⟩ (.int .i64 e) := ⟨_, rfl⟩
                        have hb2 : W2.heap[w.heap.size]? = some (.cells #[.bool neg, .string ⟨#[]⟩, .int .i64 e] 39 (0, 0)) := by rw [hW2]; exact store3 HM1.out.br _ _ _
                        have hB2 : Below w.heap.size w W2 := by rw [hW2]; exact below_store3 HM1.out.bel (Nat.le_refl _) _ _ _
                        rw [← hW2]
                        have q0 := (blk3_cell hb2 0).trans rfl
                        have q1 := (blk3_cell hb2 1).trans rfl
                        have q2 := (blk3_cell hb2 2).trans rfl
                        exact bodyPost_ret (v := .tuple #[.agg #[.bool neg, .string ⟨#[]⟩, .int .i64 e], .bool false]) (by simp [results, Tryd.results21, go_sem, q0, q1, q2]) rfl (Or.inr ⟨_, _, _, HY.out, rfl, hB2⟩)
    · obtain rfl : k = s.size := by have := hL.le; omega
      have hnx : ∀ ty, (Instr.next (.pointer (some ⟨w.heap.size + 2, 0, none⟩)) true ty).run Tryd.prog wr = _ := fun ty => Lib.run_next_end_at wr (w.heap.size + 2) s s.size ty hM.it hlt
      have HY := Aside0.mk (partsF_yes hL)
      have HN := Aside0.mk (partsF_no hL)
      obtain ⟨neg, e, at_, exp, down, ds⟩ := x
      obtain ⟨A0, cap, rfl⟩ := slice_of hM.own
      have e1 := hL.e1; have e2 := hL.e2; have p1 := hL.p1; have p2 := hL.p2; have a6 := hL.at6; have dl := hL.dl
      simp only at e1 e2 p1 p2 a6 dl
      cases down with
      | false =>
        have hM2 := pmem_store (y := ⟨neg, e + exp, at_, exp, false, ds⟩) hM 2 (.int .i64 (e + exp)) rfl rfl
        have hcv := own_text_of hM2.own
        have c0 : wr.cell? ⟨w.heap.size + 1, 0, none⟩ = some (.bool neg) := (blk3_cell hM.bx 0).trans rfl
        have c1 : wr.cell? ⟨w.heap.size + 1, 1, none⟩ = some (.string ⟨#[]⟩) := (blk3_cell hM.bx 1).trans rfl
        have c2 : wr.cell? ⟨w.heap.size + 1, 2, none⟩ = some (.int .i64 e) := (blk3_cell hM.bx 2).trans rfl
        have fz : ∀ i, wr.frozen? ⟨w.heap.size + 1, i, none⟩ = false := fun i => frozen_of_row _ _ _ _ _ hM.bx
        have r0 : wr.cell? ⟨w.heap.size, 0, none⟩ = some (.bool false) := (blk3_cell hM.br 0).trans rfl
        have r1 : wr.cell? ⟨w.heap.size, 1, none⟩ = some (.string ⟨#[]⟩) := (blk3_cell hM.br 1).trans rfl
        have r2 : wr.cell? ⟨w.heap.size, 2, none⟩ = some (.int .i64 0) := (blk3_cell hM.br 2).trans rfl
        have rz : ∀ i, wr.frozen? ⟨w.heap.size, i, none⟩ = false := fun i => frozen_of_row _ _ _ _ _ hM.br
        have HM := Aside0.mk hM
        clear hM hM2 hL
        by_cases hg : 0 < ds.length ∧ at_ ≠ 4 ∧ at_ ≠ 5
        · have HP := Aside0.mk (HY.out hg)
          have l1 : (0 : Int) < (ds.length : Int) := by omega
          have l2 : decide ((0 : Int) < (ds.length : Int)) = true := decide_eq_true l1
          have n4 : ((at_ : Int) != 4) = true := by rw [bne_iff_ne]; omega
          have n5 : ((at_ : Int) != 5) = true := by rw [bne_iff_ne]; omega
          clear hg HY HN
          go_wp2
          obtain ⟨W2, hW2⟩ : ∃ W2, W2 = ((((wr.setCell ⟨w.heap.size + 1, 2, none⟩ (.int .i64 (e + exp))).setCell ⟨w.heap.size + 1, 1, none⟩ (.string ⟨ds.toArray⟩)).setCell ⟨w.heap.size, 0, none⟩ (.bool neg)).setCell ⟨w.heap.size, 1, none⟩ (.string ⟨ds.toArray⟩)).setCell ⟨w.heap.size, 2, none⟩ (.int .i64 (e + exp)) := ⟨_, rfl⟩
          have hb2 : W2.heap[w.heap.size]? = some (.cells #[.bool neg, .string ⟨ds.toArray⟩, .int .i64 (e + exp)] 39 (0, 0)) := by rw [hW2]; exact store3 (two_other HM.out.br _ _) _ _ _
          have hB2 : Below w.heap.size w W2 := by rw [hW2]; exact below_store3 (below_two HM.out.bel _ _) (Nat.le_refl _) _ _ _
          rw [← hW2]
          have q0 := (blk3_cell hb2 0).trans rfl
          have q1 := (blk3_cell hb2 1).trans rfl
          have q2 := (blk3_cell hb2 2).trans rfl
          exact bodyPost_ret (v := .tuple #[.agg #[.bool neg, .string ⟨ds.toArray⟩, .int .i64 (e + exp)], .bool true]) (by simp [results, Tryd.results21, go_sem, q0, q1, q2]) rfl (Or.inl ⟨_, _, _, HP.out, rfl, hB2⟩)
        · have HP := Aside0.mk (HN.out hg)
          clear HY HN
          by_cases hl : 0 < ds.length
          · have l1 : (0 : Int) < (ds.length : Int) := by omega
            have l2 : decide ((0 : Int) < (ds.length : Int)) = true := decide_eq_true l1
            have h45 : at_ = 4 ∨ at_ = 5 := by omega
            clear hg hl
            rcases h45 with rfl | rfl
            all_goals
              go_wp2
              obtain ⟨W2, hW2⟩ : ∃ W2, W2 = ((((wr.setCell ⟨w.heap.size + 1, 2, none⟩ (.int .i64 (e + exp))).setCell ⟨w.heap.size + 1, 1, none⟩ (.string ⟨ds.toArray⟩)).setCell ⟨w.heap.size, 0, none⟩ (.bool neg)).setCell ⟨w.heap.size, 1, none⟩ (.string ⟨ds.toArray⟩)).setCell ⟨w.heap.size, 2, none⟩ (.int .i64 (e + exp)) := ⟨_, rfl⟩
              have hb2 : W2.heap[w.heap.size]? = some (.cells #[.bool neg, .string ⟨ds.toArray⟩, .int .i64 (e + exp)] 39 (0, 0)) := by rw [hW2]; exact store3 (two_other HM.out.br _ _) _ _ _
              have hB2 : Below w.heap.size w W2 := by rw [hW2]; exact below_store3 (below_two HM.out.bel _ _) (Nat.le_refl _) _ _ _
              rw [← hW2]
              have q0 := (blk3_cell hb2 0).trans rfl
              have q1 := (blk3_cell hb2 1).trans rfl
              have q2 := (blk3_cell hb2 2).trans rfl
              exact bodyPost_ret (v := .tuple #[.agg #[.bool neg, .string ⟨ds.toArray⟩, .int .i64 (e + exp)], .bool false]) (by simp [results, Tryd.results21, go_sem, q0, q1, q2]) rfl (Or.inr ⟨_, _, _, HP.out, rfl, hB2⟩)
          · have l1 : ¬ (0 : Int) < (ds.length : Int) := by omega
            have l2 : decide ((0 : Int) < (ds.length : Int)) = false := decide_eq_false l1
            clear hg hl
            go_wp2
            obtain ⟨W2, hW2⟩ : ∃ W2, W2 = ((((wr.setCell ⟨w.heap.size + 1, 2, none⟩ (.int .i64 (e + exp))).setCell ⟨w.heap.size + 1, 1, none⟩ (.string ⟨ds.toArray⟩)).setCell ⟨w.heap.size, 0, none⟩ (.bool neg)).setCell ⟨w.heap.size, 1, none⟩ (.string ⟨ds.toArray⟩)).setCell ⟨w.heap.size, 2, none⟩ (.int .i64 (e + exp)) := ⟨_, rfl⟩
            have hb2 : W2.heap[w.heap.size]? = some (.cells #[.bool neg, .string ⟨ds.toArray⟩, .int .i64 (e + exp)] 39 (0, 0)) := by rw [hW2]; exact store3 (two_other HM.out.br _ _) _ _ _
            have hB2 : Below w.heap.size w W2 := by rw [hW2]; exact below_store3 (below_two HM.out.bel _ _) (Nat.le_refl _) _ _ _
            rw [← hW2]
            have q0 := (blk3_cell hb2 0).trans rfl
            have q1 := (blk3_cell hb2 1).trans rfl
            have q2 := (blk3_cell hb2 2).trans rfl
            exact bodyPost_ret (v := .tuple #[.agg #[.bool neg, .string ⟨ds.toArray⟩, .int .i64 (e + exp)], .bool false]) (by simp [results, Tryd.results21, go_sem, q0, q1, q2]) rfl (Or.inr ⟨_, _, _, HP.out, rfl, hB2⟩)
      | true =>
        have hM2 := pmem_store (y := ⟨neg, e + -exp, at_, exp, true, ds⟩) hM 2 (.int .i64 (e + -exp)) rfl rfl
        have hcv := own_text_of hM2.own
        have c0 : wr.cell? ⟨w.heap.size + 1, 0, none⟩ = some (.bool neg) := (blk3_cell hM.bx 0).trans rfl
        have c1 : wr.cell? ⟨w.heap.size + 1, 1, none⟩ = some (.string ⟨#[]⟩) := (blk3_cell hM.bx 1).trans rfl
        have c2 : wr.cell? ⟨w.heap.size + 1, 2, none⟩ = some (.int .i64 e) := (blk3_cell hM.bx 2).trans rfl
        have fz : ∀ i, wr.frozen? ⟨w.heap.size + 1, i, none⟩ = false := fun i => frozen_of_row _ _ _ _ _ hM.bx
        have r0 : wr.cell? ⟨w.heap.size, 0, none⟩ = some (.bool false) := (blk3_cell hM.br 0).trans rfl
        have r1 : wr.cell? ⟨w.heap.size, 1, none⟩ = some (.string ⟨#[]⟩) := (blk3_cell hM.br 1).trans rfl
        have r2 : wr.cell? ⟨w.heap.size, 2, none⟩ = some (.int .i64 0) := (blk3_cell hM.br 2).trans rfl
        have rz : ∀ i, wr.frozen? ⟨w.heap.size, i, none⟩ = false := fun i => frozen_of_row _ _ _ _ _ hM.br
        have HM := Aside0.mk hM
        clear hM hM2 hL
        by_cases hg : 0 < ds.length ∧ at_ ≠ 4 ∧ at_ ≠ 5
        · have HP := Aside0.mk (HY.out hg)
          have l1 : (0 : Int) < (ds.length : Int) := by omega
          have l2 : decide ((0 : Int) < (ds.length : Int)) = true := decide_eq_true l1
          have n4 : ((at_ : Int) != 4) = true := by rw [bne_iff_ne]; omega
          have n5 : ((at_ : Int) != 5) = true := by rw [bne_iff_ne]; omega
          clear hg HY HN
          go_wp2
          obtain ⟨W2, hW2⟩ : ∃ W2, W2 = ((((wr.setCell ⟨w.heap.size + 1, 2, none⟩ (.int .i64 (e + -exp))).setCell ⟨w.heap.size + 1, 1, none⟩ (.string ⟨ds.toArray⟩)).setCell ⟨w.heap.size, 0, none⟩ (.bool neg)).setCell ⟨w.heap.size, 1, none⟩ (.string ⟨ds.toArray⟩)).setCell ⟨w.heap.size, 2, none⟩ (.int .i64 (e + -exp)) := ⟨_, rfl⟩
          have hb2 : W2.heap[w.heap.size]? = some (.cells #[.bool neg, .string ⟨ds.toArray⟩, .int .i64 (e + -exp)] 39 (0, 0)) := by rw [hW2]; exact store3 (two_other HM.out.br _ _) _ _ _
          have hB2 : Below w.heap.size w W2 := by rw [hW2]; exact below_store3 (below_two HM.out.bel _ _) (Nat.le_refl _) _ _ _
          rw [← hW2]
          have q0 := (blk3_cell hb2 0).trans rfl
          have q1 := (blk3_cell hb2 1).trans rfl
          have q2 := (blk3_cell hb2 2).trans rfl
          exact bodyPost_ret (v := .tuple #[.agg #[.bool neg, .string ⟨ds.toArray⟩, .int .i64 (e + -exp)], .bool true]) (by simp [results, Tryd.results21, go_sem, q0, q1, q2]) rfl (Or.inl ⟨_, _, _, HP.out, rfl, hB2⟩)
        · have HP := Aside0.mk (HN.out hg)
          clear HY HN
          by_cases hl : 0 < ds.length
          · have l1 : (0 : Int) < (ds.length : Int) := by omega
            have l2 : decide ((0 : Int) < (ds.length : Int)) = true := decide_eq_true l1
            have h45 : at_ = 4 ∨ at_ = 5 := by omega
            clear hg hl
            rcases h45 with rfl | rfl
            all_goals
              go_wp2
              obtain ⟨W2, hW2⟩ : ∃ W2, W2 = ((((wr.setCell ⟨w.heap.size + 1, 2, none⟩ (.int .i64 (e + -exp))).setCell ⟨w.heap.size + 1, 1, none⟩ (.string ⟨ds.toArray⟩)).setCell ⟨w.heap.size, 0, none⟩ (.bool neg)).setCell ⟨w.heap.size, 1, none⟩ (.string ⟨ds.toArray⟩)).setCell ⟨w.heap.size, 2, none⟩ (.int .i64 (e + -exp)) := ⟨_, rfl⟩
              have hb2 : W2.heap[w.heap.size]? = some (.cells #[.bool neg, .string ⟨ds.toArray⟩, .int .i64 (e + -exp)] 39 (0, 0)) := by rw [hW2]; exact store3 (two_other HM.out.br _ _) _ _ _
              have hB2 : Below w.heap.size w W2 := by rw [hW2]; exact below_store3 (below_two HM.out.bel _ _) (Nat.le_refl _) _ _ _
              rw [← hW2]
              have q0 := (blk3_cell hb2 0).trans rfl
              have q1 := (blk3_cell hb2 1).trans rfl
              have q2 := (blk3_cell hb2 2).trans rfl
              exact bodyPost_ret (v := .tuple #[.agg #[.bool neg, .string ⟨ds.toArray⟩, .int .i64 (e + -exp)], .bool false]) (by simp [results, Tryd.results21, go_sem, q0, q1, q2]) rfl (Or.inr ⟨_, _, _, HP.out, rfl, hB2⟩)
          · have l1 : ¬ (0 : Int) < (ds.length : Int) := by omega
            have l2 : decide ((0 : Int) < (ds.length : Int)) = false := decide_eq_false l1
            clear hg hl
            go_wp2
            obtain ⟨W2, hW2⟩ : ∃ W2, W2 = ((((wr.setCell ⟨w.heap.size + 1, 2, none⟩ (.int .i64 (e + -exp))).setCell ⟨w.heap.size + 1, 1, none⟩ (.string ⟨ds.toArray⟩)).setCell ⟨w.heap.size, 0, none⟩ (.bool neg)).setCell ⟨w.heap.size, 1, none⟩ (.string ⟨ds.toArray⟩)).setCell ⟨w.heap.size, 2, none⟩ (.int .i64 (e + -exp)) := ⟨_, rfl⟩
            have hb2 : W2.heap[w.heap.size]? = some (.cells #[.bool neg, .string ⟨ds.toArray⟩, .int .i64 (e + -exp)] 39 (0, 0)) := by rw [hW2]; exact store3 (two_other HM.out.br _ _) _ _ _
            have hB2 : Below w.heap.size w W2 := by rw [hW2]; exact below_store3 (below_two HM.out.bel _ _) (Nat.le_refl _) _ _ _
            rw [← hW2]
            have q0 := (blk3_cell hb2 0).trans rfl
            have q1 := (blk3_cell hb2 1).trans rfl
            have q2 := (blk3_cell hb2 2).trans rfl
            exact bodyPost_ret (v := .tuple #[.agg #[.bool neg, .string ⟨ds.toArray⟩, .int .i64 (e + -exp)], .bool false]) (by simp [results, Tryd.results21, go_sem, q0, q1, q2]) rfl (Or.inr ⟨_, _, _, HP.out, rfl, hB2⟩)
end Go.Proofs.YtdgmgbcjlmighaaDoor
