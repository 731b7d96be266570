/- Pruned. -/
import Derived.Test.YtcikjeiebpmmcaaGreatQyGLab1
namespace Go.Proofs.YtcikjeiebpmmcaaGreat
open Go.RowKit Go.Proofs.YtcikjeiebpmmcaaGreatW.PrintWords
set_option linter.unusedVariables false
set_option linter.unusedSimpArgs false
def fillL (took : List ByteArray) : List UInt8 → Option (List UInt8)
  | [] => some []
  | c :: r => if c = 36 then
      match r with
      | [] => none
      | d :: r' => if d = 36 then (fillL took r').map (36 :: ·) else if d.toNat < 49 ∨ 57 < d.toNat ∨ took.length < d.toNat - 48 then none
          else (fillL took r').map ((took.getD (d.toNat - 49) ByteArray.empty).data.toList ++ ·)
    else (fillL took r).map (c :: ·)
theorem fill_plain (took : List ByteArray) (c : UInt8) (r : List UInt8) (h : c ≠ 36) : fillL took (c :: r) = (fillL took r).map (c :: ·) := by
  rw [fillL.eq_def]; simp only [if_neg h]
theorem fill_end (took : List ByteArray) : fillL took [36] = none := by simp [fillL]
theorem fill_dollar (took : List ByteArray) (r : List UInt8) : fillL took (36 :: 36 :: r) = (fillL took r).map (36 :: ·) := by
  rw [fillL]; simp
theorem fill_bad (took : List ByteArray) (d : UInt8) (r : List UInt8) (h : d ≠ 36) (hb : d.toNat < 49 ∨ 57 < d.toNat ∨ took.length < d.toNat - 48) : fillL took (36 :: d :: r) = none := by
  rw [fillL]; simp only [if_true, if_neg h, if_pos hb]
theorem fill_took (took : List ByteArray) (d : UInt8) (r : List UInt8) (h : d ≠ 36) (hb : ¬ (d.toNat < 49 ∨ 57 < d.toNat ∨ took.length < d.toNat - 48)) :
    fillL took (36 :: d :: r) = (fillL took r).map ((took.getD (d.toNat - 49) ByteArray.empty).data.toList ++ ·) := by
  rw [fillL]; simp only [if_true, if_neg h, if_neg hb]
def fillR (took : List ByteArray) (s : ByteArray) : ByteArray × Bool := match fillL took s.data.toList with
  | some m => (⟨m.toArray⟩, decide (s.size ≤ 1024))
  | none => (⟨#[]⟩, false)
structure Doing (took : List ByteArray) (s : ByteArray) (k : Nat) (acc : List UInt8) : Prop where
  left : fillL took s.data.toList = (fillL took (s.data.toList.drop k)).map (acc ++ ·)
  size : acc.length ≤ 100001 * k
theorem doing_start (took : List ByteArray) (s : ByteArray) : Doing took s 0 [] := ⟨by simp, Nat.zero_le _⟩
theorem doing_end {took : List ByteArray} {s : ByteArray} {acc : List UInt8} (h : Doing took s s.size acc) : fillR took s = (⟨acc.toArray⟩, decide (s.size ≤ 1024)) := by
  unfold fillR
  rw [h.left, List.drop_of_length_le (by simp), fillL]
  simp
theorem doing_plain {took : List ByteArray} {s : ByteArray} {k : Nat} {acc : List UInt8} (h : Doing took s k acc) (hk : k < s.size) (hc : s[k] ≠ 36) : Doing took s (k + 1) (acc ++ [s[k]]) := by
  have hsz : s.data.toList.length = s.size := by simp
  refine ⟨?_, by rw [List.length_append, List.length_singleton]; have := h.size; omega⟩
  rw [h.left, List.drop_eq_getElem_cons (by omega), show s.data.toList[k]'(by omega) = s[k] from rfl, fill_plain _ _ _ hc, Option.map_map]
  congr 1
  funext l
  simp
theorem doing_none {took : List ByteArray} {s : ByteArray} {k : Nat} {acc : List UInt8} (h : Doing took s k acc) (hk : k < s.size) (hc : s[k] = 36) (h2 : k + 1 = s.size) : fillR took s = (⟨#[]⟩, false) := by
  have hsz : s.data.toList.length = s.size := by simp
  unfold fillR
  rw [h.left, List.drop_eq_getElem_cons (by omega), show s.data.toList[k]'(by omega) = s[k] from rfl, hc, List.drop_of_length_le (by omega), fill_end]
  rfl
theorem doing_two {took : List ByteArray} {s : ByteArray} {k : Nat} {acc : List UInt8} (h : Doing took s k acc) (hk : k + 1 < s.size) (hc : s[k]'(by omega) = 36) :
    fillL took s.data.toList = (fillL took (36 :: s[k + 1] :: s.data.toList.drop (k + 2))).map (acc ++ ·) := by
  have hsz : s.data.toList.length = s.size := by simp
  rw [h.left, List.drop_eq_getElem_cons (by omega), show s.data.toList[k]'(by omega) = s[k]'(by omega) from rfl, hc, List.drop_eq_getElem_cons (by omega)]
  rfl
theorem doing_dollar {took : List ByteArray} {s : ByteArray} {k : Nat} {acc : List UInt8} (h : Doing took s k acc) (hk : k + 1 < s.size) (hc : s[k]'(by omega) = 36) (hd : s[k + 1] = 36) : Doing took s (k + 2) (acc ++ [36]) := by
  refine ⟨?_, by rw [List.length_append, List.length_singleton]; have := h.size; omega⟩
  rw [doing_two h hk hc, hd, fill_dollar, Option.map_map]
  congr 1
  funext l
  simp
theorem doing_bad {took : List ByteArray} {s : ByteArray} {k : Nat} {acc : List UInt8} (h : Doing took s k acc) (hk : k + 1 < s.size) (hc : s[k]'(by omega) = 36) (hd : s[k + 1] ≠ 36)
    (hb : s[k + 1].toNat < 49 ∨ 57 < s[k + 1].toNat ∨ took.length < s[k + 1].toNat - 48) : fillR took s = (⟨#[]⟩, false) := by
  unfold fillR
  rw [doing_two h hk hc, fill_bad _ _ _ hd hb]
  rfl
theorem doing_took {took : List ByteArray} {s : ByteArray} {k : Nat} {acc : List UInt8} (h : Doing took s k acc) (hk : k + 1 < s.size) (hc : s[k]'(by omega) = 36) (hd : s[k + 1] ≠ 36)
    (hb : ¬ (s[k + 1].toNat < 49 ∨ 57 < s[k + 1].toNat ∨ took.length < s[k + 1].toNat - 48)) (x : ByteArray) (hx : took.getD (s[k + 1].toNat - 49) ByteArray.empty = x) (hxs : x.size ≤ 100000) : Doing took s (k + 2) (acc ++ x.data.toList) := by
  refine ⟨?_, by rw [List.length_append]; have := h.size; have : x.data.toList.length = x.size := by simp
                 omega⟩
  rw [doing_two h hk hc, fill_took _ _ _ hd hb, hx, Option.map_map]
  congr 1
  funext l
  simp
set_option maxHeartbeats 2000000 in
set_option maxRecDepth 100000 in
theorem fill_calls (s : ByteArray) (A : Option Addr) (c : Nat) (took : List ByteArray) (w : World) (hC : Kd.C Kd.string w A took.length took) (hs : s.size ≤ 100000) (ht : ∀ x ∈ took, x.size ≤ 100000) :
    Calls Tryz.prog 14 #[.string s, .slice A took.length c] w fun e w' => e = .returned (.tuple #[.string (fillR took s).1, .bool (fillR took s).2]) ∧ Below w.heap.size w w' := by
  have h0 : Lib.IsBuilder 74 5 w.heap.size w.heap.size (Lib.byteCells []) (w.alloc (.cells #[.pointer none, .slice none 0 0] 74)) := Lib.fresh_isBuilder _ _ w
  have b0 : Below w.heap.size w (w.alloc (.cells #[.pointer none, .slice none 0 0] 74)) := (Below.refl _ w).alloc (Nat.le_refl _) _
  go_enter Tryz.func14, Tryz.ntmps14
  go_wp2
  go_loopw [7] (fun i wr => ∃ (k : Nat) (acc : List UInt8), k ≤ s.size ∧ i = .int .i64 k ∧ Lib.IsBuilder 74 5 w.heap.size w.heap.size (Lib.byteCells acc) wr ∧ Below w.heap.size w wr ∧ Doing took s k acc) (fun i _ => s.size - (intOf i).toNat)
  case atStart => exact ⟨0, [], Nat.zero_le _, rfl, h0, b0, doing_start took s⟩
  case round =>
    clear h0 b0
    obtain ⟨k, acc, hk, rfl, hB, hw, hD⟩ := hrel
    have hl2 : (Lib.byteCells acc).length = acc.length := by simp [Lib.byteCells]
    have hacc : acc.length ≤ 10000200000 := by have := hD.size; omega
    have hw0 : w.heap.size ≤ wr.heap.size := hw.size
    have key : ∀ (l : List UInt8) (W : World), Lib.BuilderAt 74 5 w.heap.size w.heap.size (.pointer (some ⟨w.heap.size, 0, none⟩)) (Lib.byteCells acc ++ Lib.byteCells l) W → Lib.IsBuilder 74 5 w.heap.size w.heap.size (Lib.byteCells (acc ++ l)) W := by
      intro l W h
      refine Or.inr ?_
      rw [show Lib.byteCells (acc ++ l) = Lib.byteCells acc ++ Lib.byteCells l by simp [Lib.byteCells]]
      exact h
    by_cases hlt : k < s.size
    · have hlti : (k : Int) < (s.size : Int) := by omega
      by_cases h36 : s[k] = 36
      · have d36 : ((s[k].toNat : Int) == 36) = true := by rw [show (36 : Int) = ((36 : Nat) : Int) from rfl, byte_eq s[k] 36 (by omega)]; simpa using h36
        have n36 : ((s[k].toNat : Int) != 36) = false := by rw [bne, d36]; rfl
        by_cases hend : k + 1 = s.size
        · have hR := doing_none hD hlt h36 hend
          have he : ((k : Int) + 1 == (s.size : Int)) = true := by rw [beq_iff_eq]; omega
          have HR := Aside0.mk hR
          clear hR hD hend h36
          go_wp2
          go_ret2
          rw [HR.out]
          exact ⟨rfl, hw⟩
        · have hk1 : k + 1 < s.size := by omega
          have hk1i : (k : Int) + 1 < (s.size : Int) := by omega
          have he : ((k : Int) + 1 == (s.size : Int)) = false := by rw [beq_eq_false_iff_ne]; omega
          have hd256 : s[k + 1].toNat < 256 := UInt8.toNat_lt _
          by_cases hd : s[k + 1] = 36
          · have e36 : ((s[k + 1].toNat : Int) == 36) = true := by rw [show (36 : Int) = ((36 : Nat) : Int) from rfl, byte_eq s[k + 1] 36 (by omega)]; simpa using hd
            have HD := Aside0.mk (doing_dollar hD hk1 h36 hd)
            clear hD hend h36 hd
            go_wp2_with fail
            refine (Tryz.Builder_WriteByte w.heap.size w.heap.size _ 36 _ hB (by rw [hl2]; omega) hw0).mono ?_
            rintro e W2 ⟨rfl, h2, b2⟩
            have hB2 := key [36] W2 (by simpa [Lib.byteCells] using h2)
            have hw2 := hw.trans b2
            clear hB h2 b2 hw key
            go_wp2
            go_roundw
            case rel => exact ⟨k + 2, acc ++ [36], by omega, by go_num, hB2, hw2, HD.out⟩
            case measure => simp [intOf]; omega
          · have e36 : ((s[k + 1].toNat : Int) == 36) = false := by rw [show (36 : Int) = ((36 : Nat) : Int) from rfl, byte_eq s[k + 1] 36 (by omega)]; simpa using hd
            by_cases hb : s[k + 1].toNat < 49 ∨ 57 < s[k + 1].toNat ∨ took.length < s[k + 1].toNat - 48
            · have HR := Aside0.mk (doing_bad hD hk1 h36 hd hb)
              clear hD hend h36 hd key hB
              by_cases h1 : s[k + 1].toNat < 49
              · have h1i : (s[k + 1].toNat : Int) < 49 := by omega
                have h1d : decide ((s[k + 1].toNat : Int) < 49) = true := decide_eq_true h1i
                clear hb
                go_wp2
                go_ret2
                rw [HR.out]
                exact ⟨rfl, hw⟩
              · have h1i : ¬ (s[k + 1].toNat : Int) < 49 := by omega
                have h1d : decide ((s[k + 1].toNat : Int) < 49) = false := decide_eq_false h1i
                by_cases h2 : 57 < s[k + 1].toNat
                · have h2i : (57 : Int) < (s[k + 1].toNat : Int) := by omega
                  have h2d : decide ((57 : Int) < (s[k + 1].toNat : Int)) = true := decide_eq_true h2i
                  clear hb
                  go_wp2
                  go_ret2
                  rw [HR.out]
                  exact ⟨rfl, hw⟩
                · obtain ⟨q, hq⟩ : ∃ q, s[k + 1].toNat = q + 49 := ⟨s[k + 1].toNat - 49, by omega⟩
                  have h2i : ¬ (57 : Int) < (s[k + 1].toNat : Int) := by omega
                  have h2d : decide ((57 : Int) < (s[k + 1].toNat : Int)) = false := decide_eq_false h2i
                  have h3i : (took.length : Int) < (q : Int) + 1 := by omega
                  have h3d : decide ((took.length : Int) < (q : Int) + 1) = true := decide_eq_true h3i
                  have hq1 : (s[k + 1].toNat : Int) - 48 = (q : Int) + 1 := by omega
                  clear hb hq
                  go_wp2
                  go_ret2
                  rw [HR.out]
                  exact ⟨rfl, hw⟩
            · have h1i : ¬ (s[k + 1].toNat : Int) < 49 := by omega
              have h1d : decide ((s[k + 1].toNat : Int) < 49) = false := decide_eq_false h1i
              obtain ⟨q, hq⟩ : ∃ q, s[k + 1].toNat = q + 49 := ⟨s[k + 1].toNat - 49, by omega⟩
              have h2i : ¬ (57 : Int) < (s[k + 1].toNat : Int) := by omega
              have h2d : decide ((57 : Int) < (s[k + 1].toNat : Int)) = false := decide_eq_false h2i
              have hql : q < took.length := by omega
              have h3i : ¬ (took.length : Int) < (q : Int) + 1 := by omega
              have h3d : decide ((took.length : Int) < (q : Int) + 1) = false := decide_eq_false h3i
              have h4i : (q : Int) < (took.length : Int) := by omega
              have hq1 : (s[k + 1].toNat : Int) - 48 = (q : Int) + 1 := by omega
              have hq2 : (s[k + 1].toNat : Int) - 49 = (q : Int) := by omega
              obtain ⟨b, off, rfl, hbl, hc⟩ := C_at hC (by omega) (by decide)
              obtain ⟨cs, _, hK, hce⟩ := hc q took[q] (List.getElem?_eq_getElem hql)
              have hK' : cs = [.string took[q]] := hK
              have hcell : wr.cell? ⟨b, off + q, none⟩ = some (.string took[q]) := (hw.cell (p := ⟨b, off + q, none⟩) hbl).trans (by have := hce 0 _ (by rw [hK']; rfl); simpa [Kd.string, Kd.scalar] using this)
              have hxs := ht took[q] (List.getElem_mem hql)
              have HD := Aside0.mk (doing_took hD hk1 h36 hd hb took[q] (by rw [hq, show q + 49 - 49 = q by omega]; simp [List.getD, List.getElem?_eq_getElem hql]) hxs)
              clear hD hend h36 hd hb hq hc hce hK hK' hC
              generalize took[q] = x at *
              go_wp2_with fail
              refine (Tryz.Builder_WriteString w.heap.size w.heap.size _ x _ hB (by rw [hl2]; omega) hw0).mono ?_
              rintro e W2 ⟨rfl, h2, b2⟩
              have hB2 := key x.data.toList W2 (by simpa [Lib.byteCells, Lib.strCells] using h2)
              have hw2 := hw.trans b2
              clear hB h2 b2 hw key
              go_wp2
              go_roundw
              case rel => exact ⟨k + 2, acc ++ x.data.toList, by omega, by go_num, hB2, hw2, HD.out⟩
              case measure => simp [intOf]; omega
      · have d36 : ((s[k].toNat : Int) == 36) = false := by rw [show (36 : Int) = ((36 : Nat) : Int) from rfl, byte_eq s[k] 36 (by omega)]; simpa using h36
        have n36 : ((s[k].toNat : Int) != 36) = true := by rw [bne, d36]; rfl
        have HD := Aside0.mk (doing_plain hD hlt h36)
        clear hD h36
        go_wp2_with fail
        refine (Tryz.Builder_WriteByte w.heap.size w.heap.size _ _ _ hB (by rw [hl2]; omega) hw0).mono ?_
        rintro e W2 ⟨rfl, h2, b2⟩
        have hB2 := key [s[k]] W2 (by simpa [Lib.byteCells] using h2)
        have hw2 := hw.trans b2
        clear hB h2 b2 hw key
        go_wp2
        go_roundw
        case rel => exact ⟨k + 1, acc ++ [s[k]], by omega, by go_num, hB2, hw2, HD.out⟩
        case measure => simp [intOf]; omega
    · obtain rfl : k = s.size := by omega
      have HR := Aside0.mk (doing_end hD)
      clear hD
      by_cases hbig : s.size ≤ 1024
      · have hbi : (s.size : Int) ≤ 1024 := by omega
        rw [decide_eq_true hbig] at HR
        go_wp2_with fail
        refine (Tryz.Builder_String_any w.heap.size w.heap.size _ _ hB hw.size).mono ?_
        rintro e w1 ⟨rfl, hb⟩
        go_wp2
        go_ret2
        rw [HR.out]
        exact ⟨by simp [hbi], hw.trans hb⟩
      · have hbi : ¬ (s.size : Int) ≤ 1024 := by omega
        rw [decide_eq_false hbig] at HR
        go_wp2_with fail
        refine (Tryz.Builder_String_any w.heap.size w.heap.size _ _ hB hw.size).mono ?_
        rintro e w1 ⟨rfl, hb⟩
        go_wp2
        go_ret2
        rw [HR.out]
        exact ⟨by simp [hbi]; try omega, hw.trans hb⟩
end Go.Proofs.YtcikjeiebpmmcaaGreat
