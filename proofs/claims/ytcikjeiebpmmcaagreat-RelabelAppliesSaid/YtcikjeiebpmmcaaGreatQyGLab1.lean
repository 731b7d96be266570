/- Pruned. -/
import Derived.Test.YtcikjeiebpmmcaaGreatQyGBase
import Derived.Test.YtcikjeiebpmmcaaGreatQyGShelf
import Derived.WalkKit
import Derived.Lib.Hide
import Derived.Outline
namespace Go.Proofs.YtcikjeiebpmmcaaGreat
open Go.RowKit Go.Proofs.YtcikjeiebpmmcaaGreatW.PrintWords
set_option linter.unusedVariables false
set_option linter.unusedSimpArgs false
theorem join_calls (A0 : Option Addr) (c0 : Nat) (l0 : List ByteArray) (a1 : ByteArray) (w : World) (hr0 : Kd.C Kd.string w A0 l0.length l0) (hc0 : l0.length ≤ c0)
    (hN : l0.length ≤ 140737488355328) (hlen : (Lib.join (l0.map (·.data.toList)) a1.data.toList).length ≤ 140737488355328) :
    Calls Tryz.prog 67 #[.slice A0 l0.length c0, .string a1] w fun e w' => e = .returned (.string ⟨(Lib.join (l0.map (·.data.toList)) a1.data.toList).toArray⟩) ∧ Below w.heap.size w w' := by
  cases l0 with
  | nil =>
    refine (Tryz.strings_Join_none A0 c0 a1 w).mono ?_
    rintro e w' ⟨rfl, rfl⟩
    exact ⟨rfl, Below.refl _ _⟩
  | cons x xs =>
    obtain ⟨b, off, rfl, hb, hc⟩ := C_at hr0 (by simp) (by decide)
    refine Tryz.strings_Join b off c0 (x :: xs) a1 w (fun j y hy => ?_) hb hN hc0 hlen
    obtain ⟨c, hcl, hK, hcell⟩ := hc j y hy
    have hK' : c = [.string y] := hK
    subst hK'
    have := hcell 0 _ rfl
    rw [show (Kd.string).sz = 1 from rfl, Nat.mul_one, Nat.add_zero] at this
    exact this
def escByte (c : UInt8) : List UInt8 := if c = 92 ∨ c = 34 then [92, c] else if c = 10 then [92, 110] else [c]
theorem escByte_le (c : UInt8) : (escByte c).length ≤ 2 := by unfold escByte; split <;> (try split) <;> simp
theorem esc_le : ∀ (l : List UInt8), (l.flatMap escByte).length ≤ 2 * l.length
  | [] => by simp
  | c :: l => by
    have := escByte_le c
    have := esc_le l
    simp only [List.flatMap_cons, List.length_append, List.length_cons]
    omega
theorem take_snoc (s : ByteArray) (k : Nat) (h : k < s.size) : s.data.toList.take (k + 1) = s.data.toList.take k ++ [s[k]] := by
  rw [List.take_succ_eq_append_getElem (by simpa using h)]; rfl
theorem esc_snoc (s : ByteArray) (k : Nat) (h : k < s.size) : (s.data.toList.take (k + 1)).flatMap escByte = (s.data.toList.take k).flatMap escByte ++ escByte s[k] := by
  rw [take_snoc s k h, List.flatMap_append]; simp
theorem byte_eq (c : UInt8) (n : Nat) (hn : n < 256) : ((c.toNat : Int) == (n : Int)) = decide (c = n.toUInt8) := by
  rw [Bool.eq_iff_iff]
  simp only [beq_iff_eq, decide_eq_true_eq]
  constructor
  · intro h
    have h' : c.toNat = n := by omega
    rw [← UInt8.toNat_inj, h']
    simp [Nat.toUInt8, Nat.mod_eq_of_lt hn]
  · rintro rfl
    simp [Nat.toUInt8]
    omega
set_option maxHeartbeats 2000000 in
theorem escape_calls (s : ByteArray) (w : World) (hs : s.size ≤ 1099511627776) :
    Calls Tryz.prog 66 #[.string s] w fun e w' => e = .returned (.string ⟨(s.data.toList.flatMap escByte).toArray⟩) ∧ Below w.heap.size w w' := by
  have h0 : Lib.IsBuilder 74 5 w.heap.size w.heap.size [] (w.alloc (.cells #[.pointer none, .slice none 0 0] 74)) := Lib.fresh_isBuilder _ _ w
  have b0 : Below w.heap.size w (w.alloc (.cells #[.pointer none, .slice none 0 0] 74)) := (Below.refl _ w).alloc (Nat.le_refl _) _
  go_enter Tryz.func66, Tryz.ntmps66
  go_wp2
  go_loopw [8] (fun i wr => ∃ k : Nat, k ≤ s.size ∧ i = .int .i64 k ∧ Lib.IsBuilder 74 5 w.heap.size w.heap.size (Lib.byteCells ((s.data.toList.take k).flatMap escByte)) wr ∧ Below w.heap.size w wr) (fun i _ => s.size - (intOf i).toNat)
  case atStart => exact ⟨0, Nat.zero_le _, rfl, h0, b0⟩
  case round =>
    clear h0 b0
    obtain ⟨k, hk, rfl, hB, hw⟩ := hrel
    have hl1 : ((s.data.toList.take k).flatMap escByte).length ≤ 2 * k := by
      have h1 := esc_le (s.data.toList.take k)
      have h2 : (s.data.toList.take k).length ≤ k := List.length_take_le _ _
      omega
    have hl2 : (Lib.byteCells ((s.data.toList.take k).flatMap escByte)).length ≤ 2 * k := by simpa [Lib.byteCells] using hl1
    by_cases hlt : k < s.size
    · have HS := Lib.hid (esc_snoc s k hlt)
      generalize hbs : (s.data.toList.take k).flatMap escByte = bs at *
      clear hbs hl1
      have hbd : s[k].toNat < 256 := UInt8.toNat_lt _
      have q92 := byte_eq s[k] 92 (by omega)
      have q34 := byte_eq s[k] 34 (by omega)
      have q10 := byte_eq s[k] 10 (by omega)
      have key : ∀ l : List UInt8, l.length ≤ 2 → ∀ W : World, Lib.BuilderAt 74 5 w.heap.size w.heap.size (.pointer (some ⟨w.heap.size, 0, none⟩)) (Lib.byteCells bs ++ Lib.byteCells l) W →
          (s.data.toList.take (k + 1)).flatMap escByte = bs ++ l → Lib.IsBuilder 74 5 w.heap.size w.heap.size (Lib.byteCells ((s.data.toList.take (k + 1)).flatMap escByte)) W := by
        intro l _ W h e
        rw [e]
        refine Or.inr ?_
        rw [show Lib.byteCells (bs ++ l) = Lib.byteCells bs ++ Lib.byteCells l by simp [Lib.byteCells]]
        exact h
      have hw0 : w.heap.size ≤ wr.heap.size := hw.size
      by_cases h92 : s[k] = 92
      · have e : escByte s[k] = [92, s[k]] := by simp [escByte, h92]
        rw [e] at HS
        have d92 : ((s[k].toNat : Int) == 92) = true := by rw [show (92 : Int) = ((92 : Nat) : Int) from rfl, q92]; simpa using h92
        clear q92 q34 q10 e h92
        go_wp2_with fail
        refine (Tryz.Builder_WriteByte w.heap.size w.heap.size _ 92 _ hB (by omega) hw0).mono ?_
        rintro e W1 ⟨rfl, h1, b1⟩
        have hw1 := hw.trans b1
        clear hB b1 hw
        go_wp2_with fail
        refine (Tryz.Builder_WriteByte w.heap.size w.heap.size _ _ _ (Or.inr h1) (by simp only [List.length_append, List.length_singleton]; omega) hw1.size).mono ?_
        rintro e W2 ⟨rfl, h2, b2⟩
        have hB2 := key [92, s[k]] (by simp) W2 (by simpa [Lib.byteCells] using h2) HS.out
        have hw2 := hw1.trans b2
        clear h1 h2 b2 hw1 key
        go_wp2
        go_roundw
        case rel => exact ⟨k + 1, by omega, by go_num, hB2, hw2⟩
        case measure => simp [intOf]; omega
      · have d92 : ((s[k].toNat : Int) == 92) = false := by rw [show (92 : Int) = ((92 : Nat) : Int) from rfl, q92]; simpa using h92
        by_cases h34 : s[k] = 34
        · have e : escByte s[k] = [92, s[k]] := by simp [escByte, h34]
          rw [e] at HS
          have d34 : ((s[k].toNat : Int) == 34) = true := by rw [show (34 : Int) = ((34 : Nat) : Int) from rfl, q34]; simpa using h34
          clear q92 q34 q10 e h92 h34
          go_wp2_with fail
          refine (Tryz.Builder_WriteByte w.heap.size w.heap.size _ 92 _ hB (by omega) hw0).mono ?_
          rintro e W1 ⟨rfl, h1, b1⟩
          have hw1 := hw.trans b1
          clear hB b1 hw
          go_wp2_with fail
          refine (Tryz.Builder_WriteByte w.heap.size w.heap.size _ _ _ (Or.inr h1) (by simp only [List.length_append, List.length_singleton]; omega) hw1.size).mono ?_
          rintro e W2 ⟨rfl, h2, b2⟩
          have hB2 := key [92, s[k]] (by simp) W2 (by simpa [Lib.byteCells] using h2) HS.out
          have hw2 := hw1.trans b2
          clear h1 h2 b2 hw1 key
          go_wp2
          go_roundw
          case rel => exact ⟨k + 1, by omega, by go_num, hB2, hw2⟩
          case measure => simp [intOf]; omega
        · have d34 : ((s[k].toNat : Int) == 34) = false := by rw [show (34 : Int) = ((34 : Nat) : Int) from rfl, q34]; simpa using h34
          by_cases h10 : s[k] = 10
          · have e : escByte s[k] = [92, 110] := by simp [escByte, h10]
            rw [e] at HS
            have d10 : ((s[k].toNat : Int) == 10) = true := by rw [show (10 : Int) = ((10 : Nat) : Int) from rfl, q10]; simpa using h10
            clear q92 q34 q10 e h92 h34 h10
            go_wp2_with fail
            refine (Tryz.Builder_WriteString w.heap.size w.heap.size _ ⟨#[92, 110]⟩ _ hB (by rw [show (⟨#[92, 110]⟩ : ByteArray).size = 2 from rfl]; omega) hw0).mono ?_
            rintro e W2 ⟨rfl, h2, b2⟩
            have hB2 := key [92, 110] (by simp) W2 (by simpa [Lib.byteCells, Lib.strCells] using h2) HS.out
            have hw2 := hw.trans b2
            clear hB h2 b2 hw key
            go_wp2
            go_roundw
            case rel => exact ⟨k + 1, by omega, by go_num, hB2, hw2⟩
            case measure => simp [intOf]; omega
          · have e : escByte s[k] = [s[k]] := by simp [escByte, h92, h34, h10]
            rw [e] at HS
            have d10 : ((s[k].toNat : Int) == 10) = false := by rw [show (10 : Int) = ((10 : Nat) : Int) from rfl, q10]; simpa using h10
            clear q92 q34 q10 e h92 h34 h10
            go_wp2_with fail
            refine (Tryz.Builder_WriteByte w.heap.size w.heap.size _ _ _ hB (by omega) hw0).mono ?_
            rintro e W2 ⟨rfl, h2, b2⟩
            have hB2 := key [s[k]] (by simp) W2 (by simpa [Lib.byteCells] using h2) HS.out
            have hw2 := hw.trans b2
            clear hB h2 b2 hw key
            go_wp2
            go_roundw
            case rel => exact ⟨k + 1, by omega, by go_num, hB2, hw2⟩
            case measure => simp [intOf]; omega
    · have he : k = s.size := by omega
      subst he
      rw [List.take_of_length_le (by simp)] at hB
      go_wp2_with fail
      refine (Tryz.Builder_String_any w.heap.size w.heap.size _ _ hB hw.size).mono ?_
      rintro e w1 ⟨rfl, hb⟩
      go_wp2
      go_ret
      exact ⟨rfl, hw.trans hb⟩
end Go.Proofs.YtcikjeiebpmmcaaGreat
