-- Printed for this claim by a program of the session (print2.py), out of the translation; Lean checks it.
import Derived.Test.YtdgmgbcjlmighaaDoorPTexx0
import Derived.Test.YtdgmgbcjlmighaaDoorPTexx1
namespace Go.Proofs.YtdgmgbcjlmighaaDoor.PTex
open Go.RowKit Go.Proofs.YtdgmgbcjlmighaaDoorW.PrintWords Go.Proofs.YtdgmgbcjlmighaaDoorW.PrintLast Go.Proofs.YtdgmgbcjlmighaaDoorW.PrintMore
attribute [local go_sem] max2_int min2_int max_two min_two max_three min_three max_four min_four   -- for this text's walks alone
set_option linter.unusedVariables false
set_option linter.unusedSimpArgs false

/-! ### fix_Text: function 15 -/
def fix_Text.f (a0 : Int) : Option (ByteArray) := (fix_size.f a0).bind fun t132 => ((strconv_FormatUint.f (IntKind.u64.wrap (Int.tdiv t132 1000000)) 10).bind fun t133 => (if (Int.tmod t132 1000000) > 0 then ((strconv_FormatUint.f (IntKind.u64.wrap (1000000 + (Int.tmod t132 1000000))) 10).bind fun t134 => (if 1 ≤ (t134.size : Int) then ((strings_TrimRight.f (t134.extract 1 t134.size) (⟨#[48]⟩ : ByteArray)).bind fun t135 => (if 1 + t135.size ≤ 9223372036854775807 then (if t133.size + ((⟨#[46]⟩ : ByteArray) ++ t135).size ≤ 9223372036854775807 then (if a0 < 0 then (if 1 + (t133 ++ ((⟨#[46]⟩ : ByteArray) ++ t135)).size ≤ 9223372036854775807 then (some ((⟨#[45]⟩ : ByteArray) ++ (t133 ++ ((⟨#[46]⟩ : ByteArray) ++ t135)))) else (none)) else (some (t133 ++ ((⟨#[46]⟩ : ByteArray) ++ t135)))) else (none)) else (none))) else (none))) else (if a0 < 0 then (if 1 + t133.size ≤ 9223372036854775807 then (some ((⟨#[45]⟩ : ByteArray) ++ t133)) else (none)) else (some t133))))
set_option maxHeartbeats 8000000 in
set_option maxRecDepth 100000 in
theorem fix_Text.calls (a0 : Int) (r : ByteArray) (w : World) (hSH : SH w) (h : fix_Text.f a0 = some r) :
    Calls Tryd.prog 15 #[.int .i64 a0] w fun e w' => e = .returned (.string r) ∧ Below w.heap.size w w' := by
  have HB := Aside0.mk (Below.refl w.heap.size w)
  have H : ((fix_size.f a0).bind fun t132 => ((strconv_FormatUint.f (IntKind.u64.wrap (Int.tdiv t132 1000000)) 10).bind fun t133 => (if (Int.tmod t132 1000000) > 0 then ((strconv_FormatUint.f (IntKind.u64.wrap (1000000 + (Int.tmod t132 1000000))) 10).bind fun t134 => (if 1 ≤ (t134.size : Int) then ((strings_TrimRight.f (t134.extract 1 t134.size) (⟨#[48]⟩ : ByteArray)).bind fun t135 => (if 1 + t135.size ≤ 9223372036854775807 then (if t133.size + ((⟨#[46]⟩ : ByteArray) ++ t135).size ≤ 9223372036854775807 then (if a0 < 0 then (if 1 + (t133 ++ ((⟨#[46]⟩ : ByteArray) ++ t135)).size ≤ 9223372036854775807 then (some ((⟨#[45]⟩ : ByteArray) ++ (t133 ++ ((⟨#[46]⟩ : ByteArray) ++ t135)))) else (none)) else (some (t133 ++ ((⟨#[46]⟩ : ByteArray) ++ t135)))) else (none)) else (none))) else (none))) else (if a0 < 0 then (if 1 + t133.size ≤ 9223372036854775807 then (some ((⟨#[45]⟩ : ByteArray) ++ t133)) else (none)) else (some t133))))) = some r := h
  clear h
  replace H := Option.bind_eq_some_iff.mp H
  obtain ⟨t132, A20, H⟩ := H
  replace H : ((strconv_FormatUint.f (IntKind.u64.wrap (Int.tdiv t132 1000000)) 10).bind fun t133 => (if (Int.tmod t132 1000000) > 0 then ((strconv_FormatUint.f (IntKind.u64.wrap (1000000 + (Int.tmod t132 1000000))) 10).bind fun t134 => (if 1 ≤ (t134.size : Int) then ((strings_TrimRight.f (t134.extract 1 t134.size) (⟨#[48]⟩ : ByteArray)).bind fun t135 => (if 1 + t135.size ≤ 9223372036854775807 then (if t133.size + ((⟨#[46]⟩ : ByteArray) ++ t135).size ≤ 9223372036854775807 then (if a0 < 0 then (if 1 + (t133 ++ ((⟨#[46]⟩ : ByteArray) ++ t135)).size ≤ 9223372036854775807 then (some ((⟨#[45]⟩ : ByteArray) ++ (t133 ++ ((⟨#[46]⟩ : ByteArray) ++ t135)))) else (none)) else (some (t133 ++ ((⟨#[46]⟩ : ByteArray) ++ t135)))) else (none)) else (none))) else (none))) else (if a0 < 0 then (if 1 + t133.size ≤ 9223372036854775807 then (some ((⟨#[45]⟩ : ByteArray) ++ t133)) else (none)) else (some t133)))) = some r := H
  have A2 := Aside0.mk A20
  clear A20
  replace H := Option.bind_eq_some_iff.mp H
  obtain ⟨t133, A30, H⟩ := H
  replace H : (if (Int.tmod t132 1000000) > 0 then ((strconv_FormatUint.f (IntKind.u64.wrap (1000000 + (Int.tmod t132 1000000))) 10).bind fun t134 => (if 1 ≤ (t134.size : Int) then ((strings_TrimRight.f (t134.extract 1 t134.size) (⟨#[48]⟩ : ByteArray)).bind fun t135 => (if 1 + t135.size ≤ 9223372036854775807 then (if t133.size + ((⟨#[46]⟩ : ByteArray) ++ t135).size ≤ 9223372036854775807 then (if a0 < 0 then (if 1 + (t133 ++ ((⟨#[46]⟩ : ByteArray) ++ t135)).size ≤ 9223372036854775807 then (some ((⟨#[45]⟩ : ByteArray) ++ (t133 ++ ((⟨#[46]⟩ : ByteArray) ++ t135)))) else (none)) else (some (t133 ++ ((⟨#[46]⟩ : ByteArray) ++ t135)))) else (none)) else (none))) else (none))) else (if a0 < 0 then (if 1 + t133.size ≤ 9223372036854775807 then (some ((⟨#[45]⟩ : ByteArray) ++ t133)) else (none)) else (some t133))) = some r := H
  have A3 := Aside0.mk A30
  clear A30
  by_cases c4 : (Int.tmod t132 1000000) > 0
  · rw [if_pos c4] at H
    have c4b0 : decide (0 < (Int.tmod t132 1000000)) = true := decide_eq_true c4
    clear c4
    replace H := Option.bind_eq_some_iff.mp H
    obtain ⟨t134, A50, H⟩ := H
    replace H : (if 1 ≤ (t134.size : Int) then ((strings_TrimRight.f (t134.extract 1 t134.size) (⟨#[48]⟩ : ByteArray)).bind fun t135 => (if 1 + t135.size ≤ 9223372036854775807 then (if t133.size + ((⟨#[46]⟩ : ByteArray) ++ t135).size ≤ 9223372036854775807 then (if a0 < 0 then (if 1 + (t133 ++ ((⟨#[46]⟩ : ByteArray) ++ t135)).size ≤ 9223372036854775807 then (some ((⟨#[45]⟩ : ByteArray) ++ (t133 ++ ((⟨#[46]⟩ : ByteArray) ++ t135)))) else (none)) else (some (t133 ++ ((⟨#[46]⟩ : ByteArray) ++ t135)))) else (none)) else (none))) else (none)) = some r := H
    have A5 := Aside0.mk A50
    clear A50
    by_cases c6 : 1 ≤ (t134.size : Int)
    · rw [if_pos c6] at H
      have c6b0 := eq_true c6
      have c6b1 : decide (1 ≤ (t134.size : Int)) = true := decide_eq_true c6
      clear c6
      replace H := Option.bind_eq_some_iff.mp H
      obtain ⟨t135, A70, H⟩ := H
      replace H : (if 1 + t135.size ≤ 9223372036854775807 then (if t133.size + ((⟨#[46]⟩ : ByteArray) ++ t135).size ≤ 9223372036854775807 then (if a0 < 0 then (if 1 + (t133 ++ ((⟨#[46]⟩ : ByteArray) ++ t135)).size ≤ 9223372036854775807 then (some ((⟨#[45]⟩ : ByteArray) ++ (t133 ++ ((⟨#[46]⟩ : ByteArray) ++ t135)))) else (none)) else (some (t133 ++ ((⟨#[46]⟩ : ByteArray) ++ t135)))) else (none)) else (none)) = some r := H
      have A7 := Aside0.mk A70
      clear A70
      by_cases c8 : 1 + t135.size ≤ 9223372036854775807
      · rw [if_pos c8] at H
        have c8b0 := eq_true c8
        have c8b1 : decide (1 + t135.size ≤ 9223372036854775807) = true := decide_eq_true c8
        try have c8b2 : (9223372036854775807 < 1 + t135.size) = False := eq_false (Nat.not_lt.2 c8)
        by_cases c9 : t133.size + ((⟨#[46]⟩ : ByteArray) ++ t135).size ≤ 9223372036854775807
        · rw [if_pos c9] at H
          have c9b0 := eq_true c9
          have c9b1 : decide (t133.size + ((⟨#[46]⟩ : ByteArray) ++ t135).size ≤ 9223372036854775807) = true := decide_eq_true c9
          try have c9b2 : (9223372036854775807 < t133.size + ((⟨#[46]⟩ : ByteArray) ++ t135).size) = False := eq_false (Nat.not_lt.2 c9)
          try have c9b3 : (9223372036854775807 < t133.size + 1 + t135.size) = False := eq_false (by have h_ := c9; simp only [ByteArray.size_append] at h_; have z0_ : (⟨#[46]⟩ : ByteArray).size = 1 := rfl; omega)
          try have c9b4 : (9223372036854775807 < t133.size + (1 + t135.size)) = False := eq_false (by have h_ := c9; simp only [ByteArray.size_append] at h_; have z0_ : (⟨#[46]⟩ : ByteArray).size = 1 := rfl; omega)
          by_cases c10 : a0 < 0
          · rw [if_pos c10] at H
            have c10b0 : decide (a0 < 0) = true := decide_eq_true c10
            clear c10
            by_cases c11 : 1 + (t133 ++ ((⟨#[46]⟩ : ByteArray) ++ t135)).size ≤ 9223372036854775807
            · rw [if_pos c11] at H
              have c11b0 := eq_true c11
              have c11b1 : decide (1 + (t133 ++ ((⟨#[46]⟩ : ByteArray) ++ t135)).size ≤ 9223372036854775807) = true := decide_eq_true c11
              try have c11b2 : (9223372036854775807 < 1 + (t133 ++ ((⟨#[46]⟩ : ByteArray) ++ t135)).size) = False := eq_false (Nat.not_lt.2 c11)
              try have c11b3 : (9223372036854775807 < 1 + t133.size + 1 + t135.size) = False := eq_false (by have h_ := c11; simp only [ByteArray.size_append] at h_; have z0_ : (⟨#[46]⟩ : ByteArray).size = 1 := rfl; omega)
              try have c11b4 : (9223372036854775807 < 1 + (t133.size + (1 + t135.size))) = False := eq_false (by have h_ := c11; simp only [ByteArray.size_append] at h_; have z0_ : (⟨#[46]⟩ : ByteArray).size = 1 := rfl; omega)
              obtain rfl := Option.some.inj H
              go_enter Tryd.func15, Tryd.ntmps15
              go_wp2_with (first | ((with_reducible refine gate_callee (f := 31) rfl ?_); refine goesL_ (some 8) rfl rfl Tryd.func31 (by kernel_rfl) rfl #[.int .i64 a0] rfl (by (try simp only [List.map_toArray, List.map_cons, List.map_nil]); first | done | rfl | (simp only [List.length_drop, List.length_take]; rfl)) ?_; (with_reducible refine (fix_size.calls a0 t132 _ A2.out).mono ?_); rintro e w' ⟨rfl, ⟨nd, rfl⟩⟩; refine ⟨_, rfl, ?_⟩) | ((with_reducible refine gate_callee (f := 32) rfl ?_); refine goesL_ (some 11) rfl rfl Tryd.func32 (by kernel_rfl) rfl #[.int .u64 (IntKind.u64.wrap (Int.tdiv t132 1000000)), .int .i64 10] rfl (by (try simp only [List.map_toArray, List.map_cons, List.map_nil]); first | done | rfl | (simp only [List.length_drop, List.length_take]; rfl)) ?_; (with_reducible refine (strconv_FormatUint.calls (IntKind.u64.wrap (Int.tdiv t132 1000000)) 10 t133 _ ?side1 A3.out).mono ?_); (case side1 => exact SH.below hSH (by repeat (first | (with_reducible first | exact HB.out | apply below_alloc | apply pw_below_drewN | apply below_drew1) | exact HB.out))); rintro e w12 ⟨rfl, hb⟩; refine ⟨_, rfl, ?_⟩; have n0_ := Aside0.mk (below_step (by repeat (first | (with_reducible first | exact HB.out | apply below_alloc | apply pw_below_drewN | apply below_drew1) | exact HB.out)) hb); clear HB; have HB := n0_; clear n0_; (try clear hb); (try clear hb2); (try clear hk); (try clear hi)) | ((with_reducible refine gate_callee (f := 32) rfl ?_); refine goesL_ (some 18) rfl rfl Tryd.func32 (by kernel_rfl) rfl #[.int .u64 (IntKind.u64.wrap (1000000 + (Int.tmod t132 1000000))), .int .i64 10] rfl (by (try simp only [List.map_toArray, List.map_cons, List.map_nil]); first | done | rfl | (simp only [List.length_drop, List.length_take]; rfl)) ?_; (with_reducible refine (strconv_FormatUint.calls (IntKind.u64.wrap (1000000 + (Int.tmod t132 1000000))) 10 t134 _ ?side1 A5.out).mono ?_); (case side1 => exact SH.below hSH (by repeat (first | (with_reducible first | exact HB.out | apply below_alloc | apply pw_below_drewN | apply below_drew1) | exact HB.out))); rintro e w13 ⟨rfl, hb⟩; refine ⟨_, rfl, ?_⟩; have n0_ := Aside0.mk (below_step (by repeat (first | (with_reducible first | exact HB.out | apply below_alloc | apply pw_below_drewN | apply below_drew1) | exact HB.out)) hb); clear HB; have HB := n0_; clear n0_; (try clear hb); (try clear hb2); (try clear hk); (try clear hi)) | ((with_reducible refine gate_callee (f := 23) rfl ?_); refine goesL_ (some 22) rfl rfl Tryd.func23 (by kernel_rfl) rfl #[.string (t134.extract 1 t134.size), .string (⟨#[48]⟩ : ByteArray)] rfl (by (try simp only [List.map_toArray, List.map_cons, List.map_nil]); first | done | rfl | (simp only [List.length_drop, List.length_take]; rfl)) ?_; (with_reducible refine (strings_TrimRight.calls (t134.extract 1 t134.size) (⟨#[48]⟩ : ByteArray) t135 _ A7.out).mono ?_); rintro e w' ⟨rfl, ⟨nd, rfl⟩⟩; refine ⟨_, rfl, ?_⟩))
              go_ret
              exact ⟨by first | rfl | (simp [errW_none, errW_some] <;> rfl) | (simp [*, errW_none, errW_some] <;> rfl), by repeat (first | (with_reducible first | exact HB.out | apply below_alloc | apply pw_below_drewN | apply below_drew1) | exact HB.out)⟩
            · rw [if_neg c11] at H
              exact absurd H (by simp)
          · rw [if_neg c10] at H
            have c10b0 : decide (a0 < 0) = false := decide_eq_false c10
            clear c10
            obtain rfl := Option.some.inj H
            go_enter Tryd.func15, Tryd.ntmps15
            go_wp2_with (first | ((with_reducible refine gate_callee (f := 31) rfl ?_); refine goesL_ (some 8) rfl rfl Tryd.func31 (by kernel_rfl) rfl #[.int .i64 a0] rfl (by (try simp only [List.map_toArray, List.map_cons, List.map_nil]); first | done | rfl | (simp only [List.length_drop, List.length_take]; rfl)) ?_; (with_reducible refine (fix_size.calls a0 t132 _ A2.out).mono ?_); rintro e w' ⟨rfl, ⟨nd, rfl⟩⟩; refine ⟨_, rfl, ?_⟩) | ((with_reducible refine gate_callee (f := 32) rfl ?_); refine goesL_ (some 11) rfl rfl Tryd.func32 (by kernel_rfl) rfl #[.int .u64 (IntKind.u64.wrap (Int.tdiv t132 1000000)), .int .i64 10] rfl (by (try simp only [List.map_toArray, List.map_cons, List.map_nil]); first | done | rfl | (simp only [List.length_drop, List.length_take]; rfl)) ?_; (with_reducible refine (strconv_FormatUint.calls (IntKind.u64.wrap (Int.tdiv t132 1000000)) 10 t133 _ ?side1 A3.out).mono ?_); (case side1 => exact SH.below hSH (by repeat (first | (with_reducible first | exact HB.out | apply below_alloc | apply pw_below_drewN | apply below_drew1) | exact HB.out))); rintro e w14 ⟨rfl, hb⟩; refine ⟨_, rfl, ?_⟩; have n0_ := Aside0.mk (below_step (by repeat (first | (with_reducible first | exact HB.out | apply below_alloc | apply pw_below_drewN | apply below_drew1) | exact HB.out)) hb); clear HB; have HB := n0_; clear n0_; (try clear hb); (try clear hb2); (try clear hk); (try clear hi)) | ((with_reducible refine gate_callee (f := 32) rfl ?_); refine goesL_ (some 18) rfl rfl Tryd.func32 (by kernel_rfl) rfl #[.int .u64 (IntKind.u64.wrap (1000000 + (Int.tmod t132 1000000))), .int .i64 10] rfl (by (try simp only [List.map_toArray, List.map_cons, List.map_nil]); first | done | rfl | (simp only [List.length_drop, List.length_take]; rfl)) ?_; (with_reducible refine (strconv_FormatUint.calls (IntKind.u64.wrap (1000000 + (Int.tmod t132 1000000))) 10 t134 _ ?side1 A5.out).mono ?_); (case side1 => exact SH.below hSH (by repeat (first | (with_reducible first | exact HB.out | apply below_alloc | apply pw_below_drewN | apply below_drew1) | exact HB.out))); rintro e w15 ⟨rfl, hb⟩; refine ⟨_, rfl, ?_⟩; have n0_ := Aside0.mk (below_step (by repeat (first | (with_reducible first | exact HB.out | apply below_alloc | apply pw_below_drewN | apply below_drew1) | exact HB.out)) hb); clear HB; have HB := n0_; clear n0_; (try clear hb); (try clear hb2); (try clear hk); (try clear hi)) | ((with_reducible refine gate_callee (f := 23) rfl ?_); refine goesL_ (some 22) rfl rfl Tryd.func23 (by kernel_rfl) rfl #[.string (t134.extract 1 t134.size), .string (⟨#[48]⟩ : ByteArray)] rfl (by (try simp only [List.map_toArray, List.map_cons, List.map_nil]); first | done | rfl | (simp only [List.length_drop, List.length_take]; rfl)) ?_; (with_reducible refine (strings_TrimRight.calls (t134.extract 1 t134.size) (⟨#[48]⟩ : ByteArray) t135 _ A7.out).mono ?_); rintro e w' ⟨rfl, ⟨nd, rfl⟩⟩; refine ⟨_, rfl, ?_⟩))
            go_ret
            exact ⟨by first | rfl | (simp [errW_none, errW_some] <;> rfl) | (simp [*, errW_none, errW_some] <;> rfl), by repeat (first | (with_reducible first | exact HB.out | apply below_alloc | apply pw_below_drewN | apply below_drew1) | exact HB.out)⟩
        · rw [if_neg c9] at H
          exact absurd H (by simp)
      · rw [if_neg c8] at H
        exact absurd H (by simp)
    · rw [if_neg c6] at H
      exact absurd H (by simp)
  · rw [if_neg c4] at H
    have c4b0 : decide (0 < (Int.tmod t132 1000000)) = false := decide_eq_false c4
    clear c4
    by_cases c16 : a0 < 0
    · rw [if_pos c16] at H
      have c16b0 : decide (a0 < 0) = true := decide_eq_true c16
      clear c16
      by_cases c17 : 1 + t133.size ≤ 9223372036854775807
      · rw [if_pos c17] at H
        have c17b0 := eq_true c17
        have c17b1 : decide (1 + t133.size ≤ 9223372036854775807) = true := decide_eq_true c17
        try have c17b2 : (9223372036854775807 < 1 + t133.size) = False := eq_false (Nat.not_lt.2 c17)
        obtain rfl := Option.some.inj H
        go_enter Tryd.func15, Tryd.ntmps15
        go_wp2_with (first | ((with_reducible refine gate_callee (f := 31) rfl ?_); refine goesL_ (some 8) rfl rfl Tryd.func31 (by kernel_rfl) rfl #[.int .i64 a0] rfl (by (try simp only [List.map_toArray, List.map_cons, List.map_nil]); first | done | rfl | (simp only [List.length_drop, List.length_take]; rfl)) ?_; (with_reducible refine (fix_size.calls a0 t132 _ A2.out).mono ?_); rintro e w' ⟨rfl, ⟨nd, rfl⟩⟩; refine ⟨_, rfl, ?_⟩) | ((with_reducible refine gate_callee (f := 32) rfl ?_); refine goesL_ (some 11) rfl rfl Tryd.func32 (by kernel_rfl) rfl #[.int .u64 (IntKind.u64.wrap (Int.tdiv t132 1000000)), .int .i64 10] rfl (by (try simp only [List.map_toArray, List.map_cons, List.map_nil]); first | done | rfl | (simp only [List.length_drop, List.length_take]; rfl)) ?_; (with_reducible refine (strconv_FormatUint.calls (IntKind.u64.wrap (Int.tdiv t132 1000000)) 10 t133 _ ?side1 A3.out).mono ?_); (case side1 => exact SH.below hSH (by repeat (first | (with_reducible first | exact HB.out | apply below_alloc | apply pw_below_drewN | apply below_drew1) | exact HB.out))); rintro e w18 ⟨rfl, hb⟩; refine ⟨_, rfl, ?_⟩; have n0_ := Aside0.mk (below_step (by repeat (first | (with_reducible first | exact HB.out | apply below_alloc | apply pw_below_drewN | apply below_drew1) | exact HB.out)) hb); clear HB; have HB := n0_; clear n0_; (try clear hb); (try clear hb2); (try clear hk); (try clear hi)))
        go_ret
        exact ⟨by first | rfl | (simp [errW_none, errW_some] <;> rfl) | (simp [*, errW_none, errW_some] <;> rfl), by repeat (first | (with_reducible first | exact HB.out | apply below_alloc | apply pw_below_drewN | apply below_drew1) | exact HB.out)⟩
      · rw [if_neg c17] at H
        exact absurd H (by simp)
    · rw [if_neg c16] at H
      have c16b0 : decide (a0 < 0) = false := decide_eq_false c16
      clear c16
      obtain rfl := Option.some.inj H
      go_enter Tryd.func15, Tryd.ntmps15
      go_wp2_with (first | ((with_reducible refine gate_callee (f := 31) rfl ?_); refine goesL_ (some 8) rfl rfl Tryd.func31 (by kernel_rfl) rfl #[.int .i64 a0] rfl (by (try simp only [List.map_toArray, List.map_cons, List.map_nil]); first | done | rfl | (simp only [List.length_drop, List.length_take]; rfl)) ?_; (with_reducible refine (fix_size.calls a0 t132 _ A2.out).mono ?_); rintro e w' ⟨rfl, ⟨nd, rfl⟩⟩; refine ⟨_, rfl, ?_⟩) | ((with_reducible refine gate_callee (f := 32) rfl ?_); refine goesL_ (some 11) rfl rfl Tryd.func32 (by kernel_rfl) rfl #[.int .u64 (IntKind.u64.wrap (Int.tdiv t132 1000000)), .int .i64 10] rfl (by (try simp only [List.map_toArray, List.map_cons, List.map_nil]); first | done | rfl | (simp only [List.length_drop, List.length_take]; rfl)) ?_; (with_reducible refine (strconv_FormatUint.calls (IntKind.u64.wrap (Int.tdiv t132 1000000)) 10 t133 _ ?side1 A3.out).mono ?_); (case side1 => exact SH.below hSH (by repeat (first | (with_reducible first | exact HB.out | apply below_alloc | apply pw_below_drewN | apply below_drew1) | exact HB.out))); rintro e w19 ⟨rfl, hb⟩; refine ⟨_, rfl, ?_⟩; have n0_ := Aside0.mk (below_step (by repeat (first | (with_reducible first | exact HB.out | apply below_alloc | apply pw_below_drewN | apply below_drew1) | exact HB.out)) hb); clear HB; have HB := n0_; clear n0_; (try clear hb); (try clear hb2); (try clear hk); (try clear hi)))
      go_ret
      exact ⟨by first | rfl | (simp [errW_none, errW_some] <;> rfl) | (simp [*, errW_none, errW_some] <;> rfl), by repeat (first | (with_reducible first | exact HB.out | apply below_alloc | apply pw_below_drewN | apply below_drew1) | exact HB.out)⟩

/-! ### odometerlaw01_FixTexts: function 5 -/
mutual
def odometerlaw01_FixTexts.j0 : Nat → Int → Int → Bool → Option (Bool)
  | 0, _, _, _ => none
  | k + 1, x0, x1, x18 => if x18 = true then ((odometerlaw01_known.f).bind fun t136 => (some t136)) else ((odometerref01_Text.f k x0).bind fun t137 => ((fix_Parse.f t137).bind fun bt138 => ((fix_Text.f x0).bind fun t140 => (if t140.toList = t137.toList then (if bt138.2 = 0 then (odometerlaw01_FixTexts.j1 k x0 x1 t137 (bt138.1 != x0)) else (odometerlaw01_FixTexts.j1 k x0 x1 t137 true)) else (odometerlaw01_FixTexts.j1 k x0 x1 t137 true)))))
def odometerlaw01_FixTexts.j1 : Nat → Int → Int → ByteArray → Bool → Option (Bool)
  | 0, _, _, _, _ => none
  | k + 1, x0, x1, x5, x39 => if x39 = true then (some false) else (if x0 < 0 then (if 1 ≤ (x5.size : Int) then (odometerlaw01_FixTexts.j2 k x0 x1 (⟨#[45]⟩ : ByteArray) (x5.extract 1 x5.size)) else (none)) else (odometerlaw01_FixTexts.j2 k x0 x1 (⟨#[]⟩ : ByteArray) x5))
def odometerlaw01_FixTexts.j2 : Nat → Int → Int → ByteArray → ByteArray → Option (Bool)
  | 0, _, _, _, _ => none
  | k + 1, x0, x1, x8, x9 => odometerlaw01_FixTexts.l0 k x0 x1 x8 x9 false 0
def odometerlaw01_FixTexts.l0 : Nat → Int → Int → ByteArray → ByteArray → Bool → Int → Option (Bool)
  | 0, _, _, _, _, _, _ => none
  | k + 1, x0, x1, x8, x9, x10, x11 => if x11 < (x9.size : Int) then (if x10 = true then (odometerlaw01_FixTexts.l0 k x0 x1 x8 x9 true (wrap64 (x11 + 1))) else (if 0 ≤ x11 then (odometerlaw01_FixTexts.l0 k x0 x1 x8 x9 ((bt x9 x11) == 46) (wrap64 (x11 + 1))) else (none))) else (if x10 = true then (odometerlaw01_FixTexts.j4 k x0 x1 x8 x9) else (if x9.size + 1 ≤ 9223372036854775807 then (odometerlaw01_FixTexts.j4 k x0 x1 x8 (x9 ++ (⟨#[46]⟩ : ByteArray))) else (none)))
def odometerlaw01_FixTexts.j4 : Nat → Int → Int → ByteArray → ByteArray → Option (Bool)
  | 0, _, _, _, _ => none
  | k + 1, x0, x1, x8, x9 => odometerlaw01_FixTexts.l1 k x0 x1 x8 x9 0
def odometerlaw01_FixTexts.l1 : Nat → Int → Int → ByteArray → ByteArray → Int → Option (Bool)
  | 0, _, _, _, _, _ => none
  | k + 1, x0, x1, x8, x9, x12 => if x12 < x1 then (if 1 + x9.size ≤ 9223372036854775807 then (if ((⟨#[48]⟩ : ByteArray) ++ x9).size + 1 ≤ 9223372036854775807 then (odometerlaw01_FixTexts.l1 k x0 x1 x8 (((⟨#[48]⟩ : ByteArray) ++ x9) ++ (⟨#[48]⟩ : ByteArray)) (wrap64 (x12 + 1))) else (none)) else (none)) else (if x8.size + x9.size ≤ 9223372036854775807 then ((odometerlaw01_reads.f (x8 ++ x9) x0).bind fun t141 => (if t141 = true then (if (x8 ++ x9).size + 4 ≤ 9223372036854775807 then ((odometerlaw01_reads.f ((x8 ++ x9) ++ (⟨#[69, 43, 48, 48]⟩ : ByteArray)) x0).bind fun t142 => (if t142 = true then ((odometerlaw01_known.f).bind fun t143 => (some t143)) else (some false))) else (none)) else (some false))) else (none))
end
def odometerlaw01_FixTexts.f (k : Nat) (a0 : Int) (a1 : Int) : Option (Bool) := if a1 < 0 then (odometerlaw01_FixTexts.j0 k a0 a1 true) else (odometerlaw01_FixTexts.j0 k a0 a1 (decide (a1 > 40)))
theorem odometerlaw01_FixTexts.mono_l : ∀ k, (∀ y0 y1 y2, LeO (odometerlaw01_FixTexts.j0 k y0 y1 y2) (odometerlaw01_FixTexts.j0 (k + 1) y0 y1 y2)) ∧ (∀ y0 y1 y2 y3, LeO (odometerlaw01_FixTexts.j1 k y0 y1 y2 y3) (odometerlaw01_FixTexts.j1 (k + 1) y0 y1 y2 y3)) ∧ (∀ y0 y1 y2 y3, LeO (odometerlaw01_FixTexts.j2 k y0 y1 y2 y3) (odometerlaw01_FixTexts.j2 (k + 1) y0 y1 y2 y3)) ∧ (∀ y0 y1 y2 y3 y4 y5, LeO (odometerlaw01_FixTexts.l0 k y0 y1 y2 y3 y4 y5) (odometerlaw01_FixTexts.l0 (k + 1) y0 y1 y2 y3 y4 y5)) ∧ (∀ y0 y1 y2 y3, LeO (odometerlaw01_FixTexts.j4 k y0 y1 y2 y3) (odometerlaw01_FixTexts.j4 (k + 1) y0 y1 y2 y3)) ∧ (∀ y0 y1 y2 y3 y4, LeO (odometerlaw01_FixTexts.l1 k y0 y1 y2 y3 y4) (odometerlaw01_FixTexts.l1 (k + 1) y0 y1 y2 y3 y4))
  | 0 => ⟨fun _ _ _ r h => by simp [odometerlaw01_FixTexts.j0] at h, fun _ _ _ _ r h => by simp [odometerlaw01_FixTexts.j1] at h, fun _ _ _ _ r h => by simp [odometerlaw01_FixTexts.j2] at h, fun _ _ _ _ _ _ r h => by simp [odometerlaw01_FixTexts.l0] at h, fun _ _ _ _ r h => by simp [odometerlaw01_FixTexts.j4] at h, fun _ _ _ _ _ r h => by simp [odometerlaw01_FixTexts.l1] at h⟩
  | k + 1 => by
    obtain ⟨ih0, ih1, ih2, ih3, ih4, ih5⟩ := odometerlaw01_FixTexts.mono_l k
    refine ⟨?_, ?_, ?_, ?_, ?_, ?_⟩
    · intro y0 y1 y2
      unfold odometerlaw01_FixTexts.j0
      repeat' first
      | (with_reducible exact ih0 _ _ _)
      | (with_reducible exact ih1 _ _ _ _)
      | (with_reducible exact ih2 _ _ _ _)
      | (with_reducible exact ih3 _ _ _ _ _ _)
      | (with_reducible exact ih4 _ _ _ _)
      | (with_reducible exact ih5 _ _ _ _ _)
      | (with_reducible exact odometerref01_Text.mono _ _)
      | (with_reducible exact LeO.refl _)
      | (with_reducible exact LeO.none _)
      | (with_reducible refine LeO.ite ?_ ?_)
      | (with_reducible refine LeO.bind ?_ (fun _ => ?_))
      | exact ih0 _ _ _
      | exact ih1 _ _ _ _
      | exact ih2 _ _ _ _
      | exact ih3 _ _ _ _ _ _
      | exact ih4 _ _ _ _
      | exact ih5 _ _ _ _ _
      | exact odometerref01_Text.mono _ _
      | exact LeO.none _
      | refine LeO.ite ?_ ?_
      | refine LeO.bind ?_ (fun _ => ?_)
    · intro y0 y1 y2 y3
      unfold odometerlaw01_FixTexts.j1
      repeat' first
      | (with_reducible exact ih0 _ _ _)
      | (with_reducible exact ih1 _ _ _ _)
      | (with_reducible exact ih2 _ _ _ _)
      | (with_reducible exact ih3 _ _ _ _ _ _)
      | (with_reducible exact ih4 _ _ _ _)
      | (with_reducible exact ih5 _ _ _ _ _)
      | (with_reducible exact odometerref01_Text.mono _ _)
      | (with_reducible exact LeO.refl _)
      | (with_reducible exact LeO.none _)
      | (with_reducible refine LeO.ite ?_ ?_)
      | (with_reducible refine LeO.bind ?_ (fun _ => ?_))
      | exact ih0 _ _ _
      | exact ih1 _ _ _ _
      | exact ih2 _ _ _ _
      | exact ih3 _ _ _ _ _ _
      | exact ih4 _ _ _ _
      | exact ih5 _ _ _ _ _
      | exact odometerref01_Text.mono _ _
      | exact LeO.none _
      | refine LeO.ite ?_ ?_
      | refine LeO.bind ?_ (fun _ => ?_)
    · intro y0 y1 y2 y3
      unfold odometerlaw01_FixTexts.j2
      repeat' first
      | (with_reducible exact ih0 _ _ _)
      | (with_reducible exact ih1 _ _ _ _)
      | (with_reducible exact ih2 _ _ _ _)
      | (with_reducible exact ih3 _ _ _ _ _ _)
      | (with_reducible exact ih4 _ _ _ _)
      | (with_reducible exact ih5 _ _ _ _ _)
      | (with_reducible exact odometerref01_Text.mono _ _)
      | (with_reducible exact LeO.refl _)
      | (with_reducible exact LeO.none _)
      | (with_reducible refine LeO.ite ?_ ?_)
      | (with_reducible refine LeO.bind ?_ (fun _ => ?_))
      | exact ih0 _ _ _
      | exact ih1 _ _ _ _
      | exact ih2 _ _ _ _
      | exact ih3 _ _ _ _ _ _
      | exact ih4 _ _ _ _
      | exact ih5 _ _ _ _ _
      | exact odometerref01_Text.mono _ _
      | exact LeO.none _
      | refine LeO.ite ?_ ?_
      | refine LeO.bind ?_ (fun _ => ?_)
    · intro y0 y1 y2 y3 y4 y5
      unfold odometerlaw01_FixTexts.l0
      repeat' first
      | (with_reducible exact ih0 _ _ _)
      | (with_reducible exact ih1 _ _ _ _)
      | (with_reducible exact ih2 _ _ _ _)
      | (with_reducible exact ih3 _ _ _ _ _ _)
      | (with_reducible exact ih4 _ _ _ _)
      | (with_reducible exact ih5 _ _ _ _ _)
      | (with_reducible exact odometerref01_Text.mono _ _)
      | (with_reducible exact LeO.refl _)
      | (with_reducible exact LeO.none _)
      | (with_reducible refine LeO.ite ?_ ?_)
      | (with_reducible refine LeO.bind ?_ (fun _ => ?_))
      | exact ih0 _ _ _
      | exact ih1 _ _ _ _
      | exact ih2 _ _ _ _
      | exact ih3 _ _ _ _ _ _
      | exact ih4 _ _ _ _
      | exact ih5 _ _ _ _ _
      | exact odometerref01_Text.mono _ _
      | exact LeO.none _
      | refine LeO.ite ?_ ?_
      | refine LeO.bind ?_ (fun _ => ?_)
    · intro y0 y1 y2 y3
      unfold odometerlaw01_FixTexts.j4
      repeat' first
      | (with_reducible exact ih0 _ _ _)
      | (with_reducible exact ih1 _ _ _ _)
      | (with_reducible exact ih2 _ _ _ _)
      | (with_reducible exact ih3 _ _ _ _ _ _)
      | (with_reducible exact ih4 _ _ _ _)
      | (with_reducible exact ih5 _ _ _ _ _)
      | (with_reducible exact odometerref01_Text.mono _ _)
      | (with_reducible exact LeO.refl _)
      | (with_reducible exact LeO.none _)
      | (with_reducible refine LeO.ite ?_ ?_)
      | (with_reducible refine LeO.bind ?_ (fun _ => ?_))
      | exact ih0 _ _ _
      | exact ih1 _ _ _ _
      | exact ih2 _ _ _ _
      | exact ih3 _ _ _ _ _ _
      | exact ih4 _ _ _ _
      | exact ih5 _ _ _ _ _
      | exact odometerref01_Text.mono _ _
      | exact LeO.none _
      | refine LeO.ite ?_ ?_
      | refine LeO.bind ?_ (fun _ => ?_)
    · intro y0 y1 y2 y3 y4
      unfold odometerlaw01_FixTexts.l1
      repeat' first
      | (with_reducible exact ih0 _ _ _)
      | (with_reducible exact ih1 _ _ _ _)
      | (with_reducible exact ih2 _ _ _ _)
      | (with_reducible exact ih3 _ _ _ _ _ _)
      | (with_reducible exact ih4 _ _ _ _)
      | (with_reducible exact ih5 _ _ _ _ _)
      | (with_reducible exact odometerref01_Text.mono _ _)
      | (with_reducible exact LeO.refl _)
      | (with_reducible exact LeO.none _)
      | (with_reducible refine LeO.ite ?_ ?_)
      | (with_reducible refine LeO.bind ?_ (fun _ => ?_))
      | exact ih0 _ _ _
      | exact ih1 _ _ _ _
      | exact ih2 _ _ _ _
      | exact ih3 _ _ _ _ _ _
      | exact ih4 _ _ _ _
      | exact ih5 _ _ _ _ _
      | exact odometerref01_Text.mono _ _
      | exact LeO.none _
      | refine LeO.ite ?_ ?_
      | refine LeO.bind ?_ (fun _ => ?_)
theorem odometerlaw01_FixTexts.mono : ∀ a0 a1 k, LeO (odometerlaw01_FixTexts.f k a0 a1) (odometerlaw01_FixTexts.f (k + 1) a0 a1) := by
  intro a0 a1 k
  obtain ⟨ih0, ih1, ih2, ih3, ih4, ih5⟩ := odometerlaw01_FixTexts.mono_l k
  unfold odometerlaw01_FixTexts.f
  repeat' first
      | (with_reducible exact ih0 _ _ _)
      | (with_reducible exact ih1 _ _ _ _)
      | (with_reducible exact ih2 _ _ _ _)
      | (with_reducible exact ih3 _ _ _ _ _ _)
      | (with_reducible exact ih4 _ _ _ _)
      | (with_reducible exact ih5 _ _ _ _ _)
      | (with_reducible exact odometerref01_Text.mono _ _)
      | (with_reducible exact LeO.refl _)
      | (with_reducible exact LeO.none _)
      | (with_reducible refine LeO.ite ?_ ?_)
      | (with_reducible refine LeO.bind ?_ (fun _ => ?_))
      | exact ih0 _ _ _
      | exact ih1 _ _ _ _
      | exact ih2 _ _ _ _
      | exact ih3 _ _ _ _ _ _
      | exact ih4 _ _ _ _
      | exact ih5 _ _ _ _ _
      | exact odometerref01_Text.mono _ _
      | exact LeO.none _
      | refine LeO.ite ?_ ?_
      | refine LeO.bind ?_ (fun _ => ?_)
set_option maxHeartbeats 8000000 in
set_option maxRecDepth 100000 in
theorem odometerlaw01_FixTexts.calls (k : Nat) (a0 : Int) (a1 : Int) (r : Bool) (w : World) (hSH : SH w) (h : odometerlaw01_FixTexts.f k a0 a1 = some r) :
    Calls Tryd.prog 5 #[.int .i64 a0, .int .i64 a1] w fun e w' => e = .returned (.bool r) ∧ Below w.heap.size w w' := by
  have HB := Aside0.mk (Below.refl w.heap.size w)
  have H : (if a1 < 0 then (odometerlaw01_FixTexts.j0 k a0 a1 true) else (odometerlaw01_FixTexts.j0 k a0 a1 (decide (a1 > 40)))) = some r := h
  clear h
  have HC3 := Aside0.mk H
  clear H
  go_enter Tryd.func5, Tryd.ntmps5
  go_upto_region 1 with (fail)
  go_cut [18] (fun v18 wc => ∃ (kq : Nat) (x18_2 : Bool), v18 = .bool x18_2 ∧ Aside0 (odometerlaw01_FixTexts.j0 kq a0 a1 x18_2 = some r) ∧ Aside0 (kq ≤ k) ∧ Aside0 (Below w.heap.size w wc))
  case first =>
    have H := HC3.out
    clear HC3
    by_cases c4 : a1 < 0
    · rw [if_pos c4] at H
      have c4b0 : decide (a1 < 0) = true := decide_eq_true c4
      clear c4
      (first | rw [c4b0] | (simp only [i64_w, i32_w]; rw [c4b0]) | skip)
      have H' := Aside0.mk H
      clear H
      go_wp2
      go_meet
      case rel => exact ⟨_, (true), (by first | rfl | (simp; done) | (simp [*]; done)), H', ⟨by first | omega | exact Nat.le_refl _⟩, ⟨by repeat (first | (with_reducible first | exact HB.out | apply below_alloc | apply pw_below_drewN | apply below_drew1) | exact HB.out)⟩⟩
    · rw [if_neg c4] at H
      have c4b0 : decide (a1 < 0) = false := decide_eq_false c4
      clear c4
      (first | rw [c4b0] | (simp only [i64_w, i32_w]; rw [c4b0]) | skip)
      have H' := Aside0.mk H
      clear H
      go_wp2
      go_meet
      case rel => exact ⟨_, (decide (a1 > 40)), (by first | rfl | (simp; done) | (simp [*]; done)), H', ⟨by first | omega | exact Nat.le_refl _⟩, ⟨by repeat (first | (with_reducible first | exact HB.out | apply below_alloc | apply pw_below_drewN | apply below_drew1) | exact HB.out)⟩⟩
  case rest =>
    clear HC3
    try clear p2
    try clear c4
    try clear c4b0
    obtain ⟨kq, x18_2, rfl, HA, HJ2, HB⟩ := hcut
    cases kq with
    | zero => exact absurd HA.out (by simp [odometerlaw01_FixTexts.j0])
    | succ kj2 =>
      have H := HA.out
      clear HA
      simp only [odometerlaw01_FixTexts.j0] at H
      by_cases c5 : x18_2 = true
      · subst c5
        have H1 : ((odometerlaw01_known.f).bind fun t136 => (some t136)) = some r := by rw [if_pos rfl] at H; exact H
        clear H
        have H := H1
        clear H1
        replace H := Option.bind_eq_some_iff.mp H
        obtain ⟨t136, A60, H⟩ := H
        replace H : (some t136) = some r := H
        have A6 := Aside0.mk A60
        clear A60
        obtain rfl := Option.some.inj H
        go_wp2_with (first | ((with_reducible refine gate_callee (f := 7) rfl ?_); refine goesL_ (some 19) rfl rfl Tryd.func7 (by kernel_rfl) rfl #[] rfl (by (try simp only [List.map_toArray, List.map_cons, List.map_nil]); first | done | rfl | (simp only [List.length_drop, List.length_take]; rfl)) ?_; (with_reducible refine (odometerlaw01_known.calls  t136 _ A6.out).mono ?_); rintro e w7 ⟨rfl, hb⟩; refine ⟨_, rfl, ?_⟩; have n0_ := Aside0.mk (below_step (by repeat (first | (with_reducible first | exact HB.out | apply below_alloc | apply pw_below_drewN | apply below_drew1) | exact HB.out)) hb); clear HB; have HB := n0_; clear n0_; (try clear hb); (try clear hb2); (try clear hk); (try clear hi)))
        go_ret
        exact ⟨by first | rfl | (simp [errW_none, errW_some] <;> rfl) | (simp [*, errW_none, errW_some] <;> rfl), by repeat (first | (with_reducible first | exact HB.out | apply below_alloc | apply pw_below_drewN | apply below_drew1) | exact HB.out)⟩
      · replace c5 := Bool.eq_false_iff.mpr c5
        subst c5
        have H1 : ((odometerref01_Text.f kj2 a0).bind fun t137 => ((fix_Parse.f t137).bind fun bt138 => ((fix_Text.f a0).bind fun t140 => (if t140.toList = t137.toList then (if bt138.2 = 0 then (odometerlaw01_FixTexts.j1 kj2 a0 a1 t137 (bt138.1 != a0)) else (odometerlaw01_FixTexts.j1 kj2 a0 a1 t137 true)) else (odometerlaw01_FixTexts.j1 kj2 a0 a1 t137 true))))) = some r := by rw [if_neg (show ¬ (false = true) by decide)] at H; exact H
        clear H
        have H := H1
        clear H1
        replace H := Option.bind_eq_some_iff.mp H
        obtain ⟨t137, A80, H⟩ := H
        replace H : ((fix_Parse.f t137).bind fun bt138 => ((fix_Text.f a0).bind fun t140 => (if t140.toList = t137.toList then (if bt138.2 = 0 then (odometerlaw01_FixTexts.j1 kj2 a0 a1 t137 (bt138.1 != a0)) else (odometerlaw01_FixTexts.j1 kj2 a0 a1 t137 true)) else (odometerlaw01_FixTexts.j1 kj2 a0 a1 t137 true)))) = some r := H
        have A8 := Aside0.mk A80
        clear A80
        replace H := Option.bind_eq_some_iff.mp H
        obtain ⟨⟨t138, t139⟩, A90, H⟩ := H
        replace H : ((fix_Text.f a0).bind fun t140 => (if t140.toList = t137.toList then (if t139 = 0 then (odometerlaw01_FixTexts.j1 kj2 a0 a1 t137 (t138 != a0)) else (odometerlaw01_FixTexts.j1 kj2 a0 a1 t137 true)) else (odometerlaw01_FixTexts.j1 kj2 a0 a1 t137 true))) = some r := H
        have A9 := Aside0.mk A90
        clear A90
        have HC10 := Aside0.mk H
        clear H
        go_upto_region 5 with (first | ((with_reducible refine gate_callee (f := 14) rfl ?_); refine goesL_ (some 21) rfl rfl Tryd.func14 (by kernel_rfl) rfl #[.int .i64 a0] rfl (by (try simp only [List.map_toArray, List.map_cons, List.map_nil]); first | done | rfl | (simp only [List.length_drop, List.length_take]; rfl)) ?_; (with_reducible refine (odometerref01_Text.calls kj2 a0 t137 _ A8.out).mono ?_); rintro e w11 ⟨rfl, hb⟩; refine ⟨_, rfl, ?_⟩; have n0_ := Aside0.mk (below_step (by repeat (first | (with_reducible first | exact HB.out | apply below_alloc | apply pw_below_drewN | apply below_drew1) | exact HB.out)) hb); clear HB; have HB := n0_; clear n0_; (try clear hb); (try clear hb2); (try clear hk); (try clear hi)) | ((with_reducible refine gate_callee (f := 8) rfl ?_); refine goesL_ (some 24) rfl rfl Tryd.func8 (by kernel_rfl) rfl #[.string t137] rfl (by (try simp only [List.map_toArray, List.map_cons, List.map_nil]); first | done | rfl | (simp only [List.length_drop, List.length_take]; rfl)) ?_; (with_reducible refine (fix_Parse.calls t137 t138 t139 _ A9.out).mono ?_); rintro e w12 ⟨rfl, hb⟩; refine ⟨_, rfl, ?_⟩; have n0_ := Aside0.mk (below_step (by repeat (first | (with_reducible first | exact HB.out | apply below_alloc | apply pw_below_drewN | apply below_drew1) | exact HB.out)) hb); clear HB; have HB := n0_; clear n0_; (try clear hb); (try clear hb2); (try clear hk); (try clear hi)))
        (try simp only [Act.put, List.setIfInBounds_toArray, List.set_cons_zero, List.set_cons_succ])
        go_cut [39] (fun v39 wc => ∃ (kq : Nat) (x39_9 : Bool), v39 = .bool x39_9 ∧ Aside0 (odometerlaw01_FixTexts.j1 kq a0 a1 t137 x39_9 = some r) ∧ Aside0 (kq ≤ kj2) ∧ Aside0 (Below w.heap.size w wc))
        case first =>
          have H := HC10.out
          clear HC10
          replace H := Option.bind_eq_some_iff.mp H
          obtain ⟨t140, A130, H⟩ := H
          replace H : (if t140.toList = t137.toList then (if t139 = 0 then (odometerlaw01_FixTexts.j1 kj2 a0 a1 t137 (t138 != a0)) else (odometerlaw01_FixTexts.j1 kj2 a0 a1 t137 true)) else (odometerlaw01_FixTexts.j1 kj2 a0 a1 t137 true)) = some r := H
          have A13 := Aside0.mk A130
          clear A130
          by_cases c14 : t140.toList = t137.toList
          · rw [if_pos c14] at H
            have c14b0 : (t140.toList == t137.toList) = true := beq_iff_eq.mpr c14
            have c14b1 : (t140.toList != t137.toList) = false := bne_eq_false_iff_eq.mpr c14
            clear c14
            (first | rw [c14b0] | (simp only [i64_w, i32_w]; rw [c14b0]) | skip)
            by_cases c15 : t139 = 0
            · rw [if_pos c15] at H
              have c15b0 : (t139 == 0) = true := beq_iff_eq.mpr c15
              have c15b1 : (t139 != 0) = false := bne_eq_false_iff_eq.mpr c15
              clear c15
              have H' := Aside0.mk H
              clear H
              go_wp2_with (first | ((with_reducible refine gate_callee (f := 15) rfl ?_); refine goesL_ (some 28) rfl rfl Tryd.func15 (by kernel_rfl) rfl #[.int .i64 a0] rfl (by (try simp only [List.map_toArray, List.map_cons, List.map_nil]); first | done | rfl | (simp only [List.length_drop, List.length_take]; rfl)) ?_; (with_reducible refine (fix_Text.calls a0 t140 _ ?side1 A13.out).mono ?_); (case side1 => exact SH.below hSH (by repeat (first | (with_reducible first | exact HB.out | apply below_alloc | apply pw_below_drewN | apply below_drew1) | exact HB.out))); rintro e w16 ⟨rfl, hb⟩; refine ⟨_, rfl, ?_⟩; have n0_ := Aside0.mk (below_step (by repeat (first | (with_reducible first | exact HB.out | apply below_alloc | apply pw_below_drewN | apply below_drew1) | exact HB.out)) hb); clear HB; have HB := n0_; clear n0_; (try clear hb); (try clear hb2); (try clear hk); (try clear hi)))
              go_meet
              case rel => exact ⟨_, ((t138 != a0)), (by first | rfl | (simp; done) | (simp [*]; done)), H', ⟨by have := HJ2.out; first | omega | exact Nat.le_refl _⟩, ⟨by repeat (first | (with_reducible first | exact HB.out | apply below_alloc | apply pw_below_drewN | apply below_drew1) | exact HB.out)⟩⟩
            · rw [if_neg c15] at H
              have c15b0 : (t139 == 0) = false := beq_eq_false_iff_ne.mpr c15
              have c15b1 : (t139 != 0) = true := bne_iff_ne.mpr c15
              have H' := Aside0.mk H
              clear H
              go_wp2_with (first | ((with_reducible refine gate_callee (f := 15) rfl ?_); refine goesL_ (some 28) rfl rfl Tryd.func15 (by kernel_rfl) rfl #[.int .i64 a0] rfl (by (try simp only [List.map_toArray, List.map_cons, List.map_nil]); first | done | rfl | (simp only [List.length_drop, List.length_take]; rfl)) ?_; (with_reducible refine (fix_Text.calls a0 t140 _ ?side1 A13.out).mono ?_); (case side1 => exact SH.below hSH (by repeat (first | (with_reducible first | exact HB.out | apply below_alloc | apply pw_below_drewN | apply below_drew1) | exact HB.out))); rintro e w17 ⟨rfl, hb⟩; refine ⟨_, rfl, ?_⟩; have n0_ := Aside0.mk (below_step (by repeat (first | (with_reducible first | exact HB.out | apply below_alloc | apply pw_below_drewN | apply below_drew1) | exact HB.out)) hb); clear HB; have HB := n0_; clear n0_; (try clear hb); (try clear hb2); (try clear hk); (try clear hi)))
              go_meet
              case rel => exact ⟨_, (true), (by first | rfl | (simp; done) | (simp [*]; done)), H', ⟨by have := HJ2.out; first | omega | exact Nat.le_refl _⟩, ⟨by repeat (first | (with_reducible first | exact HB.out | apply below_alloc | apply pw_below_drewN | apply below_drew1) | exact HB.out)⟩⟩
          · rw [if_neg c14] at H
            have c14b0 : (t140.toList == t137.toList) = false := beq_eq_false_iff_ne.mpr c14
            have c14b1 : (t140.toList != t137.toList) = true := bne_iff_ne.mpr c14
            (first | rw [c14b0] | (simp only [i64_w, i32_w]; rw [c14b0]) | skip)
            have H' := Aside0.mk H
            clear H
            go_wp2_with (first | ((with_reducible refine gate_callee (f := 15) rfl ?_); refine goesL_ (some 28) rfl rfl Tryd.func15 (by kernel_rfl) rfl #[.int .i64 a0] rfl (by (try simp only [List.map_toArray, List.map_cons, List.map_nil]); first | done | rfl | (simp only [List.length_drop, List.length_take]; rfl)) ?_; (with_reducible refine (fix_Text.calls a0 t140 _ ?side1 A13.out).mono ?_); (case side1 => exact SH.below hSH (by repeat (first | (with_reducible first | exact HB.out | apply below_alloc | apply pw_below_drewN | apply below_drew1) | exact HB.out))); rintro e w18 ⟨rfl, hb⟩; refine ⟨_, rfl, ?_⟩; have n0_ := Aside0.mk (below_step (by repeat (first | (with_reducible first | exact HB.out | apply below_alloc | apply pw_below_drewN | apply below_drew1) | exact HB.out)) hb); clear HB; have HB := n0_; clear n0_; (try clear hb); (try clear hb2); (try clear hk); (try clear hi)))
            go_meet
            case rel => exact ⟨_, (true), (by first | rfl | (simp; done) | (simp [*]; done)), H', ⟨by have := HJ2.out; first | omega | exact Nat.le_refl _⟩, ⟨by repeat (first | (with_reducible first | exact HB.out | apply below_alloc | apply pw_below_drewN | apply below_drew1) | exact HB.out)⟩⟩
        case rest =>
          clear HC10
          try clear c1
          try clear p2
          try clear c4
          try clear c4b0
          try clear c5
          try clear c7
          try clear c8
          try clear c14
          try clear c14b0
          try clear c14b1
          try clear c15
          try clear c15b0
          try clear c15b1
          try clear p2
          obtain ⟨kq, x39_9, rfl, HA, HJ9, HB⟩ := hcut
          cases kq with
          | zero => exact absurd HA.out (by simp [odometerlaw01_FixTexts.j1])
          | succ kj9 =>
            have H := HA.out
            clear HA
            simp only [odometerlaw01_FixTexts.j1] at H
            by_cases c19 : x39_9 = true
            · subst c19
              have H1 : (some false) = some r := by rw [if_pos rfl] at H; exact H
              clear H
              have H := H1
              clear H1
              obtain rfl := Option.some.inj H
              go_wp2
              go_ret
              exact ⟨by first | rfl | (simp [errW_none, errW_some] <;> rfl) | (simp [*, errW_none, errW_some] <;> rfl), by repeat (first | (with_reducible first | exact HB.out | apply below_alloc | apply pw_below_drewN | apply below_drew1) | exact HB.out)⟩
            · replace c19 := Bool.eq_false_iff.mpr c19
              subst c19
              have H1 : (if a0 < 0 then (if 1 ≤ (t137.size : Int) then (odometerlaw01_FixTexts.j2 kj9 a0 a1 (⟨#[45]⟩ : ByteArray) (t137.extract 1 t137.size)) else (none)) else (odometerlaw01_FixTexts.j2 kj9 a0 a1 (⟨#[]⟩ : ByteArray) t137)) = some r := by rw [if_neg (show ¬ (false = true) by decide)] at H; exact H
              clear H
              have H := H1
              clear H1
              have HC20 := Aside0.mk H
              clear H
              go_upto_if 42 with (fail)
              go_cut [8, 9] (fun v8 v9 wc => ∃ (kq : Nat) (x8_19 : ByteArray) (x9_19 : ByteArray), v8 = .string x8_19 ∧ v9 = .string x9_19 ∧ Aside0 (odometerlaw01_FixTexts.j2 kq a0 a1 x8_19 x9_19 = some r) ∧ Aside0 (kq ≤ kj9) ∧ Aside0 (Below w.heap.size w wc))
              case first =>
                have H := HC20.out
                clear HC20
                by_cases c21 : a0 < 0
                · rw [if_pos c21] at H
                  have c21b0 : decide (a0 < 0) = true := decide_eq_true c21
                  clear c21
                  (first | rw [c21b0] | (simp only [i64_w, i32_w]; rw [c21b0]) | skip)
                  by_cases c22 : 1 ≤ (t137.size : Int)
                  · rw [if_pos c22] at H
                    have c22b0 := eq_true c22
                    have c22b1 : decide (1 ≤ (t137.size : Int)) = true := decide_eq_true c22
                    clear c22
                    have H' := Aside0.mk H
                    clear H
                    go_wp2
                    go_meet
                    case rel => exact ⟨_, ((⟨#[45]⟩ : ByteArray)), (t137.extract 1 t137.size), (by first | rfl | (simp; done) | (simp [*]; done)), (by first | rfl | (simp; done) | (simp [*]; done)), H', ⟨by have := HJ2.out; have := HJ9.out; first | omega | exact Nat.le_refl _⟩, ⟨by repeat (first | (with_reducible first | exact HB.out | apply below_alloc | apply pw_below_drewN | apply below_drew1) | exact HB.out)⟩⟩
                  · rw [if_neg c22] at H
                    exact absurd H (by simp)
                · rw [if_neg c21] at H
                  have c21b0 : decide (a0 < 0) = false := decide_eq_false c21
                  clear c21
                  (first | rw [c21b0] | (simp only [i64_w, i32_w]; rw [c21b0]) | skip)
                  have H' := Aside0.mk H
                  clear H
                  go_wp2
                  go_meet
                  case rel => exact ⟨_, ((⟨#[]⟩ : ByteArray)), (t137), (by first | rfl | (simp; done) | (simp [*]; done)), (by first | rfl | (simp; done) | (simp [*]; done)), H', ⟨by have := HJ2.out; have := HJ9.out; first | omega | exact Nat.le_refl _⟩, ⟨by repeat (first | (with_reducible first | exact HB.out | apply below_alloc | apply pw_below_drewN | apply below_drew1) | exact HB.out)⟩⟩
              case rest =>
                clear HC20
                try clear c1
                try clear c2
                try clear p2
                try clear c4
                try clear c4b0
                try clear c5
                try clear c7
                try clear c8
                try clear c14
                try clear c14b0
                try clear c14b1
                try clear c15
                try clear c15b0
                try clear c15b1
                try clear c19
                try clear c21
                try clear c21b0
                try clear c22
                try clear c22b0
                try clear c22b1
                try clear p2
                obtain ⟨kq, x8_19, x9_19, rfl, rfl, HA, HJ19, HB⟩ := hcut
                cases kq with
                | zero => exact absurd HA.out (by simp [odometerlaw01_FixTexts.j2])
                | succ kj19 =>
                  have H := HA.out
                  clear HA
                  simp only [odometerlaw01_FixTexts.j2] at H
                  have H' := Aside0.mk H
                  clear H
                  go_wp2
                  go_loopg [10, 11] kj19 (fun kq v10 v11 w' => ∃ (x10_4 : Bool) (x11_4 : Int), v10 = .bool x10_4 ∧ v11 = .int .i64 x11_4 ∧ Aside0 (odometerlaw01_FixTexts.l0 kq a0 a1 x8_19 x9_19 x10_4 x11_4 = some r) ∧ Aside0 (kq ≤ kj19) ∧ Aside0 (Below w.heap.size w w'))
                  case atStart => exact ⟨(false), (0), (by first | rfl | (simp; done) | (simp [*]; done)), (by first | rfl | (simp; done) | (simp [*]; done)), H', ⟨Nat.le_refl _⟩, ⟨by repeat (first | (with_reducible first | exact HB.out | apply below_alloc | apply pw_below_drewN | apply below_drew1) | exact HB.out)⟩⟩
                  case round =>
                    clear H'
                    try clear c1
                    try clear c2
                    try clear p2
                    try clear c4
                    try clear c4b0
                    try clear c5
                    try clear c7
                    try clear c8
                    try clear c14
                    try clear c14b0
                    try clear c14b1
                    try clear c15
                    try clear c15b0
                    try clear c15b1
                    try clear c19
                    try clear c21
                    try clear c21b0
                    try clear c22
                    try clear c22b0
                    try clear c22b1
                    try clear p2
                    obtain ⟨x10_4, x11_4, rfl, rfl, HA, HK4, HB⟩ := hrel
                    cases gk with
                    | zero => exact absurd HA.out (by simp [odometerlaw01_FixTexts.l0])
                    | succ k4 =>
                      have H := HA.out
                      clear HA
                      simp only [odometerlaw01_FixTexts.l0] at H
                      by_cases c23 : x11_4 < (x9_19.size : Int)
                      · rw [if_pos c23] at H
                        have c23b0 : decide (x11_4 < (x9_19.size : Int)) = true := decide_eq_true c23
                        clear c23
                        by_cases c24 : x10_4 = true
                        · subst c24
                          have H1 : (odometerlaw01_FixTexts.l0 k4 a0 a1 x8_19 x9_19 true (wrap64 (x11_4 + 1))) = some r := by rw [if_pos rfl] at H; exact H
                          clear H
                          have H := H1
                          clear H1
                          have H' := Aside0.mk H
                          clear H
                          go_wp2
                          go_roundg k4
                          case measure => have := HJ2.out; have := HJ9.out; have := HJ19.out; have := HK4.out; omega
                          case rel => exact ⟨(true), (wrap64 (x11_4 + 1)), (by first | rfl | (simp; done) | (simp [*]; done)), (by first | rfl | (simp; done) | (simp [*]; done)), H', ⟨by have := HJ2.out; have := HJ9.out; have := HJ19.out; have := HK4.out; omega⟩, ⟨by repeat (first | (with_reducible first | exact HB.out | apply below_alloc | apply pw_below_drewN | apply below_drew1) | exact HB.out)⟩⟩
                        · replace c24 := Bool.eq_false_iff.mpr c24
                          subst c24
                          have H1 : (if 0 ≤ x11_4 then (odometerlaw01_FixTexts.l0 k4 a0 a1 x8_19 x9_19 ((bt x9_19 x11_4) == 46) (wrap64 (x11_4 + 1))) else (none)) = some r := by rw [if_neg (show ¬ (false = true) by decide)] at H; exact H
                          clear H
                          have H := H1
                          clear H1
                          by_cases c25 : 0 ≤ x11_4
                          · rw [if_pos c25] at H
                            have c25b0 : decide (0 ≤ x11_4) = true := decide_eq_true c25
                            clear c25
                            have H' := Aside0.mk H
                            clear H
                            have p26 : 0 ≤ (x11_4 : Int) := of_decide_eq_true (by first | (with_reducible assumption) | assumption)
                            have q26 : x11_4 < (x9_19.size : Int) := of_decide_eq_true (by first | (with_reducible assumption) | assumption)
                            have hx26 := bt_at x9_19 x11_4
                            replace p26 := eq_true p26
                            replace q26 := eq_true q26
                            go_wp2
                            go_roundg k4
                            case measure => have := HJ2.out; have := HJ9.out; have := HJ19.out; have := HK4.out; omega
                            case rel => exact ⟨(((bt x9_19 x11_4) == 46)), (wrap64 (x11_4 + 1)), (by first | rfl | (simp; done) | (simp [*]; done)), (by first | rfl | (simp; done) | (simp [*]; done)), H', ⟨by have := HJ2.out; have := HJ9.out; have := HJ19.out; have := HK4.out; omega⟩, ⟨by repeat (first | (with_reducible first | exact HB.out | apply below_alloc | apply pw_below_drewN | apply below_drew1) | exact HB.out)⟩⟩
                          · rw [if_neg c25] at H
                            exact absurd H (by simp)
                      · rw [if_neg c23] at H
                        have c23b0 : decide (x11_4 < (x9_19.size : Int)) = false := decide_eq_false c23
                        clear c23
                        have HC27 := Aside0.mk H
                        clear H
                        go_upto_if 59 with (fail)
                        go_cut [9] (fun v9 wc => ∃ (kq : Nat) (x9_26 : ByteArray), v9 = .string x9_26 ∧ Aside0 (odometerlaw01_FixTexts.j4 kq a0 a1 x8_19 x9_26 = some r) ∧ Aside0 (kq ≤ k4) ∧ Aside0 (Below w.heap.size w wc))
                        case first =>
                          have H := HC27.out
                          clear HC27
                          by_cases c28 : x10_4 = true
                          · subst c28
                            have H1 : (odometerlaw01_FixTexts.j4 k4 a0 a1 x8_19 x9_19) = some r := by rw [if_pos rfl] at H; exact H
                            clear H
                            have H := H1
                            clear H1
                            have H' := Aside0.mk H
                            clear H
                            go_wp2
                            go_meet
                            case rel => exact ⟨_, (x9_19), (by first | rfl | (simp; done) | (simp [*]; done)), H', ⟨by have := HJ2.out; have := HJ9.out; have := HJ19.out; have := HK4.out; first | omega | exact Nat.le_refl _⟩, ⟨by repeat (first | (with_reducible first | exact HB.out | apply below_alloc | apply pw_below_drewN | apply below_drew1) | exact HB.out)⟩⟩
                          · replace c28 := Bool.eq_false_iff.mpr c28
                            subst c28
                            have H1 : (if x9_19.size + 1 ≤ 9223372036854775807 then (odometerlaw01_FixTexts.j4 k4 a0 a1 x8_19 (x9_19 ++ (⟨#[46]⟩ : ByteArray))) else (none)) = some r := by rw [if_neg (show ¬ (false = true) by decide)] at H; exact H
                            clear H
                            have H := H1
                            clear H1
                            by_cases c29 : x9_19.size + 1 ≤ 9223372036854775807
                            · rw [if_pos c29] at H
                              have c29b0 := eq_true c29
                              have c29b1 : decide (x9_19.size + 1 ≤ 9223372036854775807) = true := decide_eq_true c29
                              try have c29b2 : (9223372036854775807 < x9_19.size + 1) = False := eq_false (Nat.not_lt.2 c29)
                              have H' := Aside0.mk H
                              clear H
                              go_wp2
                              go_meet
                              case rel => exact ⟨_, (x9_19 ++ (⟨#[46]⟩ : ByteArray)), (by first | rfl | (simp; done) | (simp [*]; done)), H', ⟨by have := HJ2.out; have := HJ9.out; have := HJ19.out; have := HK4.out; first | omega | exact Nat.le_refl _⟩, ⟨by repeat (first | (with_reducible first | exact HB.out | apply below_alloc | apply pw_below_drewN | apply below_drew1) | exact HB.out)⟩⟩
                            · rw [if_neg c29] at H
                              exact absurd H (by simp)
                        case rest =>
                          clear HC27
                          try clear c1
                          try clear c2
                          try clear p2
                          try clear q2
                          try clear hx2
                          try clear c4
                          try clear c4b0
                          try clear c5
                          try clear p6
                          try clear c7
                          try clear c8
                          try clear c14
                          try clear c14b0
                          try clear c14b1
                          try clear c15
                          try clear c15b0
                          try clear c15b1
                          try clear c19
                          try clear c21
                          try clear c21b0
                          try clear c22
                          try clear c22b0
                          try clear c22b1
                          try clear c23
                          try clear c23b0
                          try clear c24
                          try clear c25
                          try clear c25b0
                          try clear p26
                          try clear q26
                          try clear hx26
                          try clear c28
                          try clear c29
                          try clear c29b0
                          try clear c29b1
                          try clear c29b2
                          try clear p2
                          try clear p26
                          try clear q26
                          obtain ⟨kq, x9_26, rfl, HA, HJ26, HB⟩ := hcut
                          cases kq with
                          | zero => exact absurd HA.out (by simp [odometerlaw01_FixTexts.j4])
                          | succ kj26 =>
                            have H := HA.out
                            clear HA
                            simp only [odometerlaw01_FixTexts.j4] at H
                            have H' := Aside0.mk H
                            clear H
                            go_wp2
                            go_loopg [9, 12] kj26 (fun kq v9 v12 w' => ∃ (x9_6 : ByteArray) (x12_6 : Int), v9 = .string x9_6 ∧ v12 = .int .i64 x12_6 ∧ Aside0 (odometerlaw01_FixTexts.l1 kq a0 a1 x8_19 x9_6 x12_6 = some r) ∧ Aside0 (kq ≤ kj26) ∧ Aside0 (Below w.heap.size w w'))
                            case atStart => exact ⟨(x9_26), (0), (by first | rfl | (simp; done) | (simp [*]; done)), (by first | rfl | (simp; done) | (simp [*]; done)), H', ⟨Nat.le_refl _⟩, ⟨by repeat (first | (with_reducible first | exact HB.out | apply below_alloc | apply pw_below_drewN | apply below_drew1) | exact HB.out)⟩⟩
                            case round =>
                              clear H'
                              try clear c1
                              try clear c2
                              try clear p2
                              try clear q2
                              try clear hx2
                              try clear c4
                              try clear c4b0
                              try clear c5
                              try clear p6
                              try clear c7
                              try clear c8
                              try clear c14
                              try clear c14b0
                              try clear c14b1
                              try clear c15
                              try clear c15b0
                              try clear c15b1
                              try clear c19
                              try clear c21
                              try clear c21b0
                              try clear c22
                              try clear c22b0
                              try clear c22b1
                              try clear c23
                              try clear c23b0
                              try clear c24
                              try clear c25
                              try clear c25b0
                              try clear p26
                              try clear q26
                              try clear hx26
                              try clear c28
                              try clear c29
                              try clear c29b0
                              try clear c29b1
                              try clear c29b2
                              try clear p2
                              try clear p26
                              try clear p6
                              try clear q2
                              try clear q26
                              obtain ⟨x9_6, x12_6, rfl, rfl, HA, HK6, HB⟩ := hrel
                              cases gk with
                              | zero => exact absurd HA.out (by simp [odometerlaw01_FixTexts.l1])
                              | succ k6 =>
                                have H := HA.out
                                clear HA
                                simp only [odometerlaw01_FixTexts.l1] at H
                                by_cases c30 : x12_6 < a1
                                · rw [if_pos c30] at H
                                  have c30b0 : decide (x12_6 < a1) = true := decide_eq_true c30
                                  clear c30
                                  by_cases c31 : 1 + x9_6.size ≤ 9223372036854775807
                                  · rw [if_pos c31] at H
                                    have c31b0 := eq_true c31
                                    have c31b1 : decide (1 + x9_6.size ≤ 9223372036854775807) = true := decide_eq_true c31
                                    try have c31b2 : (9223372036854775807 < 1 + x9_6.size) = False := eq_false (Nat.not_lt.2 c31)
                                    by_cases c32 : ((⟨#[48]⟩ : ByteArray) ++ x9_6).size + 1 ≤ 9223372036854775807
                                    · rw [if_pos c32] at H
                                      have c32b0 := eq_true c32
                                      have c32b1 : decide (((⟨#[48]⟩ : ByteArray) ++ x9_6).size + 1 ≤ 9223372036854775807) = true := decide_eq_true c32
                                      try have c32b2 : (9223372036854775807 < ((⟨#[48]⟩ : ByteArray) ++ x9_6).size + 1) = False := eq_false (Nat.not_lt.2 c32)
                                      try have c32b3 : (9223372036854775807 < 1 + x9_6.size + 1) = False := eq_false (by have h_ := c32; simp only [ByteArray.size_append] at h_; have z0_ : (⟨#[48]⟩ : ByteArray).size = 1 := rfl; omega)
                                      try have c32b4 : (9223372036854775807 < (1 + x9_6.size) + 1) = False := eq_false (by have h_ := c32; simp only [ByteArray.size_append] at h_; have z0_ : (⟨#[48]⟩ : ByteArray).size = 1 := rfl; omega)
                                      have H' := Aside0.mk H
                                      clear H
                                      go_wp2
                                      go_roundg k6
                                      case measure => have := HJ2.out; have := HJ9.out; have := HJ19.out; have := HK4.out; have := HJ26.out; have := HK6.out; omega
                                      case rel => exact ⟨(((⟨#[48]⟩ : ByteArray) ++ x9_6) ++ (⟨#[48]⟩ : ByteArray)), (wrap64 (x12_6 + 1)), (by first | rfl | (simp; done) | (simp [*]; done)), (by first | rfl | (simp; done) | (simp [*]; done)), H', ⟨by have := HJ2.out; have := HJ9.out; have := HJ19.out; have := HK4.out; have := HJ26.out; have := HK6.out; omega⟩, ⟨by repeat (first | (with_reducible first | exact HB.out | apply below_alloc | apply pw_below_drewN | apply below_drew1) | exact HB.out)⟩⟩
                                    · rw [if_neg c32] at H
                                      exact absurd H (by simp)
                                  · rw [if_neg c31] at H
                                    exact absurd H (by simp)
                                · rw [if_neg c30] at H
                                  have c30b0 : decide (x12_6 < a1) = false := decide_eq_false c30
                                  clear c30
                                  by_cases c33 : x8_19.size + x9_6.size ≤ 9223372036854775807
                                  · rw [if_pos c33] at H
                                    have c33b0 := eq_true c33
                                    have c33b1 : decide (x8_19.size + x9_6.size ≤ 9223372036854775807) = true := decide_eq_true c33
                                    try have c33b2 : (9223372036854775807 < x8_19.size + x9_6.size) = False := eq_false (Nat.not_lt.2 c33)
                                    replace H := Option.bind_eq_some_iff.mp H
                                    obtain ⟨t141, A340, H⟩ := H
                                    replace H : (if t141 = true then (if (x8_19 ++ x9_6).size + 4 ≤ 9223372036854775807 then ((odometerlaw01_reads.f ((x8_19 ++ x9_6) ++ (⟨#[69, 43, 48, 48]⟩ : ByteArray)) a0).bind fun t142 => (if t142 = true then ((odometerlaw01_known.f).bind fun t143 => (some t143)) else (some false))) else (none)) else (some false)) = some r := H
                                    have A34 := Aside0.mk A340
                                    clear A340
                                    by_cases c35 : t141 = true
                                    · subst c35
                                      have H1 : (if (x8_19 ++ x9_6).size + 4 ≤ 9223372036854775807 then ((odometerlaw01_reads.f ((x8_19 ++ x9_6) ++ (⟨#[69, 43, 48, 48]⟩ : ByteArray)) a0).bind fun t142 => (if t142 = true then ((odometerlaw01_known.f).bind fun t143 => (some t143)) else (some false))) else (none)) = some r := by rw [if_pos rfl] at H; exact H
                                      clear H
                                      have H := H1
                                      clear H1
                                      by_cases c36 : (x8_19 ++ x9_6).size + 4 ≤ 9223372036854775807
                                      · rw [if_pos c36] at H
                                        have c36b0 := eq_true c36
                                        have c36b1 : decide ((x8_19 ++ x9_6).size + 4 ≤ 9223372036854775807) = true := decide_eq_true c36
                                        try have c36b2 : (9223372036854775807 < (x8_19 ++ x9_6).size + 4) = False := eq_false (Nat.not_lt.2 c36)
                                        try have c36b3 : (9223372036854775807 < x8_19.size + x9_6.size + 4) = False := eq_false (by have h_ := c36; simp only [ByteArray.size_append] at h_; omega)
                                        try have c36b4 : (9223372036854775807 < (x8_19.size + x9_6.size) + 4) = False := eq_false (by have h_ := c36; simp only [ByteArray.size_append] at h_; omega)
                                        replace H := Option.bind_eq_some_iff.mp H
                                        obtain ⟨t142, A370, H⟩ := H
                                        replace H : (if t142 = true then ((odometerlaw01_known.f).bind fun t143 => (some t143)) else (some false)) = some r := H
                                        have A37 := Aside0.mk A370
                                        clear A370
                                        by_cases c38 : t142 = true
                                        · subst c38
                                          have H1 : ((odometerlaw01_known.f).bind fun t143 => (some t143)) = some r := by rw [if_pos rfl] at H; exact H
                                          clear H
                                          have H := H1
                                          clear H1
                                          replace H := Option.bind_eq_some_iff.mp H
                                          obtain ⟨t143, A390, H⟩ := H
                                          replace H : (some t143) = some r := H
                                          have A39 := Aside0.mk A390
                                          clear A390
                                          obtain rfl := Option.some.inj H
                                          go_wp2_with (first | ((with_reducible refine gate_callee (f := 16) rfl ?_); refine goesL_ (some 74) rfl rfl Tryd.func16 (by kernel_rfl) rfl #[.string (x8_19 ++ x9_6), .int .i64 a0] rfl (by (try simp only [List.map_toArray, List.map_cons, List.map_nil]); first | done | rfl | (simp only [List.length_drop, List.length_take]; rfl)) ?_; (with_reducible refine (odometerlaw01_reads.calls (x8_19 ++ x9_6) a0 true _ A34.out).mono ?_); rintro e w40 ⟨rfl, hb⟩; refine ⟨_, rfl, ?_⟩; have n0_ := Aside0.mk (below_step (by repeat (first | (with_reducible first | exact HB.out | apply below_alloc | apply pw_below_drewN | apply below_drew1) | exact HB.out)) hb); clear HB; have HB := n0_; clear n0_; (try clear hb); (try clear hb2); (try clear hk); (try clear hi)) | (go_at_call 16; (with_reducible refine (odometerlaw01_reads.calls ((x8_19 ++ x9_6) ++ (⟨#[69, 43, 48, 48]⟩ : ByteArray)) a0 true _ A37.out).mono ?_); rintro e w41 ⟨rfl, hb⟩; have n0_ := Aside0.mk (below_step (by repeat (first | (with_reducible first | exact HB.out | apply below_alloc | apply pw_below_drewN | apply below_drew1) | exact HB.out)) hb); clear HB; have HB := n0_; clear n0_; (try clear hb); (try clear hb2); (try clear hk); (try clear hi)) | (go_at_call 7; (with_reducible refine (odometerlaw01_known.calls  t143 _ A39.out).mono ?_); rintro e w42 ⟨rfl, hb⟩; have n0_ := Aside0.mk (below_step (by repeat (first | (with_reducible first | exact HB.out | apply below_alloc | apply pw_below_drewN | apply below_drew1) | exact HB.out)) hb); clear HB; have HB := n0_; clear n0_; (try clear hb); (try clear hb2); (try clear hk); (try clear hi)))
                                          go_ret
                                          exact ⟨by first | rfl | (simp [errW_none, errW_some] <;> rfl) | (simp [*, errW_none, errW_some] <;> rfl), by repeat (first | (with_reducible first | exact HB.out | apply below_alloc | apply pw_below_drewN | apply below_drew1) | exact HB.out)⟩
                                        · replace c38 := Bool.eq_false_iff.mpr c38
                                          subst c38
                                          have H1 : (some false) = some r := by rw [if_neg (show ¬ (false = true) by decide)] at H; exact H
                                          clear H
                                          have H := H1
                                          clear H1
                                          obtain rfl := Option.some.inj H
                                          go_wp2_with (first | ((with_reducible refine gate_callee (f := 16) rfl ?_); refine goesL_ (some 74) rfl rfl Tryd.func16 (by kernel_rfl) rfl #[.string (x8_19 ++ x9_6), .int .i64 a0] rfl (by (try simp only [List.map_toArray, List.map_cons, List.map_nil]); first | done | rfl | (simp only [List.length_drop, List.length_take]; rfl)) ?_; (with_reducible refine (odometerlaw01_reads.calls (x8_19 ++ x9_6) a0 true _ A34.out).mono ?_); rintro e w43 ⟨rfl, hb⟩; refine ⟨_, rfl, ?_⟩; have n0_ := Aside0.mk (below_step (by repeat (first | (with_reducible first | exact HB.out | apply below_alloc | apply pw_below_drewN | apply below_drew1) | exact HB.out)) hb); clear HB; have HB := n0_; clear n0_; (try clear hb); (try clear hb2); (try clear hk); (try clear hi)) | (go_at_call 16; (with_reducible refine (odometerlaw01_reads.calls ((x8_19 ++ x9_6) ++ (⟨#[69, 43, 48, 48]⟩ : ByteArray)) a0 false _ A37.out).mono ?_); rintro e w44 ⟨rfl, hb⟩; have n0_ := Aside0.mk (below_step (by repeat (first | (with_reducible first | exact HB.out | apply below_alloc | apply pw_below_drewN | apply below_drew1) | exact HB.out)) hb); clear HB; have HB := n0_; clear n0_; (try clear hb); (try clear hb2); (try clear hk); (try clear hi)))
                                          go_ret
                                          exact ⟨by first | rfl | (simp [errW_none, errW_some] <;> rfl) | (simp [*, errW_none, errW_some] <;> rfl), by repeat (first | (with_reducible first | exact HB.out | apply below_alloc | apply pw_below_drewN | apply below_drew1) | exact HB.out)⟩
                                      · rw [if_neg c36] at H
                                        exact absurd H (by simp)
                                    · replace c35 := Bool.eq_false_iff.mpr c35
                                      subst c35
                                      have H1 : (some false) = some r := by rw [if_neg (show ¬ (false = true) by decide)] at H; exact H
                                      clear H
                                      have H := H1
                                      clear H1
                                      obtain rfl := Option.some.inj H
                                      go_wp2_with (first | ((with_reducible refine gate_callee (f := 16) rfl ?_); refine goesL_ (some 74) rfl rfl Tryd.func16 (by kernel_rfl) rfl #[.string (x8_19 ++ x9_6), .int .i64 a0] rfl (by (try simp only [List.map_toArray, List.map_cons, List.map_nil]); first | done | rfl | (simp only [List.length_drop, List.length_take]; rfl)) ?_; (with_reducible refine (odometerlaw01_reads.calls (x8_19 ++ x9_6) a0 false _ A34.out).mono ?_); rintro e w45 ⟨rfl, hb⟩; refine ⟨_, rfl, ?_⟩; have n0_ := Aside0.mk (below_step (by repeat (first | (with_reducible first | exact HB.out | apply below_alloc | apply pw_below_drewN | apply below_drew1) | exact HB.out)) hb); clear HB; have HB := n0_; clear n0_; (try clear hb); (try clear hb2); (try clear hk); (try clear hi)))
                                      go_ret
                                      exact ⟨by first | rfl | (simp [errW_none, errW_some] <;> rfl) | (simp [*, errW_none, errW_some] <;> rfl), by repeat (first | (with_reducible first | exact HB.out | apply below_alloc | apply pw_below_drewN | apply below_drew1) | exact HB.out)⟩
                                  · rw [if_neg c33] at H
                                    exact absurd H (by simp)

/-- THE ONE PURE STATEMENT of odometerlaw01_FixTexts: yours. -/
def odometerlaw01_FixTexts.Pure : Prop := ∀ (a0 : Int) (a1 : Int), (Lit.int .i64 a0).wf = true → (Lit.int .i64 a1).wf = true → ∃ k, odometerlaw01_FixTexts.f k a0 a1 = some true
end Go.Proofs.YtdgmgbcjlmighaaDoor.PTex
