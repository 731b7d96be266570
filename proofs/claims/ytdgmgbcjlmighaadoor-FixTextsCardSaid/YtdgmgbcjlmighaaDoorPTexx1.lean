-- Printed for this claim by a program of the session (print2.py), out of the translation; Lean checks it.
import Derived.Test.YtdgmgbcjlmighaaDoorPTexx0
namespace Go.Proofs.YtdgmgbcjlmighaaDoor.PTex
open Go.RowKit Go.Proofs.YtdgmgbcjlmighaaDoorW.PrintWords Go.Proofs.YtdgmgbcjlmighaaDoorW.PrintLast Go.Proofs.YtdgmgbcjlmighaaDoorW.PrintMore
attribute [local go_sem] max2_int min2_int max_two min_two max_three min_three max_four min_four   -- for this text's walks alone
set_option linter.unusedVariables false
set_option linter.unusedSimpArgs false

/-! ### fix_Parse: function 8 -/
def fix_Parse.f (a0 : ByteArray) : Option (Int × Int) :=
  if a0.size ≤ 1000000 ∧ (a0.data.toList.all fun c => decide (c.toNat < 128)) = true then some (parseF a0.data.toList) else none
theorem fix_Parse.calls (a0 : ByteArray) (r1 : Int) (r2 : Int) (w : World) (h : fix_Parse.f a0 = some (r1, r2)) :
    Calls Tryd.prog 8 #[.string a0] w fun e w' => e = .returned (.tuple #[.int .i64 r1, .int .i64 r2]) ∧ Below w.heap.size w w' := by
  unfold fix_Parse.f at h
  split at h
  case isFalse => cases h
  case isTrue hc =>
    have h1 := Option.some.inj h
    have e1 : (parseF a0.data.toList).1 = r1 := congrArg Prod.fst h1
    have e2 : (parseF a0.data.toList).2 = r2 := congrArg Prod.snd h1
    refine (parse_calls a0 w hc.1 (fun j b hb => of_decide_eq_true (List.all_eq_true.1 hc.2 b (List.mem_of_getElem? hb)))).mono ?_
    rintro e w' ⟨he, hb⟩
    rw [e1, e2] at he
    exact ⟨he, hb⟩

/-! ### odometerlaw01_reads: function 16 -/
def odometerlaw01_reads.f (a0 : ByteArray) (a1 : Int) : Option (Bool) := (fix_Parse.f a0).bind fun bt101 => (if bt101.2 = 0 then (some (a1 == bt101.1)) else (some false))
set_option maxHeartbeats 8000000 in
set_option maxRecDepth 100000 in
theorem odometerlaw01_reads.calls (a0 : ByteArray) (a1 : Int) (r : Bool) (w : World) (h : odometerlaw01_reads.f a0 a1 = some r) :
    Calls Tryd.prog 16 #[.string a0, .int .i64 a1] w fun e w' => e = .returned (.bool r) ∧ Below w.heap.size w w' := by
  have HB := Aside0.mk (Below.refl w.heap.size w)
  have H : ((fix_Parse.f a0).bind fun bt101 => (if bt101.2 = 0 then (some (a1 == bt101.1)) else (some false))) = some r := h
  clear h
  replace H := Option.bind_eq_some_iff.mp H
  obtain ⟨⟨t101, t102⟩, A30, H⟩ := H
  replace H : (if t102 = 0 then (some (a1 == t101)) else (some false)) = some r := H
  have A3 := Aside0.mk A30
  clear A30
  by_cases c4 : t102 = 0
  · rw [if_pos c4] at H
    have c4b0 : (t102 == 0) = true := beq_iff_eq.mpr c4
    have c4b1 : (t102 != 0) = false := bne_eq_false_iff_eq.mpr c4
    clear c4
    obtain rfl := Option.some.inj H
    go_enter Tryd.func16, Tryd.ntmps16
    go_wp2_with (first | ((with_reducible refine gate_callee (f := 8) rfl ?_); refine goesL_ (some 9) rfl rfl Tryd.func8 (by kernel_rfl) rfl #[.string a0] rfl (by (try simp only [List.map_toArray, List.map_cons, List.map_nil]); first | done | rfl | (simp only [List.length_drop, List.length_take]; rfl)) ?_; (with_reducible refine (fix_Parse.calls a0 t101 t102 _ A3.out).mono ?_); rintro e w5 ⟨rfl, hb⟩; refine ⟨_, rfl, ?_⟩; have n0_ := Aside0.mk (below_step (by repeat (first | (with_reducible first | exact HB.out | apply below_alloc | apply pw_below_drewN | apply below_drew1) | exact HB.out)) hb); clear HB; have HB := n0_; clear n0_; (try clear hb); (try clear hb2); (try clear hk); (try clear hi)))
    go_ret
    exact ⟨by first | rfl | (simp [errW_none, errW_some] <;> rfl) | (simp [*, errW_none, errW_some] <;> rfl), by repeat (first | (with_reducible first | exact HB.out | apply below_alloc | apply pw_below_drewN | apply below_drew1) | exact HB.out)⟩
  · rw [if_neg c4] at H
    have c4b0 : (t102 == 0) = false := beq_eq_false_iff_ne.mpr c4
    have c4b1 : (t102 != 0) = true := bne_iff_ne.mpr c4
    obtain rfl := Option.some.inj H
    go_enter Tryd.func16, Tryd.ntmps16
    go_wp2_with (first | ((with_reducible refine gate_callee (f := 8) rfl ?_); refine goesL_ (some 9) rfl rfl Tryd.func8 (by kernel_rfl) rfl #[.string a0] rfl (by (try simp only [List.map_toArray, List.map_cons, List.map_nil]); first | done | rfl | (simp only [List.length_drop, List.length_take]; rfl)) ?_; (with_reducible refine (fix_Parse.calls a0 t101 t102 _ A3.out).mono ?_); rintro e w6 ⟨rfl, hb⟩; refine ⟨_, rfl, ?_⟩; have n0_ := Aside0.mk (below_step (by repeat (first | (with_reducible first | exact HB.out | apply below_alloc | apply pw_below_drewN | apply below_drew1) | exact HB.out)) hb); clear HB; have HB := n0_; clear n0_; (try clear hb); (try clear hb2); (try clear hk); (try clear hi)))
    go_ret
    exact ⟨by first | rfl | (simp [errW_none, errW_some] <;> rfl) | (simp [*, errW_none, errW_some] <;> rfl), by repeat (first | (with_reducible first | exact HB.out | apply below_alloc | apply pw_below_drewN | apply below_drew1) | exact HB.out)⟩

/-! ### odometerlaw01_fails: function 19 -/
def odometerlaw01_fails.f (a0 : ByteArray) (a1 : Int) : Option (Bool) := (fix_Parse.f a0).bind fun bt103 => (if bt103.2 = a1 then (some (bt103.1 == 0)) else (some false))
set_option maxHeartbeats 8000000 in
set_option maxRecDepth 100000 in
theorem odometerlaw01_fails.calls (a0 : ByteArray) (a1 : Int) (r : Bool) (w : World) (h : odometerlaw01_fails.f a0 a1 = some r) :
    Calls Tryd.prog 19 #[.string a0, .int .i64 a1] w fun e w' => e = .returned (.bool r) ∧ Below w.heap.size w w' := by
  have HB := Aside0.mk (Below.refl w.heap.size w)
  have H : ((fix_Parse.f a0).bind fun bt103 => (if bt103.2 = a1 then (some (bt103.1 == 0)) else (some false))) = some r := h
  clear h
  replace H := Option.bind_eq_some_iff.mp H
  obtain ⟨⟨t103, t104⟩, A30, H⟩ := H
  replace H : (if t104 = a1 then (some (t103 == 0)) else (some false)) = some r := H
  have A3 := Aside0.mk A30
  clear A30
  by_cases c4 : t104 = a1
  · rw [if_pos c4] at H
    have c4b0 : (t104 == a1) = true := beq_iff_eq.mpr c4
    have c4b1 : (t104 != a1) = false := bne_eq_false_iff_eq.mpr c4
    clear c4
    obtain rfl := Option.some.inj H
    go_enter Tryd.func19, Tryd.ntmps19
    go_wp2_with (first | ((with_reducible refine gate_callee (f := 8) rfl ?_); refine goesL_ (some 9) rfl rfl Tryd.func8 (by kernel_rfl) rfl #[.string a0] rfl (by (try simp only [List.map_toArray, List.map_cons, List.map_nil]); first | done | rfl | (simp only [List.length_drop, List.length_take]; rfl)) ?_; (with_reducible refine (fix_Parse.calls a0 t103 t104 _ A3.out).mono ?_); rintro e w5 ⟨rfl, hb⟩; refine ⟨_, rfl, ?_⟩; have n0_ := Aside0.mk (below_step (by repeat (first | (with_reducible first | exact HB.out | apply below_alloc | apply pw_below_drewN | apply below_drew1) | exact HB.out)) hb); clear HB; have HB := n0_; clear n0_; (try clear hb); (try clear hb2); (try clear hk); (try clear hi)))
    go_ret
    exact ⟨by first | rfl | (simp [errW_none, errW_some] <;> rfl) | (simp [*, errW_none, errW_some] <;> rfl), by repeat (first | (with_reducible first | exact HB.out | apply below_alloc | apply pw_below_drewN | apply below_drew1) | exact HB.out)⟩
  · rw [if_neg c4] at H
    have c4b0 : (t104 == a1) = false := beq_eq_false_iff_ne.mpr c4
    have c4b1 : (t104 != a1) = true := bne_iff_ne.mpr c4
    obtain rfl := Option.some.inj H
    go_enter Tryd.func19, Tryd.ntmps19
    go_wp2_with (first | ((with_reducible refine gate_callee (f := 8) rfl ?_); refine goesL_ (some 9) rfl rfl Tryd.func8 (by kernel_rfl) rfl #[.string a0] rfl (by (try simp only [List.map_toArray, List.map_cons, List.map_nil]); first | done | rfl | (simp only [List.length_drop, List.length_take]; rfl)) ?_; (with_reducible refine (fix_Parse.calls a0 t103 t104 _ A3.out).mono ?_); rintro e w6 ⟨rfl, hb⟩; refine ⟨_, rfl, ?_⟩; have n0_ := Aside0.mk (below_step (by repeat (first | (with_reducible first | exact HB.out | apply below_alloc | apply pw_below_drewN | apply below_drew1) | exact HB.out)) hb); clear HB; have HB := n0_; clear n0_; (try clear hb); (try clear hb2); (try clear hk); (try clear hi)))
    go_ret
    exact ⟨by first | rfl | (simp [errW_none, errW_some] <;> rfl) | (simp [*, errW_none, errW_some] <;> rfl), by repeat (first | (with_reducible first | exact HB.out | apply below_alloc | apply pw_below_drewN | apply below_drew1) | exact HB.out)⟩

/-! ### odometerlaw01_known: function 7 -/
def odometerlaw01_known.f  : Option (Bool) := (odometerlaw01_reads.f (⟨#[49, 101, 51]⟩ : ByteArray) 1000000000).bind fun t105 => (if t105 = true then ((odometerlaw01_reads.f (⟨#[46, 53]⟩ : ByteArray) 500000).bind fun t106 => (if t106 = true then ((odometerlaw01_reads.f (⟨#[45, 48, 46, 48, 48, 48, 48, 48, 49]⟩ : ByteArray) (-1)).bind fun t107 => (if t107 = true then ((odometerlaw01_reads.f (⟨#[50, 53, 101, 45, 54]⟩ : ByteArray) 25).bind fun t108 => (if t108 = true then ((odometerlaw01_reads.f (⟨#[48, 101, 57, 57]⟩ : ByteArray) 0).bind fun t109 => (if t109 = true then ((odometerlaw01_fails.f (⟨#[49, 101, 45, 55]⟩ : ByteArray) 4).bind fun t110 => (if t110 = true then ((odometerlaw01_fails.f (⟨#[57, 50, 50, 51, 51, 55, 50, 48, 51, 54, 56, 53, 52, 46, 55, 55, 53, 56, 48, 56]⟩ : ByteArray) 4).bind fun t111 => (if t111 = true then ((odometerlaw01_fails.f (⟨#[43, 73, 110, 102]⟩ : ByteArray) 4).bind fun t112 => (if t112 = true then ((odometerlaw01_fails.f (⟨#[46]⟩ : ByteArray) 3).bind fun t113 => (if t113 = true then ((odometerlaw01_fails.f (⟨#[101, 53]⟩ : ByteArray) 3).bind fun t114 => (if t114 = true then ((odometerlaw01_fails.f (⟨#[49, 101]⟩ : ByteArray) 3).bind fun t115 => (if t115 = true then ((odometerlaw01_fails.f (⟨#[49, 95, 48]⟩ : ByteArray) 3).bind fun t116 => (if t116 = true then ((odometerlaw01_fails.f (⟨#[]⟩ : ByteArray) 3).bind fun t117 => (some t117)) else (some false))) else (some false))) else (some false))) else (some false))) else (some false))) else (some false))) else (some false))) else (some false))) else (some false))) else (some false))) else (some false))) else (some false))
set_option maxHeartbeats 8000000 in
set_option maxRecDepth 100000 in
theorem odometerlaw01_known.calls  (r : Bool) (w : World) (h : odometerlaw01_known.f  = some r) :
    Calls Tryd.prog 7 #[] w fun e w' => e = .returned (.bool r) ∧ Below w.heap.size w w' := by
  have HB := Aside0.mk (Below.refl w.heap.size w)
  have H : ((odometerlaw01_reads.f (⟨#[49, 101, 51]⟩ : ByteArray) 1000000000).bind fun t105 => (if t105 = true then ((odometerlaw01_reads.f (⟨#[46, 53]⟩ : ByteArray) 500000).bind fun t106 => (if t106 = true then ((odometerlaw01_reads.f (⟨#[45, 48, 46, 48, 48, 48, 48, 48, 49]⟩ : ByteArray) (-1)).bind fun t107 => (if t107 = true then ((odometerlaw01_reads.f (⟨#[50, 53, 101, 45, 54]⟩ : ByteArray) 25).bind fun t108 => (if t108 = true then ((odometerlaw01_reads.f (⟨#[48, 101, 57, 57]⟩ : ByteArray) 0).bind fun t109 => (if t109 = true then ((odometerlaw01_fails.f (⟨#[49, 101, 45, 55]⟩ : ByteArray) 4).bind fun t110 => (if t110 = true then ((odometerlaw01_fails.f (⟨#[57, 50, 50, 51, 51, 55, 50, 48, 51, 54, 56, 53, 52, 46, 55, 55, 53, 56, 48, 56]⟩ : ByteArray) 4).bind fun t111 => (if t111 = true then ((odometerlaw01_fails.f (⟨#[43, 73, 110, 102]⟩ : ByteArray) 4).bind fun t112 => (if t112 = true then ((odometerlaw01_fails.f (⟨#[46]⟩ : ByteArray) 3).bind fun t113 => (if t113 = true then ((odometerlaw01_fails.f (⟨#[101, 53]⟩ : ByteArray) 3).bind fun t114 => (if t114 = true then ((odometerlaw01_fails.f (⟨#[49, 101]⟩ : ByteArray) 3).bind fun t115 => (if t115 = true then ((odometerlaw01_fails.f (⟨#[49, 95, 48]⟩ : ByteArray) 3).bind fun t116 => (if t116 = true then ((odometerlaw01_fails.f (⟨#[]⟩ : ByteArray) 3).bind fun t117 => (some t117)) else (some false))) else (some false))) else (some false))) else (some false))) else (some false))) else (some false))) else (some false))) else (some false))) else (some false))) else (some false))) else (some false))) else (some false))) = some r := h
  clear h
  replace H := Option.bind_eq_some_iff.mp H
  obtain ⟨t105, A10, H⟩ := H
  replace H : (if t105 = true then ((odometerlaw01_reads.f (⟨#[46, 53]⟩ : ByteArray) 500000).bind fun t106 => (if t106 = true then ((odometerlaw01_reads.f (⟨#[45, 48, 46, 48, 48, 48, 48, 48, 49]⟩ : ByteArray) (-1)).bind fun t107 => (if t107 = true then ((odometerlaw01_reads.f (⟨#[50, 53, 101, 45, 54]⟩ : ByteArray) 25).bind fun t108 => (if t108 = true then ((odometerlaw01_reads.f (⟨#[48, 101, 57, 57]⟩ : ByteArray) 0).bind fun t109 => (if t109 = true then ((odometerlaw01_fails.f (⟨#[49, 101, 45, 55]⟩ : ByteArray) 4).bind fun t110 => (if t110 = true then ((odometerlaw01_fails.f (⟨#[57, 50, 50, 51, 51, 55, 50, 48, 51, 54, 56, 53, 52, 46, 55, 55, 53, 56, 48, 56]⟩ : ByteArray) 4).bind fun t111 => (if t111 = true then ((odometerlaw01_fails.f (⟨#[43, 73, 110, 102]⟩ : ByteArray) 4).bind fun t112 => (if t112 = true then ((odometerlaw01_fails.f (⟨#[46]⟩ : ByteArray) 3).bind fun t113 => (if t113 = true then ((odometerlaw01_fails.f (⟨#[101, 53]⟩ : ByteArray) 3).bind fun t114 => (if t114 = true then ((odometerlaw01_fails.f (⟨#[49, 101]⟩ : ByteArray) 3).bind fun t115 => (if t115 = true then ((odometerlaw01_fails.f (⟨#[49, 95, 48]⟩ : ByteArray) 3).bind fun t116 => (if t116 = true then ((odometerlaw01_fails.f (⟨#[]⟩ : ByteArray) 3).bind fun t117 => (some t117)) else (some false))) else (some false))) else (some false))) else (some false))) else (some false))) else (some false))) else (some false))) else (some false))) else (some false))) else (some false))) else (some false))) else (some false)) = some r := H
  have A1 := Aside0.mk A10
  clear A10
  by_cases c2 : t105 = true
  · subst c2
    have H1 : ((odometerlaw01_reads.f (⟨#[46, 53]⟩ : ByteArray) 500000).bind fun t106 => (if t106 = true then ((odometerlaw01_reads.f (⟨#[45, 48, 46, 48, 48, 48, 48, 48, 49]⟩ : ByteArray) (-1)).bind fun t107 => (if t107 = true then ((odometerlaw01_reads.f (⟨#[50, 53, 101, 45, 54]⟩ : ByteArray) 25).bind fun t108 => (if t108 = true then ((odometerlaw01_reads.f (⟨#[48, 101, 57, 57]⟩ : ByteArray) 0).bind fun t109 => (if t109 = true then ((odometerlaw01_fails.f (⟨#[49, 101, 45, 55]⟩ : ByteArray) 4).bind fun t110 => (if t110 = true then ((odometerlaw01_fails.f (⟨#[57, 50, 50, 51, 51, 55, 50, 48, 51, 54, 56, 53, 52, 46, 55, 55, 53, 56, 48, 56]⟩ : ByteArray) 4).bind fun t111 => (if t111 = true then ((odometerlaw01_fails.f (⟨#[43, 73, 110, 102]⟩ : ByteArray) 4).bind fun t112 => (if t112 = true then ((odometerlaw01_fails.f (⟨#[46]⟩ : ByteArray) 3).bind fun t113 => (if t113 = true then ((odometerlaw01_fails.f (⟨#[101, 53]⟩ : ByteArray) 3).bind fun t114 => (if t114 = true then ((odometerlaw01_fails.f (⟨#[49, 101]⟩ : ByteArray) 3).bind fun t115 => (if t115 = true then ((odometerlaw01_fails.f (⟨#[49, 95, 48]⟩ : ByteArray) 3).bind fun t116 => (if t116 = true then ((odometerlaw01_fails.f (⟨#[]⟩ : ByteArray) 3).bind fun t117 => (some t117)) else (some false))) else (some false))) else (some false))) else (some false))) else (some false))) else (some false))) else (some false))) else (some false))) else (some false))) else (some false))) else (some false))) = some r := by rw [if_pos rfl] at H; exact H
    clear H
    have H := H1
    clear H1
    replace H := Option.bind_eq_some_iff.mp H
    obtain ⟨t106, A30, H⟩ := H
    replace H : (if t106 = true then ((odometerlaw01_reads.f (⟨#[45, 48, 46, 48, 48, 48, 48, 48, 49]⟩ : ByteArray) (-1)).bind fun t107 => (if t107 = true then ((odometerlaw01_reads.f (⟨#[50, 53, 101, 45, 54]⟩ : ByteArray) 25).bind fun t108 => (if t108 = true then ((odometerlaw01_reads.f (⟨#[48, 101, 57, 57]⟩ : ByteArray) 0).bind fun t109 => (if t109 = true then ((odometerlaw01_fails.f (⟨#[49, 101, 45, 55]⟩ : ByteArray) 4).bind fun t110 => (if t110 = true then ((odometerlaw01_fails.f (⟨#[57, 50, 50, 51, 51, 55, 50, 48, 51, 54, 56, 53, 52, 46, 55, 55, 53, 56, 48, 56]⟩ : ByteArray) 4).bind fun t111 => (if t111 = true then ((odometerlaw01_fails.f (⟨#[43, 73, 110, 102]⟩ : ByteArray) 4).bind fun t112 => (if t112 = true then ((odometerlaw01_fails.f (⟨#[46]⟩ : ByteArray) 3).bind fun t113 => (if t113 = true then ((odometerlaw01_fails.f (⟨#[101, 53]⟩ : ByteArray) 3).bind fun t114 => (if t114 = true then ((odometerlaw01_fails.f (⟨#[49, 101]⟩ : ByteArray) 3).bind fun t115 => (if t115 = true then ((odometerlaw01_fails.f (⟨#[49, 95, 48]⟩ : ByteArray) 3).bind fun t116 => (if t116 = true then ((odometerlaw01_fails.f (⟨#[]⟩ : ByteArray) 3).bind fun t117 => (some t117)) else (some false))) else (some false))) else (some false))) else (some false))) else (some false))) else (some false))) else (some false))) else (some false))) else (some false))) else (some false))) else (some false)) = some r := H
    have A3 := Aside0.mk A30
    clear A30
    by_cases c4 : t106 = true
    · subst c4
      have H1 : ((odometerlaw01_reads.f (⟨#[45, 48, 46, 48, 48, 48, 48, 48, 49]⟩ : ByteArray) (-1)).bind fun t107 => (if t107 = true then ((odometerlaw01_reads.f (⟨#[50, 53, 101, 45, 54]⟩ : ByteArray) 25).bind fun t108 => (if t108 = true then ((odometerlaw01_reads.f (⟨#[48, 101, 57, 57]⟩ : ByteArray) 0).bind fun t109 => (if t109 = true then ((odometerlaw01_fails.f (⟨#[49, 101, 45, 55]⟩ : ByteArray) 4).bind fun t110 => (if t110 = true then ((odometerlaw01_fails.f (⟨#[57, 50, 50, 51, 51, 55, 50, 48, 51, 54, 56, 53, 52, 46, 55, 55, 53, 56, 48, 56]⟩ : ByteArray) 4).bind fun t111 => (if t111 = true then ((odometerlaw01_fails.f (⟨#[43, 73, 110, 102]⟩ : ByteArray) 4).bind fun t112 => (if t112 = true then ((odometerlaw01_fails.f (⟨#[46]⟩ : ByteArray) 3).bind fun t113 => (if t113 = true then ((odometerlaw01_fails.f (⟨#[101, 53]⟩ : ByteArray) 3).bind fun t114 => (if t114 = true then ((odometerlaw01_fails.f (⟨#[49, 101]⟩ : ByteArray) 3).bind fun t115 => (if t115 = true then ((odometerlaw01_fails.f (⟨#[49, 95, 48]⟩ : ByteArray) 3).bind fun t116 => (if t116 = true then ((odometerlaw01_fails.f (⟨#[]⟩ : ByteArray) 3).bind fun t117 => (some t117)) else (some false))) else (some false))) else (some false))) else (some false))) else (some false))) else (some false))) else (some false))) else (some false))) else (some false))) else (some false))) = some r := by rw [if_pos rfl] at H; exact H
      clear H
      have H := H1
      clear H1
      replace H := Option.bind_eq_some_iff.mp H
      obtain ⟨t107, A50, H⟩ := H
      replace H : (if t107 = true then ((odometerlaw01_reads.f (⟨#[50, 53, 101, 45, 54]⟩ : ByteArray) 25).bind fun t108 => (if t108 = true then ((odometerlaw01_reads.f (⟨#[48, 101, 57, 57]⟩ : ByteArray) 0).bind fun t109 => (if t109 = true then ((odometerlaw01_fails.f (⟨#[49, 101, 45, 55]⟩ : ByteArray) 4).bind fun t110 => (if t110 = true then ((odometerlaw01_fails.f (⟨#[57, 50, 50, 51, 51, 55, 50, 48, 51, 54, 56, 53, 52, 46, 55, 55, 53, 56, 48, 56]⟩ : ByteArray) 4).bind fun t111 => (if t111 = true then ((odometerlaw01_fails.f (⟨#[43, 73, 110, 102]⟩ : ByteArray) 4).bind fun t112 => (if t112 = true then ((odometerlaw01_fails.f (⟨#[46]⟩ : ByteArray) 3).bind fun t113 => (if t113 = true then ((odometerlaw01_fails.f (⟨#[101, 53]⟩ : ByteArray) 3).bind fun t114 => (if t114 = true then ((odometerlaw01_fails.f (⟨#[49, 101]⟩ : ByteArray) 3).bind fun t115 => (if t115 = true then ((odometerlaw01_fails.f (⟨#[49, 95, 48]⟩ : ByteArray) 3).bind fun t116 => (if t116 = true then ((odometerlaw01_fails.f (⟨#[]⟩ : ByteArray) 3).bind fun t117 => (some t117)) else (some false))) else (some false))) else (some false))) else (some false))) else (some false))) else (some false))) else (some false))) else (some false))) else (some false))) else (some false)) = some r := H
      have A5 := Aside0.mk A50
      clear A50
      by_cases c6 : t107 = true
      · subst c6
        have H1 : ((odometerlaw01_reads.f (⟨#[50, 53, 101, 45, 54]⟩ : ByteArray) 25).bind fun t108 => (if t108 = true then ((odometerlaw01_reads.f (⟨#[48, 101, 57, 57]⟩ : ByteArray) 0).bind fun t109 => (if t109 = true then ((odometerlaw01_fails.f (⟨#[49, 101, 45, 55]⟩ : ByteArray) 4).bind fun t110 => (if t110 = true then ((odometerlaw01_fails.f (⟨#[57, 50, 50, 51, 51, 55, 50, 48, 51, 54, 56, 53, 52, 46, 55, 55, 53, 56, 48, 56]⟩ : ByteArray) 4).bind fun t111 => (if t111 = true then ((odometerlaw01_fails.f (⟨#[43, 73, 110, 102]⟩ : ByteArray) 4).bind fun t112 => (if t112 = true then ((odometerlaw01_fails.f (⟨#[46]⟩ : ByteArray) 3).bind fun t113 => (if t113 = true then ((odometerlaw01_fails.f (⟨#[101, 53]⟩ : ByteArray) 3).bind fun t114 => (if t114 = true then ((odometerlaw01_fails.f (⟨#[49, 101]⟩ : ByteArray) 3).bind fun t115 => (if t115 = true then ((odometerlaw01_fails.f (⟨#[49, 95, 48]⟩ : ByteArray) 3).bind fun t116 => (if t116 = true then ((odometerlaw01_fails.f (⟨#[]⟩ : ByteArray) 3).bind fun t117 => (some t117)) else (some false))) else (some false))) else (some false))) else (some false))) else (some false))) else (some false))) else (some false))) else (some false))) else (some false))) = some r := by rw [if_pos rfl] at H; exact H
        clear H
        have H := H1
        clear H1
        replace H := Option.bind_eq_some_iff.mp H
        obtain ⟨t108, A70, H⟩ := H
        replace H : (if t108 = true then ((odometerlaw01_reads.f (⟨#[48, 101, 57, 57]⟩ : ByteArray) 0).bind fun t109 => (if t109 = true then ((odometerlaw01_fails.f (⟨#[49, 101, 45, 55]⟩ : ByteArray) 4).bind fun t110 => (if t110 = true then ((odometerlaw01_fails.f (⟨#[57, 50, 50, 51, 51, 55, 50, 48, 51, 54, 56, 53, 52, 46, 55, 55, 53, 56, 48, 56]⟩ : ByteArray) 4).bind fun t111 => (if t111 = true then ((odometerlaw01_fails.f (⟨#[43, 73, 110, 102]⟩ : ByteArray) 4).bind fun t112 => (if t112 = true then ((odometerlaw01_fails.f (⟨#[46]⟩ : ByteArray) 3).bind fun t113 => (if t113 = true then ((odometerlaw01_fails.f (⟨#[101, 53]⟩ : ByteArray) 3).bind fun t114 => (if t114 = true then ((odometerlaw01_fails.f (⟨#[49, 101]⟩ : ByteArray) 3).bind fun t115 => (if t115 = true then ((odometerlaw01_fails.f (⟨#[49, 95, 48]⟩ : ByteArray) 3).bind fun t116 => (if t116 = true then ((odometerlaw01_fails.f (⟨#[]⟩ : ByteArray) 3).bind fun t117 => (some t117)) else (some false))) else (some false))) else (some false))) else (some false))) else (some false))) else (some false))) else (some false))) else (some false))) else (some false)) = some r := H
        have A7 := Aside0.mk A70
        clear A70
        by_cases c8 : t108 = true
        · subst c8
          have H1 : ((odometerlaw01_reads.f (⟨#[48, 101, 57, 57]⟩ : ByteArray) 0).bind fun t109 => (if t109 = true then ((odometerlaw01_fails.f (⟨#[49, 101, 45, 55]⟩ : ByteArray) 4).bind fun t110 => (if t110 = true then ((odometerlaw01_fails.f (⟨#[57, 50, 50, 51, 51, 55, 50, 48, 51, 54, 56, 53, 52, 46, 55, 55, 53, 56, 48, 56]⟩ : ByteArray) 4).bind fun t111 => (if t111 = true then ((odometerlaw01_fails.f (⟨#[43, 73, 110, 102]⟩ : ByteArray) 4).bind fun t112 => (if t112 = true then ((odometerlaw01_fails.f (⟨#[46]⟩ : ByteArray) 3).bind fun t113 => (if t113 = true then ((odometerlaw01_fails.f (⟨#[101, 53]⟩ : ByteArray) 3).bind fun t114 => (if t114 = true then ((odometerlaw01_fails.f (⟨#[49, 101]⟩ : ByteArray) 3).bind fun t115 => (if t115 = true then ((odometerlaw01_fails.f (⟨#[49, 95, 48]⟩ : ByteArray) 3).bind fun t116 => (if t116 = true then ((odometerlaw01_fails.f (⟨#[]⟩ : ByteArray) 3).bind fun t117 => (some t117)) else (some false))) else (some false))) else (some false))) else (some false))) else (some false))) else (some false))) else (some false))) else (some false))) = some r := by rw [if_pos rfl] at H; exact H
          clear H
          have H := H1
          clear H1
          replace H := Option.bind_eq_some_iff.mp H
          obtain ⟨t109, A90, H⟩ := H
          replace H : (if t109 = true then ((odometerlaw01_fails.f (⟨#[49, 101, 45, 55]⟩ : ByteArray) 4).bind fun t110 => (if t110 = true then ((odometerlaw01_fails.f (⟨#[57, 50, 50, 51, 51, 55, 50, 48, 51, 54, 56, 53, 52, 46, 55, 55, 53, 56, 48, 56]⟩ : ByteArray) 4).bind fun t111 => (if t111 = true then ((odometerlaw01_fails.f (⟨#[43, 73, 110, 102]⟩ : ByteArray) 4).bind fun t112 => (if t112 = true then ((odometerlaw01_fails.f (⟨#[46]⟩ : ByteArray) 3).bind fun t113 => (if t113 = true then ((odometerlaw01_fails.f (⟨#[101, 53]⟩ : ByteArray) 3).bind fun t114 => (if t114 = true then ((odometerlaw01_fails.f (⟨#[49, 101]⟩ : ByteArray) 3).bind fun t115 => (if t115 = true then ((odometerlaw01_fails.f (⟨#[49, 95, 48]⟩ : ByteArray) 3).bind fun t116 => (if t116 = true then ((odometerlaw01_fails.f (⟨#[]⟩ : ByteArray) 3).bind fun t117 => (some t117)) else (some false))) else (some false))) else (some false))) else (some false))) else (some false))) else (some false))) else (some false))) else (some false)) = some r := H
          have A9 := Aside0.mk A90
          clear A90
          by_cases c10 : t109 = true
          · subst c10
            have H1 : ((odometerlaw01_fails.f (⟨#[49, 101, 45, 55]⟩ : ByteArray) 4).bind fun t110 => (if t110 = true then ((odometerlaw01_fails.f (⟨#[57, 50, 50, 51, 51, 55, 50, 48, 51, 54, 56, 53, 52, 46, 55, 55, 53, 56, 48, 56]⟩ : ByteArray) 4).bind fun t111 => (if t111 = true then ((odometerlaw01_fails.f (⟨#[43, 73, 110, 102]⟩ : ByteArray) 4).bind fun t112 => (if t112 = true then ((odometerlaw01_fails.f (⟨#[46]⟩ : ByteArray) 3).bind fun t113 => (if t113 = true then ((odometerlaw01_fails.f (⟨#[101, 53]⟩ : ByteArray) 3).bind fun t114 => (if t114 = true then ((odometerlaw01_fails.f (⟨#[49, 101]⟩ : ByteArray) 3).bind fun t115 => (if t115 = true then ((odometerlaw01_fails.f (⟨#[49, 95, 48]⟩ : ByteArray) 3).bind fun t116 => (if t116 = true then ((odometerlaw01_fails.f (⟨#[]⟩ : ByteArray) 3).bind fun t117 => (some t117)) else (some false))) else (some false))) else (some false))) else (some false))) else (some false))) else (some false))) else (some false))) = some r := by rw [if_pos rfl] at H; exact H
            clear H
            have H := H1
            clear H1
            replace H := Option.bind_eq_some_iff.mp H
            obtain ⟨t110, A110, H⟩ := H
            replace H : (if t110 = true then ((odometerlaw01_fails.f (⟨#[57, 50, 50, 51, 51, 55, 50, 48, 51, 54, 56, 53, 52, 46, 55, 55, 53, 56, 48, 56]⟩ : ByteArray) 4).bind fun t111 => (if t111 = true then ((odometerlaw01_fails.f (⟨#[43, 73, 110, 102]⟩ : ByteArray) 4).bind fun t112 => (if t112 = true then ((odometerlaw01_fails.f (⟨#[46]⟩ : ByteArray) 3).bind fun t113 => (if t113 = true then ((odometerlaw01_fails.f (⟨#[101, 53]⟩ : ByteArray) 3).bind fun t114 => (if t114 = true then ((odometerlaw01_fails.f (⟨#[49, 101]⟩ : ByteArray) 3).bind fun t115 => (if t115 = true then ((odometerlaw01_fails.f (⟨#[49, 95, 48]⟩ : ByteArray) 3).bind fun t116 => (if t116 = true then ((odometerlaw01_fails.f (⟨#[]⟩ : ByteArray) 3).bind fun t117 => (some t117)) else (some false))) else (some false))) else (some false))) else (some false))) else (some false))) else (some false))) else (some false)) = some r := H
            have A11 := Aside0.mk A110
            clear A110
            by_cases c12 : t110 = true
            · subst c12
              have H1 : ((odometerlaw01_fails.f (⟨#[57, 50, 50, 51, 51, 55, 50, 48, 51, 54, 56, 53, 52, 46, 55, 55, 53, 56, 48, 56]⟩ : ByteArray) 4).bind fun t111 => (if t111 = true then ((odometerlaw01_fails.f (⟨#[43, 73, 110, 102]⟩ : ByteArray) 4).bind fun t112 => (if t112 = true then ((odometerlaw01_fails.f (⟨#[46]⟩ : ByteArray) 3).bind fun t113 => (if t113 = true then ((odometerlaw01_fails.f (⟨#[101, 53]⟩ : ByteArray) 3).bind fun t114 => (if t114 = true then ((odometerlaw01_fails.f (⟨#[49, 101]⟩ : ByteArray) 3).bind fun t115 => (if t115 = true then ((odometerlaw01_fails.f (⟨#[49, 95, 48]⟩ : ByteArray) 3).bind fun t116 => (if t116 = true then ((odometerlaw01_fails.f (⟨#[]⟩ : ByteArray) 3).bind fun t117 => (some t117)) else (some false))) else (some false))) else (some false))) else (some false))) else (some false))) else (some false))) = some r := by rw [if_pos rfl] at H; exact H
              clear H
              have H := H1
              clear H1
              replace H := Option.bind_eq_some_iff.mp H
              obtain ⟨t111, A130, H⟩ := H
              replace H : (if t111 = true then ((odometerlaw01_fails.f (⟨#[43, 73, 110, 102]⟩ : ByteArray) 4).bind fun t112 => (if t112 = true then ((odometerlaw01_fails.f (⟨#[46]⟩ : ByteArray) 3).bind fun t113 => (if t113 = true then ((odometerlaw01_fails.f (⟨#[101, 53]⟩ : ByteArray) 3).bind fun t114 => (if t114 = true then ((odometerlaw01_fails.f (⟨#[49, 101]⟩ : ByteArray) 3).bind fun t115 => (if t115 = true then ((odometerlaw01_fails.f (⟨#[49, 95, 48]⟩ : ByteArray) 3).bind fun t116 => (if t116 = true then ((odometerlaw01_fails.f (⟨#[]⟩ : ByteArray) 3).bind fun t117 => (some t117)) else (some false))) else (some false))) else (some false))) else (some false))) else (some false))) else (some false)) = some r := H
              have A13 := Aside0.mk A130
              clear A130
              by_cases c14 : t111 = true
              · subst c14
                have H1 : ((odometerlaw01_fails.f (⟨#[43, 73, 110, 102]⟩ : ByteArray) 4).bind fun t112 => (if t112 = true then ((odometerlaw01_fails.f (⟨#[46]⟩ : ByteArray) 3).bind fun t113 => (if t113 = true then ((odometerlaw01_fails.f (⟨#[101, 53]⟩ : ByteArray) 3).bind fun t114 => (if t114 = true then ((odometerlaw01_fails.f (⟨#[49, 101]⟩ : ByteArray) 3).bind fun t115 => (if t115 = true then ((odometerlaw01_fails.f (⟨#[49, 95, 48]⟩ : ByteArray) 3).bind fun t116 => (if t116 = true then ((odometerlaw01_fails.f (⟨#[]⟩ : ByteArray) 3).bind fun t117 => (some t117)) else (some false))) else (some false))) else (some false))) else (some false))) else (some false))) = some r := by rw [if_pos rfl] at H; exact H
                clear H
                have H := H1
                clear H1
                replace H := Option.bind_eq_some_iff.mp H
                obtain ⟨t112, A150, H⟩ := H
                replace H : (if t112 = true then ((odometerlaw01_fails.f (⟨#[46]⟩ : ByteArray) 3).bind fun t113 => (if t113 = true then ((odometerlaw01_fails.f (⟨#[101, 53]⟩ : ByteArray) 3).bind fun t114 => (if t114 = true then ((odometerlaw01_fails.f (⟨#[49, 101]⟩ : ByteArray) 3).bind fun t115 => (if t115 = true then ((odometerlaw01_fails.f (⟨#[49, 95, 48]⟩ : ByteArray) 3).bind fun t116 => (if t116 = true then ((odometerlaw01_fails.f (⟨#[]⟩ : ByteArray) 3).bind fun t117 => (some t117)) else (some false))) else (some false))) else (some false))) else (some false))) else (some false)) = some r := H
                have A15 := Aside0.mk A150
                clear A150
                by_cases c16 : t112 = true
                · subst c16
                  have H1 : ((odometerlaw01_fails.f (⟨#[46]⟩ : ByteArray) 3).bind fun t113 => (if t113 = true then ((odometerlaw01_fails.f (⟨#[101, 53]⟩ : ByteArray) 3).bind fun t114 => (if t114 = true then ((odometerlaw01_fails.f (⟨#[49, 101]⟩ : ByteArray) 3).bind fun t115 => (if t115 = true then ((odometerlaw01_fails.f (⟨#[49, 95, 48]⟩ : ByteArray) 3).bind fun t116 => (if t116 = true then ((odometerlaw01_fails.f (⟨#[]⟩ : ByteArray) 3).bind fun t117 => (some t117)) else (some false))) else (some false))) else (some false))) else (some false))) = some r := by rw [if_pos rfl] at H; exact H
                  clear H
                  have H := H1
                  clear H1
                  replace H := Option.bind_eq_some_iff.mp H
                  obtain ⟨t113, A170, H⟩ := H
                  replace H : (if t113 = true then ((odometerlaw01_fails.f (⟨#[101, 53]⟩ : ByteArray) 3).bind fun t114 => (if t114 = true then ((odometerlaw01_fails.f (⟨#[49, 101]⟩ : ByteArray) 3).bind fun t115 => (if t115 = true then ((odometerlaw01_fails.f (⟨#[49, 95, 48]⟩ : ByteArray) 3).bind fun t116 => (if t116 = true then ((odometerlaw01_fails.f (⟨#[]⟩ : ByteArray) 3).bind fun t117 => (some t117)) else (some false))) else (some false))) else (some false))) else (some false)) = some r := H
                  have A17 := Aside0.mk A170
                  clear A170
                  by_cases c18 : t113 = true
                  · subst c18
                    have H1 : ((odometerlaw01_fails.f (⟨#[101, 53]⟩ : ByteArray) 3).bind fun t114 => (if t114 = true then ((odometerlaw01_fails.f (⟨#[49, 101]⟩ : ByteArray) 3).bind fun t115 => (if t115 = true then ((odometerlaw01_fails.f (⟨#[49, 95, 48]⟩ : ByteArray) 3).bind fun t116 => (if t116 = true then ((odometerlaw01_fails.f (⟨#[]⟩ : ByteArray) 3).bind fun t117 => (some t117)) else (some false))) else (some false))) else (some false))) = some r := by rw [if_pos rfl] at H; exact H
                    clear H
                    have H := H1
                    clear H1
                    replace H := Option.bind_eq_some_iff.mp H
                    obtain ⟨t114, A190, H⟩ := H
                    replace H : (if t114 = true then ((odometerlaw01_fails.f (⟨#[49, 101]⟩ : ByteArray) 3).bind fun t115 => (if t115 = true then ((odometerlaw01_fails.f (⟨#[49, 95, 48]⟩ : ByteArray) 3).bind fun t116 => (if t116 = true then ((odometerlaw01_fails.f (⟨#[]⟩ : ByteArray) 3).bind fun t117 => (some t117)) else (some false))) else (some false))) else (some false)) = some r := H
                    have A19 := Aside0.mk A190
                    clear A190
                    by_cases c20 : t114 = true
                    · subst c20
                      have H1 : ((odometerlaw01_fails.f (⟨#[49, 101]⟩ : ByteArray) 3).bind fun t115 => (if t115 = true then ((odometerlaw01_fails.f (⟨#[49, 95, 48]⟩ : ByteArray) 3).bind fun t116 => (if t116 = true then ((odometerlaw01_fails.f (⟨#[]⟩ : ByteArray) 3).bind fun t117 => (some t117)) else (some false))) else (some false))) = some r := by rw [if_pos rfl] at H; exact H
                      clear H
                      have H := H1
                      clear H1
                      replace H := Option.bind_eq_some_iff.mp H
                      obtain ⟨t115, A210, H⟩ := H
                      replace H : (if t115 = true then ((odometerlaw01_fails.f (⟨#[49, 95, 48]⟩ : ByteArray) 3).bind fun t116 => (if t116 = true then ((odometerlaw01_fails.f (⟨#[]⟩ : ByteArray) 3).bind fun t117 => (some t117)) else (some false))) else (some false)) = some r := H
                      have A21 := Aside0.mk A210
                      clear A210
                      by_cases c22 : t115 = true
                      · subst c22
                        have H1 : ((odometerlaw01_fails.f (⟨#[49, 95, 48]⟩ : ByteArray) 3).bind fun t116 => (if t116 = true then ((odometerlaw01_fails.f (⟨#[]⟩ : ByteArray) 3).bind fun t117 => (some t117)) else (some false))) = some r := by rw [if_pos rfl] at H; exact H
                        clear H
                        have H := H1
                        clear H1
                        replace H := Option.bind_eq_some_iff.mp H
                        obtain ⟨t116, A230, H⟩ := H
                        replace H : (if t116 = true then ((odometerlaw01_fails.f (⟨#[]⟩ : ByteArray) 3).bind fun t117 => (some t117)) else (some false)) = some r := H
                        have A23 := Aside0.mk A230
                        clear A230
                        by_cases c24 : t116 = true
                        · subst c24
                          have H1 : ((odometerlaw01_fails.f (⟨#[]⟩ : ByteArray) 3).bind fun t117 => (some t117)) = some r := by rw [if_pos rfl] at H; exact H
                          clear H
                          have H := H1
                          clear H1
                          replace H := Option.bind_eq_some_iff.mp H
                          obtain ⟨t117, A250, H⟩ := H
                          replace H : (some t117) = some r := H
                          have A25 := Aside0.mk A250
                          clear A250
                          obtain rfl := Option.some.inj H
                          go_enter Tryd.func7, Tryd.ntmps7
                          go_wp2_with (first | ((with_reducible refine gate_callee (f := 16) rfl ?_); refine goesL_ (some 1) rfl rfl Tryd.func16 (by kernel_rfl) rfl #[.string (⟨#[49, 101, 51]⟩ : ByteArray), .int .i64 1000000000] rfl (by (try simp only [List.map_toArray, List.map_cons, List.map_nil]); first | done | rfl | (simp only [List.length_drop, List.length_take]; rfl)) ?_; (with_reducible refine (odometerlaw01_reads.calls (⟨#[49, 101, 51]⟩ : ByteArray) 1000000000 true _ A1.out).mono ?_); rintro e w26 ⟨rfl, hb⟩; refine ⟨_, rfl, ?_⟩; have n0_ := Aside0.mk (below_step (by repeat (first | (with_reducible first | exact HB.out | apply below_alloc | apply pw_below_drewN | apply below_drew1) | exact HB.out)) hb); clear HB; have HB := n0_; clear n0_; (try clear hb); (try clear hb2); (try clear hk); (try clear hi)) | (go_at_call 16; (with_reducible refine (odometerlaw01_reads.calls (⟨#[46, 53]⟩ : ByteArray) 500000 true _ A3.out).mono ?_); rintro e w27 ⟨rfl, hb⟩; have n0_ := Aside0.mk (below_step (by repeat (first | (with_reducible first | exact HB.out | apply below_alloc | apply pw_below_drewN | apply below_drew1) | exact HB.out)) hb); clear HB; have HB := n0_; clear n0_; (try clear hb); (try clear hb2); (try clear hk); (try clear hi)) | (go_at_call 16; (with_reducible refine (odometerlaw01_reads.calls (⟨#[45, 48, 46, 48, 48, 48, 48, 48, 49]⟩ : ByteArray) (-1) true _ A5.out).mono ?_); rintro e w28 ⟨rfl, hb⟩; have n0_ := Aside0.mk (below_step (by repeat (first | (with_reducible first | exact HB.out | apply below_alloc | apply pw_below_drewN | apply below_drew1) | exact HB.out)) hb); clear HB; have HB := n0_; clear n0_; (try clear hb); (try clear hb2); (try clear hk); (try clear hi)) | (go_at_call 16; (with_reducible refine (odometerlaw01_reads.calls (⟨#[50, 53, 101, 45, 54]⟩ : ByteArray) 25 true _ A7.out).mono ?_); rintro e w29 ⟨rfl, hb⟩; have n0_ := Aside0.mk (below_step (by repeat (first | (with_reducible first | exact HB.out | apply below_alloc | apply pw_below_drewN | apply below_drew1) | exact HB.out)) hb); clear HB; have HB := n0_; clear n0_; (try clear hb); (try clear hb2); (try clear hk); (try clear hi)) | (go_at_call 16; (with_reducible refine (odometerlaw01_reads.calls (⟨#[48, 101, 57, 57]⟩ : ByteArray) 0 true _ A9.out).mono ?_); rintro e w30 ⟨rfl, hb⟩; have n0_ := Aside0.mk (below_step (by repeat (first | (with_reducible first | exact HB.out | apply below_alloc | apply pw_below_drewN | apply below_drew1) | exact HB.out)) hb); clear HB; have HB := n0_; clear n0_; (try clear hb); (try clear hb2); (try clear hk); (try clear hi)) | (go_at_call 19; (with_reducible refine (odometerlaw01_fails.calls (⟨#[49, 101, 45, 55]⟩ : ByteArray) 4 true _ A11.out).mono ?_); rintro e w31 ⟨rfl, hb⟩; have n0_ := Aside0.mk (below_step (by repeat (first | (with_reducible first | exact HB.out | apply below_alloc | apply pw_below_drewN | apply below_drew1) | exact HB.out)) hb); clear HB; have HB := n0_; clear n0_; (try clear hb); (try clear hb2); (try clear hk); (try clear hi)) | (go_at_call 19; (with_reducible refine (odometerlaw01_fails.calls (⟨#[57, 50, 50, 51, 51, 55, 50, 48, 51, 54, 56, 53, 52, 46, 55, 55, 53, 56, 48, 56]⟩ : ByteArray) 4 true _ A13.out).mono ?_); rintro e w32 ⟨rfl, hb⟩; have n0_ := Aside0.mk (below_step (by repeat (first | (with_reducible first | exact HB.out | apply below_alloc | apply pw_below_drewN | apply below_drew1) | exact HB.out)) hb); clear HB; have HB := n0_; clear n0_; (try clear hb); (try clear hb2); (try clear hk); (try clear hi)) | (go_at_call 19; (with_reducible refine (odometerlaw01_fails.calls (⟨#[43, 73, 110, 102]⟩ : ByteArray) 4 true _ A15.out).mono ?_); rintro e w33 ⟨rfl, hb⟩; have n0_ := Aside0.mk (below_step (by repeat (first | (with_reducible first | exact HB.out | apply below_alloc | apply pw_below_drewN | apply below_drew1) | exact HB.out)) hb); clear HB; have HB := n0_; clear n0_; (try clear hb); (try clear hb2); (try clear hk); (try clear hi)) | (go_at_call 19; (with_reducible refine (odometerlaw01_fails.calls (⟨#[46]⟩ : ByteArray) 3 true _ A17.out).mono ?_); rintro e w34 ⟨rfl, hb⟩; have n0_ := Aside0.mk (below_step (by repeat (first | (with_reducible first | exact HB.out | apply below_alloc | apply pw_below_drewN | apply below_drew1) | exact HB.out)) hb); clear HB; have HB := n0_; clear n0_; (try clear hb); (try clear hb2); (try clear hk); (try clear hi)) | (go_at_call 19; (with_reducible refine (odometerlaw01_fails.calls (⟨#[101, 53]⟩ : ByteArray) 3 true _ A19.out).mono ?_); rintro e w35 ⟨rfl, hb⟩; have n0_ := Aside0.mk (below_step (by repeat (first | (with_reducible first | exact HB.out | apply below_alloc | apply pw_below_drewN | apply below_drew1) | exact HB.out)) hb); clear HB; have HB := n0_; clear n0_; (try clear hb); (try clear hb2); (try clear hk); (try clear hi)) | (go_at_call 19; (with_reducible refine (odometerlaw01_fails.calls (⟨#[49, 101]⟩ : ByteArray) 3 true _ A21.out).mono ?_); rintro e w36 ⟨rfl, hb⟩; have n0_ := Aside0.mk (below_step (by repeat (first | (with_reducible first | exact HB.out | apply below_alloc | apply pw_below_drewN | apply below_drew1) | exact HB.out)) hb); clear HB; have HB := n0_; clear n0_; (try clear hb); (try clear hb2); (try clear hk); (try clear hi)) | (go_at_call 19; (with_reducible refine (odometerlaw01_fails.calls (⟨#[49, 95, 48]⟩ : ByteArray) 3 true _ A23.out).mono ?_); rintro e w37 ⟨rfl, hb⟩; have n0_ := Aside0.mk (below_step (by repeat (first | (with_reducible first | exact HB.out | apply below_alloc | apply pw_below_drewN | apply below_drew1) | exact HB.out)) hb); clear HB; have HB := n0_; clear n0_; (try clear hb); (try clear hb2); (try clear hk); (try clear hi)) | (go_at_call 19; (with_reducible refine (odometerlaw01_fails.calls (⟨#[]⟩ : ByteArray) 3 t117 _ A25.out).mono ?_); rintro e w38 ⟨rfl, hb⟩; have n0_ := Aside0.mk (below_step (by repeat (first | (with_reducible first | exact HB.out | apply below_alloc | apply pw_below_drewN | apply below_drew1) | exact HB.out)) hb); clear HB; have HB := n0_; clear n0_; (try clear hb); (try clear hb2); (try clear hk); (try clear hi)))
                          go_ret
                          exact ⟨by first | rfl | (simp [errW_none, errW_some] <;> rfl) | (simp [*, errW_none, errW_some] <;> rfl), by repeat (first | (with_reducible first | exact HB.out | apply below_alloc | apply pw_below_drewN | apply below_drew1) | exact HB.out)⟩
                        · replace c24 := Bool.eq_false_iff.mpr c24
                          subst c24
                          have H1 : (some false) = some r := by rw [if_neg (show ¬ (false = true) by decide)] at H; exact H
                          clear H
                          have H := H1
                          clear H1
                          obtain rfl := Option.some.inj H
                          go_enter Tryd.func7, Tryd.ntmps7
                          go_wp2_with (first | ((with_reducible refine gate_callee (f := 16) rfl ?_); refine goesL_ (some 1) rfl rfl Tryd.func16 (by kernel_rfl) rfl #[.string (⟨#[49, 101, 51]⟩ : ByteArray), .int .i64 1000000000] rfl (by (try simp only [List.map_toArray, List.map_cons, List.map_nil]); first | done | rfl | (simp only [List.length_drop, List.length_take]; rfl)) ?_; (with_reducible refine (odometerlaw01_reads.calls (⟨#[49, 101, 51]⟩ : ByteArray) 1000000000 true _ A1.out).mono ?_); rintro e w39 ⟨rfl, hb⟩; refine ⟨_, rfl, ?_⟩; have n0_ := Aside0.mk (below_step (by repeat (first | (with_reducible first | exact HB.out | apply below_alloc | apply pw_below_drewN | apply below_drew1) | exact HB.out)) hb); clear HB; have HB := n0_; clear n0_; (try clear hb); (try clear hb2); (try clear hk); (try clear hi)) | (go_at_call 16; (with_reducible refine (odometerlaw01_reads.calls (⟨#[46, 53]⟩ : ByteArray) 500000 true _ A3.out).mono ?_); rintro e w40 ⟨rfl, hb⟩; have n0_ := Aside0.mk (below_step (by repeat (first | (with_reducible first | exact HB.out | apply below_alloc | apply pw_below_drewN | apply below_drew1) | exact HB.out)) hb); clear HB; have HB := n0_; clear n0_; (try clear hb); (try clear hb2); (try clear hk); (try clear hi)) | (go_at_call 16; (with_reducible refine (odometerlaw01_reads.calls (⟨#[45, 48, 46, 48, 48, 48, 48, 48, 49]⟩ : ByteArray) (-1) true _ A5.out).mono ?_); rintro e w41 ⟨rfl, hb⟩; have n0_ := Aside0.mk (below_step (by repeat (first | (with_reducible first | exact HB.out | apply below_alloc | apply pw_below_drewN | apply below_drew1) | exact HB.out)) hb); clear HB; have HB := n0_; clear n0_; (try clear hb); (try clear hb2); (try clear hk); (try clear hi)) | (go_at_call 16; (with_reducible refine (odometerlaw01_reads.calls (⟨#[50, 53, 101, 45, 54]⟩ : ByteArray) 25 true _ A7.out).mono ?_); rintro e w42 ⟨rfl, hb⟩; have n0_ := Aside0.mk (below_step (by repeat (first | (with_reducible first | exact HB.out | apply below_alloc | apply pw_below_drewN | apply below_drew1) | exact HB.out)) hb); clear HB; have HB := n0_; clear n0_; (try clear hb); (try clear hb2); (try clear hk); (try clear hi)) | (go_at_call 16; (with_reducible refine (odometerlaw01_reads.calls (⟨#[48, 101, 57, 57]⟩ : ByteArray) 0 true _ A9.out).mono ?_); rintro e w43 ⟨rfl, hb⟩; have n0_ := Aside0.mk (below_step (by repeat (first | (with_reducible first | exact HB.out | apply below_alloc | apply pw_below_drewN | apply below_drew1) | exact HB.out)) hb); clear HB; have HB := n0_; clear n0_; (try clear hb); (try clear hb2); (try clear hk); (try clear hi)) | (go_at_call 19; (with_reducible refine (odometerlaw01_fails.calls (⟨#[49, 101, 45, 55]⟩ : ByteArray) 4 true _ A11.out).mono ?_); rintro e w44 ⟨rfl, hb⟩; have n0_ := Aside0.mk (below_step (by repeat (first | (with_reducible first | exact HB.out | apply below_alloc | apply pw_below_drewN | apply below_drew1) | exact HB.out)) hb); clear HB; have HB := n0_; clear n0_; (try clear hb); (try clear hb2); (try clear hk); (try clear hi)) | (go_at_call 19; (with_reducible refine (odometerlaw01_fails.calls (⟨#[57, 50, 50, 51, 51, 55, 50, 48, 51, 54, 56, 53, 52, 46, 55, 55, 53, 56, 48, 56]⟩ : ByteArray) 4 true _ A13.out).mono ?_); rintro e w45 ⟨rfl, hb⟩; have n0_ := Aside0.mk (below_step (by repeat (first | (with_reducible first | exact HB.out | apply below_alloc | apply pw_below_drewN | apply below_drew1) | exact HB.out)) hb); clear HB; have HB := n0_; clear n0_; (try clear hb); (try clear hb2); (try clear hk); (try clear hi)) | (go_at_call 19; (with_reducible refine (odometerlaw01_fails.calls (⟨#[43, 73, 110, 102]⟩ : ByteArray) 4 true _ A15.out).mono ?_); rintro e w46 ⟨rfl, hb⟩; have n0_ := Aside0.mk (below_step (by repeat (first | (with_reducible first | exact HB.out | apply below_alloc | apply pw_below_drewN | apply below_drew1) | exact HB.out)) hb); clear HB; have HB := n0_; clear n0_; (try clear hb); (try clear hb2); (try clear hk); (try clear hi)) | (go_at_call 19; (with_reducible refine (odometerlaw01_fails.calls (⟨#[46]⟩ : ByteArray) 3 true _ A17.out).mono ?_); rintro e w47 ⟨rfl, hb⟩; have n0_ := Aside0.mk (below_step (by repeat (first | (with_reducible first | exact HB.out | apply below_alloc | apply pw_below_drewN | apply below_drew1) | exact HB.out)) hb); clear HB; have HB := n0_; clear n0_; (try clear hb); (try clear hb2); (try clear hk); (try clear hi)) | (go_at_call 19; (with_reducible refine (odometerlaw01_fails.calls (⟨#[101, 53]⟩ : ByteArray) 3 true _ A19.out).mono ?_); rintro e w48 ⟨rfl, hb⟩; have n0_ := Aside0.mk (below_step (by repeat (first | (with_reducible first | exact HB.out | apply below_alloc | apply pw_below_drewN | apply below_drew1) | exact HB.out)) hb); clear HB; have HB := n0_; clear n0_; (try clear hb); (try clear hb2); (try clear hk); (try clear hi)) | (go_at_call 19; (with_reducible refine (odometerlaw01_fails.calls (⟨#[49, 101]⟩ : ByteArray) 3 true _ A21.out).mono ?_); rintro e w49 ⟨rfl, hb⟩; have n0_ := Aside0.mk (below_step (by repeat (first | (with_reducible first | exact HB.out | apply below_alloc | apply pw_below_drewN | apply below_drew1) | exact HB.out)) hb); clear HB; have HB := n0_; clear n0_; (try clear hb); (try clear hb2); (try clear hk); (try clear hi)) | (go_at_call 19; (with_reducible refine (odometerlaw01_fails.calls (⟨#[49, 95, 48]⟩ : ByteArray) 3 false _ A23.out).mono ?_); rintro e w50 ⟨rfl, hb⟩; have n0_ := Aside0.mk (below_step (by repeat (first | (with_reducible first | exact HB.out | apply below_alloc | apply pw_below_drewN | apply below_drew1) | exact HB.out)) hb); clear HB; have HB := n0_; clear n0_; (try clear hb); (try clear hb2); (try clear hk); (try clear hi)))
                          go_ret
                          exact ⟨by first | rfl | (simp [errW_none, errW_some] <;> rfl) | (simp [*, errW_none, errW_some] <;> rfl), by repeat (first | (with_reducible first | exact HB.out | apply below_alloc | apply pw_below_drewN | apply below_drew1) | exact HB.out)⟩
                      · replace c22 := Bool.eq_false_iff.mpr c22
                        subst c22
                        have H1 : (some false) = some r := by rw [if_neg (show ¬ (false = true) by decide)] at H; exact H
                        clear H
                        have H := H1
                        clear H1
                        obtain rfl := Option.some.inj H
                        go_enter Tryd.func7, Tryd.ntmps7
                        go_wp2_with (first | ((with_reducible refine gate_callee (f := 16) rfl ?_); refine goesL_ (some 1) rfl rfl Tryd.func16 (by kernel_rfl) rfl #[.string (⟨#[49, 101, 51]⟩ : ByteArray), .int .i64 1000000000] rfl (by (try simp only [List.map_toArray, List.map_cons, List.map_nil]); first | done | rfl | (simp only [List.length_drop, List.length_take]; rfl)) ?_; (with_reducible refine (odometerlaw01_reads.calls (⟨#[49, 101, 51]⟩ : ByteArray) 1000000000 true _ A1.out).mono ?_); rintro e w51 ⟨rfl, hb⟩; refine ⟨_, rfl, ?_⟩; have n0_ := Aside0.mk (below_step (by repeat (first | (with_reducible first | exact HB.out | apply below_alloc | apply pw_below_drewN | apply below_drew1) | exact HB.out)) hb); clear HB; have HB := n0_; clear n0_; (try clear hb); (try clear hb2); (try clear hk); (try clear hi)) | (go_at_call 16; (with_reducible refine (odometerlaw01_reads.calls (⟨#[46, 53]⟩ : ByteArray) 500000 true _ A3.out).mono ?_); rintro e w52 ⟨rfl, hb⟩; have n0_ := Aside0.mk (below_step (by repeat (first | (with_reducible first | exact HB.out | apply below_alloc | apply pw_below_drewN | apply below_drew1) | exact HB.out)) hb); clear HB; have HB := n0_; clear n0_; (try clear hb); (try clear hb2); (try clear hk); (try clear hi)) | (go_at_call 16; (with_reducible refine (odometerlaw01_reads.calls (⟨#[45, 48, 46, 48, 48, 48, 48, 48, 49]⟩ : ByteArray) (-1) true _ A5.out).mono ?_); rintro e w53 ⟨rfl, hb⟩; have n0_ := Aside0.mk (below_step (by repeat (first | (with_reducible first | exact HB.out | apply below_alloc | apply pw_below_drewN | apply below_drew1) | exact HB.out)) hb); clear HB; have HB := n0_; clear n0_; (try clear hb); (try clear hb2); (try clear hk); (try clear hi)) | (go_at_call 16; (with_reducible refine (odometerlaw01_reads.calls (⟨#[50, 53, 101, 45, 54]⟩ : ByteArray) 25 true _ A7.out).mono ?_); rintro e w54 ⟨rfl, hb⟩; have n0_ := Aside0.mk (below_step (by repeat (first | (with_reducible first | exact HB.out | apply below_alloc | apply pw_below_drewN | apply below_drew1) | exact HB.out)) hb); clear HB; have HB := n0_; clear n0_; (try clear hb); (try clear hb2); (try clear hk); (try clear hi)) | (go_at_call 16; (with_reducible refine (odometerlaw01_reads.calls (⟨#[48, 101, 57, 57]⟩ : ByteArray) 0 true _ A9.out).mono ?_); rintro e w55 ⟨rfl, hb⟩; have n0_ := Aside0.mk (below_step (by repeat (first | (with_reducible first | exact HB.out | apply below_alloc | apply pw_below_drewN | apply below_drew1) | exact HB.out)) hb); clear HB; have HB := n0_; clear n0_; (try clear hb); (try clear hb2); (try clear hk); (try clear hi)) | (go_at_call 19; (with_reducible refine (odometerlaw01_fails.calls (⟨#[49, 101, 45, 55]⟩ : ByteArray) 4 true _ A11.out).mono ?_); rintro e w56 ⟨rfl, hb⟩; have n0_ := Aside0.mk (below_step (by repeat (first | (with_reducible first | exact HB.out | apply below_alloc | apply pw_below_drewN | apply below_drew1) | exact HB.out)) hb); clear HB; have HB := n0_; clear n0_; (try clear hb); (try clear hb2); (try clear hk); (try clear hi)) | (go_at_call 19; (with_reducible refine (odometerlaw01_fails.calls (⟨#[57, 50, 50, 51, 51, 55, 50, 48, 51, 54, 56, 53, 52, 46, 55, 55, 53, 56, 48, 56]⟩ : ByteArray) 4 true _ A13.out).mono ?_); rintro e w57 ⟨rfl, hb⟩; have n0_ := Aside0.mk (below_step (by repeat (first | (with_reducible first | exact HB.out | apply below_alloc | apply pw_below_drewN | apply below_drew1) | exact HB.out)) hb); clear HB; have HB := n0_; clear n0_; (try clear hb); (try clear hb2); (try clear hk); (try clear hi)) | (go_at_call 19; (with_reducible refine (odometerlaw01_fails.calls (⟨#[43, 73, 110, 102]⟩ : ByteArray) 4 true _ A15.out).mono ?_); rintro e w58 ⟨rfl, hb⟩; have n0_ := Aside0.mk (below_step (by repeat (first | (with_reducible first | exact HB.out | apply below_alloc | apply pw_below_drewN | apply below_drew1) | exact HB.out)) hb); clear HB; have HB := n0_; clear n0_; (try clear hb); (try clear hb2); (try clear hk); (try clear hi)) | (go_at_call 19; (with_reducible refine (odometerlaw01_fails.calls (⟨#[46]⟩ : ByteArray) 3 true _ A17.out).mono ?_); rintro e w59 ⟨rfl, hb⟩; have n0_ := Aside0.mk (below_step (by repeat (first | (with_reducible first | exact HB.out | apply below_alloc | apply pw_below_drewN | apply below_drew1) | exact HB.out)) hb); clear HB; have HB := n0_; clear n0_; (try clear hb); (try clear hb2); (try clear hk); (try clear hi)) | (go_at_call 19; (with_reducible refine (odometerlaw01_fails.calls (⟨#[101, 53]⟩ : ByteArray) 3 true _ A19.out).mono ?_); rintro e w60 ⟨rfl, hb⟩; have n0_ := Aside0.mk (below_step (by repeat (first | (with_reducible first | exact HB.out | apply below_alloc | apply pw_below_drewN | apply below_drew1) | exact HB.out)) hb); clear HB; have HB := n0_; clear n0_; (try clear hb); (try clear hb2); (try clear hk); (try clear hi)) | (go_at_call 19; (with_reducible refine (odometerlaw01_fails.calls (⟨#[49, 101]⟩ : ByteArray) 3 false _ A21.out).mono ?_); rintro e w61 ⟨rfl, hb⟩; have n0_ := Aside0.mk (below_step (by repeat (first | (with_reducible first | exact HB.out | apply below_alloc | apply pw_below_drewN | apply below_drew1) | exact HB.out)) hb); clear HB; have HB := n0_; clear n0_; (try clear hb); (try clear hb2); (try clear hk); (try clear hi)))
                        go_ret
                        exact ⟨by first | rfl | (simp [errW_none, errW_some] <;> rfl) | (simp [*, errW_none, errW_some] <;> rfl), by repeat (first | (with_reducible first | exact HB.out | apply below_alloc | apply pw_below_drewN | apply below_drew1) | exact HB.out)⟩
                    · replace c20 := Bool.eq_false_iff.mpr c20
                      subst c20
                      have H1 : (some false) = some r := by rw [if_neg (show ¬ (false = true) by decide)] at H; exact H
                      clear H
                      have H := H1
                      clear H1
                      obtain rfl := Option.some.inj H
                      go_enter Tryd.func7, Tryd.ntmps7
                      go_wp2_with (first | ((with_reducible refine gate_callee (f := 16) rfl ?_); refine goesL_ (some 1) rfl rfl Tryd.func16 (by kernel_rfl) rfl #[.string (⟨#[49, 101, 51]⟩ : ByteArray), .int .i64 1000000000] rfl (by (try simp only [List.map_toArray, List.map_cons, List.map_nil]); first | done | rfl | (simp only [List.length_drop, List.length_take]; rfl)) ?_; (with_reducible refine (odometerlaw01_reads.calls (⟨#[49, 101, 51]⟩ : ByteArray) 1000000000 true _ A1.out).mono ?_); rintro e w62 ⟨rfl, hb⟩; refine ⟨_, rfl, ?_⟩; have n0_ := Aside0.mk (below_step (by repeat (first | (with_reducible first | exact HB.out | apply below_alloc | apply pw_below_drewN | apply below_drew1) | exact HB.out)) hb); clear HB; have HB := n0_; clear n0_; (try clear hb); (try clear hb2); (try clear hk); (try clear hi)) | (go_at_call 16; (with_reducible refine (odometerlaw01_reads.calls (⟨#[46, 53]⟩ : ByteArray) 500000 true _ A3.out).mono ?_); rintro e w63 ⟨rfl, hb⟩; have n0_ := Aside0.mk (below_step (by repeat (first | (with_reducible first | exact HB.out | apply below_alloc | apply pw_below_drewN | apply below_drew1) | exact HB.out)) hb); clear HB; have HB := n0_; clear n0_; (try clear hb); (try clear hb2); (try clear hk); (try clear hi)) | (go_at_call 16; (with_reducible refine (odometerlaw01_reads.calls (⟨#[45, 48, 46, 48, 48, 48, 48, 48, 49]⟩ : ByteArray) (-1) true _ A5.out).mono ?_); rintro e w64 ⟨rfl, hb⟩; have n0_ := Aside0.mk (below_step (by repeat (first | (with_reducible first | exact HB.out | apply below_alloc | apply pw_below_drewN | apply below_drew1) | exact HB.out)) hb); clear HB; have HB := n0_; clear n0_; (try clear hb); (try clear hb2); (try clear hk); (try clear hi)) | (go_at_call 16; (with_reducible refine (odometerlaw01_reads.calls (⟨#[50, 53, 101, 45, 54]⟩ : ByteArray) 25 true _ A7.out).mono ?_); rintro e w65 ⟨rfl, hb⟩; have n0_ := Aside0.mk (below_step (by repeat (first | (with_reducible first | exact HB.out | apply below_alloc | apply pw_below_drewN | apply below_drew1) | exact HB.out)) hb); clear HB; have HB := n0_; clear n0_; (try clear hb); (try clear hb2); (try clear hk); (try clear hi)) | (go_at_call 16; (with_reducible refine (odometerlaw01_reads.calls (⟨#[48, 101, 57, 57]⟩ : ByteArray) 0 true _ A9.out).mono ?_); rintro e w66 ⟨rfl, hb⟩; have n0_ := Aside0.mk (below_step (by repeat (first | (with_reducible first | exact HB.out | apply below_alloc | apply pw_below_drewN | apply below_drew1) | exact HB.out)) hb); clear HB; have HB := n0_; clear n0_; (try clear hb); (try clear hb2); (try clear hk); (try clear hi)) | (go_at_call 19; (with_reducible refine (odometerlaw01_fails.calls (⟨#[49, 101, 45, 55]⟩ : ByteArray) 4 true _ A11.out).mono ?_); rintro e w67 ⟨rfl, hb⟩; have n0_ := Aside0.mk (below_step (by repeat (first | (with_reducible first | exact HB.out | apply below_alloc | apply pw_below_drewN | apply below_drew1) | exact HB.out)) hb); clear HB; have HB := n0_; clear n0_; (try clear hb); (try clear hb2); (try clear hk); (try clear hi)) | (go_at_call 19; (with_reducible refine (odometerlaw01_fails.calls (⟨#[57, 50, 50, 51, 51, 55, 50, 48, 51, 54, 56, 53, 52, 46, 55, 55, 53, 56, 48, 56]⟩ : ByteArray) 4 true _ A13.out).mono ?_); rintro e w68 ⟨rfl, hb⟩; have n0_ := Aside0.mk (below_step (by repeat (first | (with_reducible first | exact HB.out | apply below_alloc | apply pw_below_drewN | apply below_drew1) | exact HB.out)) hb); clear HB; have HB := n0_; clear n0_; (try clear hb); (try clear hb2); (try clear hk); (try clear hi)) | (go_at_call 19; (with_reducible refine (odometerlaw01_fails.calls (⟨#[43, 73, 110, 102]⟩ : ByteArray) 4 true _ A15.out).mono ?_); rintro e w69 ⟨rfl, hb⟩; have n0_ := Aside0.mk (below_step (by repeat (first | (with_reducible first | exact HB.out | apply below_alloc | apply pw_below_drewN | apply below_drew1) | exact HB.out)) hb); clear HB; have HB := n0_; clear n0_; (try clear hb); (try clear hb2); (try clear hk); (try clear hi)) | (go_at_call 19; (with_reducible refine (odometerlaw01_fails.calls (⟨#[46]⟩ : ByteArray) 3 true _ A17.out).mono ?_); rintro e w70 ⟨rfl, hb⟩; have n0_ := Aside0.mk (below_step (by repeat (first | (with_reducible first | exact HB.out | apply below_alloc | apply pw_below_drewN | apply below_drew1) | exact HB.out)) hb); clear HB; have HB := n0_; clear n0_; (try clear hb); (try clear hb2); (try clear hk); (try clear hi)) | (go_at_call 19; (with_reducible refine (odometerlaw01_fails.calls (⟨#[101, 53]⟩ : ByteArray) 3 false _ A19.out).mono ?_); rintro e w71 ⟨rfl, hb⟩; have n0_ := Aside0.mk (below_step (by repeat (first | (with_reducible first | exact HB.out | apply below_alloc | apply pw_below_drewN | apply below_drew1) | exact HB.out)) hb); clear HB; have HB := n0_; clear n0_; (try clear hb); (try clear hb2); (try clear hk); (try clear hi)))
                      go_ret
                      exact ⟨by first | rfl | (simp [errW_none, errW_some] <;> rfl) | (simp [*, errW_none, errW_some] <;> rfl), by repeat (first | (with_reducible first | exact HB.out | apply below_alloc | apply pw_below_drewN | apply below_drew1) | exact HB.out)⟩
                  · replace c18 := Bool.eq_false_iff.mpr c18
                    subst c18
                    have H1 : (some false) = some r := by rw [if_neg (show ¬ (false = true) by decide)] at H; exact H
                    clear H
                    have H := H1
                    clear H1
                    obtain rfl := Option.some.inj H
                    go_enter Tryd.func7, Tryd.ntmps7
                    go_wp2_with (first | ((with_reducible refine gate_callee (f := 16) rfl ?_); refine goesL_ (some 1) rfl rfl Tryd.func16 (by kernel_rfl) rfl #[.string (⟨#[49, 101, 51]⟩ : ByteArray), .int .i64 1000000000] rfl (by (try simp only [List.map_toArray, List.map_cons, List.map_nil]); first | done | rfl | (simp only [List.length_drop, List.length_take]; rfl)) ?_; (with_reducible refine (odometerlaw01_reads.calls (⟨#[49, 101, 51]⟩ : ByteArray) 1000000000 true _ A1.out).mono ?_); rintro e w72 ⟨rfl, hb⟩; refine ⟨_, rfl, ?_⟩; have n0_ := Aside0.mk (below_step (by repeat (first | (with_reducible first | exact HB.out | apply below_alloc | apply pw_below_drewN | apply below_drew1) | exact HB.out)) hb); clear HB; have HB := n0_; clear n0_; (try clear hb); (try clear hb2); (try clear hk); (try clear hi)) | (go_at_call 16; (with_reducible refine (odometerlaw01_reads.calls (⟨#[46, 53]⟩ : ByteArray) 500000 true _ A3.out).mono ?_); rintro e w73 ⟨rfl, hb⟩; have n0_ := Aside0.mk (below_step (by repeat (first | (with_reducible first | exact HB.out | apply below_alloc | apply pw_below_drewN | apply below_drew1) | exact HB.out)) hb); clear HB; have HB := n0_; clear n0_; (try clear hb); (try clear hb2); (try clear hk); (try clear hi)) | (go_at_call 16; (with_reducible refine (odometerlaw01_reads.calls (⟨#[45, 48, 46, 48, 48, 48, 48, 48, 49]⟩ : ByteArray) (-1) true _ A5.out).mono ?_); rintro e w74 ⟨rfl, hb⟩; have n0_ := Aside0.mk (below_step (by repeat (first | (with_reducible first | exact HB.out | apply below_alloc | apply pw_below_drewN | apply below_drew1) | exact HB.out)) hb); clear HB; have HB := n0_; clear n0_; (try clear hb); (try clear hb2); (try clear hk); (try clear hi)) | (go_at_call 16; (with_reducible refine (odometerlaw01_reads.calls (⟨#[50, 53, 101, 45, 54]⟩ : ByteArray) 25 true _ A7.out).mono ?_); rintro e w75 ⟨rfl, hb⟩; have n0_ := Aside0.mk (below_step (by repeat (first | (with_reducible first | exact HB.out | apply below_alloc | apply pw_below_drewN | apply below_drew1) | exact HB.out)) hb); clear HB; have HB := n0_; clear n0_; (try clear hb); (try clear hb2); (try clear hk); (try clear hi)) | (go_at_call 16; (with_reducible refine (odometerlaw01_reads.calls (⟨#[48, 101, 57, 57]⟩ : ByteArray) 0 true _ A9.out).mono ?_); rintro e w76 ⟨rfl, hb⟩; have n0_ := Aside0.mk (below_step (by repeat (first | (with_reducible first | exact HB.out | apply below_alloc | apply pw_below_drewN | apply below_drew1) | exact HB.out)) hb); clear HB; have HB := n0_; clear n0_; (try clear hb); (try clear hb2); (try clear hk); (try clear hi)) | (go_at_call 19; (with_reducible refine (odometerlaw01_fails.calls (⟨#[49, 101, 45, 55]⟩ : ByteArray) 4 true _ A11.out).mono ?_); rintro e w77 ⟨rfl, hb⟩; have n0_ := Aside0.mk (below_step (by repeat (first | (with_reducible first | exact HB.out | apply below_alloc | apply pw_below_drewN | apply below_drew1) | exact HB.out)) hb); clear HB; have HB := n0_; clear n0_; (try clear hb); (try clear hb2); (try clear hk); (try clear hi)) | (go_at_call 19; (with_reducible refine (odometerlaw01_fails.calls (⟨#[57, 50, 50, 51, 51, 55, 50, 48, 51, 54, 56, 53, 52, 46, 55, 55, 53, 56, 48, 56]⟩ : ByteArray) 4 true _ A13.out).mono ?_); rintro e w78 ⟨rfl, hb⟩; have n0_ := Aside0.mk (below_step (by repeat (first | (with_reducible first | exact HB.out | apply below_alloc | apply pw_below_drewN | apply below_drew1) | exact HB.out)) hb); clear HB; have HB := n0_; clear n0_; (try clear hb); (try clear hb2); (try clear hk); (try clear hi)) | (go_at_call 19; (with_reducible refine (odometerlaw01_fails.calls (⟨#[43, 73, 110, 102]⟩ : ByteArray) 4 true _ A15.out).mono ?_); rintro e w79 ⟨rfl, hb⟩; have n0_ := Aside0.mk (below_step (by repeat (first | (with_reducible first | exact HB.out | apply below_alloc | apply pw_below_drewN | apply below_drew1) | exact HB.out)) hb); clear HB; have HB := n0_; clear n0_; (try clear hb); (try clear hb2); (try clear hk); (try clear hi)) | (go_at_call 19; (with_reducible refine (odometerlaw01_fails.calls (⟨#[46]⟩ : ByteArray) 3 false _ A17.out).mono ?_); rintro e w80 ⟨rfl, hb⟩; have n0_ := Aside0.mk (below_step (by repeat (first | (with_reducible first | exact HB.out | apply below_alloc | apply pw_below_drewN | apply below_drew1) | exact HB.out)) hb); clear HB; have HB := n0_; clear n0_; (try clear hb); (try clear hb2); (try clear hk); (try clear hi)))
                    go_ret
                    exact ⟨by first | rfl | (simp [errW_none, errW_some] <;> rfl) | (simp [*, errW_none, errW_some] <;> rfl), by repeat (first | (with_reducible first | exact HB.out | apply below_alloc | apply pw_below_drewN | apply below_drew1) | exact HB.out)⟩
                · replace c16 := Bool.eq_false_iff.mpr c16
                  subst c16
                  have H1 : (some false) = some r := by rw [if_neg (show ¬ (false = true) by decide)] at H; exact H
                  clear H
                  have H := H1
                  clear H1
                  obtain rfl := Option.some.inj H
                  go_enter Tryd.func7, Tryd.ntmps7
                  go_wp2_with (first | ((with_reducible refine gate_callee (f := 16) rfl ?_); refine goesL_ (some 1) rfl rfl Tryd.func16 (by kernel_rfl) rfl #[.string (⟨#[49, 101, 51]⟩ : ByteArray), .int .i64 1000000000] rfl (by (try simp only [List.map_toArray, List.map_cons, List.map_nil]); first | done | rfl | (simp only [List.length_drop, List.length_take]; rfl)) ?_; (with_reducible refine (odometerlaw01_reads.calls (⟨#[49, 101, 51]⟩ : ByteArray) 1000000000 true _ A1.out).mono ?_); rintro e w81 ⟨rfl, hb⟩; refine ⟨_, rfl, ?_⟩; have n0_ := Aside0.mk (below_step (by repeat (first | (with_reducible first | exact HB.out | apply below_alloc | apply pw_below_drewN | apply below_drew1) | exact HB.out)) hb); clear HB; have HB := n0_; clear n0_; (try clear hb); (try clear hb2); (try clear hk); (try clear hi)) | (go_at_call 16; (with_reducible refine (odometerlaw01_reads.calls (⟨#[46, 53]⟩ : ByteArray) 500000 true _ A3.out).mono ?_); rintro e w82 ⟨rfl, hb⟩; have n0_ := Aside0.mk (below_step (by repeat (first | (with_reducible first | exact HB.out | apply below_alloc | apply pw_below_drewN | apply below_drew1) | exact HB.out)) hb); clear HB; have HB := n0_; clear n0_; (try clear hb); (try clear hb2); (try clear hk); (try clear hi)) | (go_at_call 16; (with_reducible refine (odometerlaw01_reads.calls (⟨#[45, 48, 46, 48, 48, 48, 48, 48, 49]⟩ : ByteArray) (-1) true _ A5.out).mono ?_); rintro e w83 ⟨rfl, hb⟩; have n0_ := Aside0.mk (below_step (by repeat (first | (with_reducible first | exact HB.out | apply below_alloc | apply pw_below_drewN | apply below_drew1) | exact HB.out)) hb); clear HB; have HB := n0_; clear n0_; (try clear hb); (try clear hb2); (try clear hk); (try clear hi)) | (go_at_call 16; (with_reducible refine (odometerlaw01_reads.calls (⟨#[50, 53, 101, 45, 54]⟩ : ByteArray) 25 true _ A7.out).mono ?_); rintro e w84 ⟨rfl, hb⟩; have n0_ := Aside0.mk (below_step (by repeat (first | (with_reducible first | exact HB.out | apply below_alloc | apply pw_below_drewN | apply below_drew1) | exact HB.out)) hb); clear HB; have HB := n0_; clear n0_; (try clear hb); (try clear hb2); (try clear hk); (try clear hi)) | (go_at_call 16; (with_reducible refine (odometerlaw01_reads.calls (⟨#[48, 101, 57, 57]⟩ : ByteArray) 0 true _ A9.out).mono ?_); rintro e w85 ⟨rfl, hb⟩; have n0_ := Aside0.mk (below_step (by repeat (first | (with_reducible first | exact HB.out | apply below_alloc | apply pw_below_drewN | apply below_drew1) | exact HB.out)) hb); clear HB; have HB := n0_; clear n0_; (try clear hb); (try clear hb2); (try clear hk); (try clear hi)) | (go_at_call 19; (with_reducible refine (odometerlaw01_fails.calls (⟨#[49, 101, 45, 55]⟩ : ByteArray) 4 true _ A11.out).mono ?_); rintro e w86 ⟨rfl, hb⟩; have n0_ := Aside0.mk (below_step (by repeat (first | (with_reducible first | exact HB.out | apply below_alloc | apply pw_below_drewN | apply below_drew1) | exact HB.out)) hb); clear HB; have HB := n0_; clear n0_; (try clear hb); (try clear hb2); (try clear hk); (try clear hi)) | (go_at_call 19; (with_reducible refine (odometerlaw01_fails.calls (⟨#[57, 50, 50, 51, 51, 55, 50, 48, 51, 54, 56, 53, 52, 46, 55, 55, 53, 56, 48, 56]⟩ : ByteArray) 4 true _ A13.out).mono ?_); rintro e w87 ⟨rfl, hb⟩; have n0_ := Aside0.mk (below_step (by repeat (first | (with_reducible first | exact HB.out | apply below_alloc | apply pw_below_drewN | apply below_drew1) | exact HB.out)) hb); clear HB; have HB := n0_; clear n0_; (try clear hb); (try clear hb2); (try clear hk); (try clear hi)) | (go_at_call 19; (with_reducible refine (odometerlaw01_fails.calls (⟨#[43, 73, 110, 102]⟩ : ByteArray) 4 false _ A15.out).mono ?_); rintro e w88 ⟨rfl, hb⟩; have n0_ := Aside0.mk (below_step (by repeat (first | (with_reducible first | exact HB.out | apply below_alloc | apply pw_below_drewN | apply below_drew1) | exact HB.out)) hb); clear HB; have HB := n0_; clear n0_; (try clear hb); (try clear hb2); (try clear hk); (try clear hi)))
                  go_ret
                  exact ⟨by first | rfl | (simp [errW_none, errW_some] <;> rfl) | (simp [*, errW_none, errW_some] <;> rfl), by repeat (first | (with_reducible first | exact HB.out | apply below_alloc | apply pw_below_drewN | apply below_drew1) | exact HB.out)⟩
              · replace c14 := Bool.eq_false_iff.mpr c14
                subst c14
                have H1 : (some false) = some r := by rw [if_neg (show ¬ (false = true) by decide)] at H; exact H
                clear H
                have H := H1
                clear H1
                obtain rfl := Option.some.inj H
                go_enter Tryd.func7, Tryd.ntmps7
                go_wp2_with (first | ((with_reducible refine gate_callee (f := 16) rfl ?_); refine goesL_ (some 1) rfl rfl Tryd.func16 (by kernel_rfl) rfl #[.string (⟨#[49, 101, 51]⟩ : ByteArray), .int .i64 1000000000] rfl (by (try simp only [List.map_toArray, List.map_cons, List.map_nil]); first | done | rfl | (simp only [List.length_drop, List.length_take]; rfl)) ?_; (with_reducible refine (odometerlaw01_reads.calls (⟨#[49, 101, 51]⟩ : ByteArray) 1000000000 true _ A1.out).mono ?_); rintro e w89 ⟨rfl, hb⟩; refine ⟨_, rfl, ?_⟩; have n0_ := Aside0.mk (below_step (by repeat (first | (with_reducible first | exact HB.out | apply below_alloc | apply pw_below_drewN | apply below_drew1) | exact HB.out)) hb); clear HB; have HB := n0_; clear n0_; (try clear hb); (try clear hb2); (try clear hk); (try clear hi)) | (go_at_call 16; (with_reducible refine (odometerlaw01_reads.calls (⟨#[46, 53]⟩ : ByteArray) 500000 true _ A3.out).mono ?_); rintro e w90 ⟨rfl, hb⟩; have n0_ := Aside0.mk (below_step (by repeat (first | (with_reducible first | exact HB.out | apply below_alloc | apply pw_below_drewN | apply below_drew1) | exact HB.out)) hb); clear HB; have HB := n0_; clear n0_; (try clear hb); (try clear hb2); (try clear hk); (try clear hi)) | (go_at_call 16; (with_reducible refine (odometerlaw01_reads.calls (⟨#[45, 48, 46, 48, 48, 48, 48, 48, 49]⟩ : ByteArray) (-1) true _ A5.out).mono ?_); rintro e w91 ⟨rfl, hb⟩; have n0_ := Aside0.mk (below_step (by repeat (first | (with_reducible first | exact HB.out | apply below_alloc | apply pw_below_drewN | apply below_drew1) | exact HB.out)) hb); clear HB; have HB := n0_; clear n0_; (try clear hb); (try clear hb2); (try clear hk); (try clear hi)) | (go_at_call 16; (with_reducible refine (odometerlaw01_reads.calls (⟨#[50, 53, 101, 45, 54]⟩ : ByteArray) 25 true _ A7.out).mono ?_); rintro e w92 ⟨rfl, hb⟩; have n0_ := Aside0.mk (below_step (by repeat (first | (with_reducible first | exact HB.out | apply below_alloc | apply pw_below_drewN | apply below_drew1) | exact HB.out)) hb); clear HB; have HB := n0_; clear n0_; (try clear hb); (try clear hb2); (try clear hk); (try clear hi)) | (go_at_call 16; (with_reducible refine (odometerlaw01_reads.calls (⟨#[48, 101, 57, 57]⟩ : ByteArray) 0 true _ A9.out).mono ?_); rintro e w93 ⟨rfl, hb⟩; have n0_ := Aside0.mk (below_step (by repeat (first | (with_reducible first | exact HB.out | apply below_alloc | apply pw_below_drewN | apply below_drew1) | exact HB.out)) hb); clear HB; have HB := n0_; clear n0_; (try clear hb); (try clear hb2); (try clear hk); (try clear hi)) | (go_at_call 19; (with_reducible refine (odometerlaw01_fails.calls (⟨#[49, 101, 45, 55]⟩ : ByteArray) 4 true _ A11.out).mono ?_); rintro e w94 ⟨rfl, hb⟩; have n0_ := Aside0.mk (below_step (by repeat (first | (with_reducible first | exact HB.out | apply below_alloc | apply pw_below_drewN | apply below_drew1) | exact HB.out)) hb); clear HB; have HB := n0_; clear n0_; (try clear hb); (try clear hb2); (try clear hk); (try clear hi)) | (go_at_call 19; (with_reducible refine (odometerlaw01_fails.calls (⟨#[57, 50, 50, 51, 51, 55, 50, 48, 51, 54, 56, 53, 52, 46, 55, 55, 53, 56, 48, 56]⟩ : ByteArray) 4 false _ A13.out).mono ?_); rintro e w95 ⟨rfl, hb⟩; have n0_ := Aside0.mk (below_step (by repeat (first | (with_reducible first | exact HB.out | apply below_alloc | apply pw_below_drewN | apply below_drew1) | exact HB.out)) hb); clear HB; have HB := n0_; clear n0_; (try clear hb); (try clear hb2); (try clear hk); (try clear hi)))
                go_ret
                exact ⟨by first | rfl | (simp [errW_none, errW_some] <;> rfl) | (simp [*, errW_none, errW_some] <;> rfl), by repeat (first | (with_reducible first | exact HB.out | apply below_alloc | apply pw_below_drewN | apply below_drew1) | exact HB.out)⟩
            · replace c12 := Bool.eq_false_iff.mpr c12
              subst c12
              have H1 : (some false) = some r := by rw [if_neg (show ¬ (false = true) by decide)] at H; exact H
              clear H
              have H := H1
              clear H1
              obtain rfl := Option.some.inj H
              go_enter Tryd.func7, Tryd.ntmps7
              go_wp2_with (first | ((with_reducible refine gate_callee (f := 16) rfl ?_); refine goesL_ (some 1) rfl rfl Tryd.func16 (by kernel_rfl) rfl #[.string (⟨#[49, 101, 51]⟩ : ByteArray), .int .i64 1000000000] rfl (by (try simp only [List.map_toArray, List.map_cons, List.map_nil]); first | done | rfl | (simp only [List.length_drop, List.length_take]; rfl)) ?_; (with_reducible refine (odometerlaw01_reads.calls (⟨#[49, 101, 51]⟩ : ByteArray) 1000000000 true _ A1.out).mono ?_); rintro e w96 ⟨rfl, hb⟩; refine ⟨_, rfl, ?_⟩; have n0_ := Aside0.mk (below_step (by repeat (first | (with_reducible first | exact HB.out | apply below_alloc | apply pw_below_drewN | apply below_drew1) | exact HB.out)) hb); clear HB; have HB := n0_; clear n0_; (try clear hb); (try clear hb2); (try clear hk); (try clear hi)) | (go_at_call 16; (with_reducible refine (odometerlaw01_reads.calls (⟨#[46, 53]⟩ : ByteArray) 500000 true _ A3.out).mono ?_); rintro e w97 ⟨rfl, hb⟩; have n0_ := Aside0.mk (below_step (by repeat (first | (with_reducible first | exact HB.out | apply below_alloc | apply pw_below_drewN | apply below_drew1) | exact HB.out)) hb); clear HB; have HB := n0_; clear n0_; (try clear hb); (try clear hb2); (try clear hk); (try clear hi)) | (go_at_call 16; (with_reducible refine (odometerlaw01_reads.calls (⟨#[45, 48, 46, 48, 48, 48, 48, 48, 49]⟩ : ByteArray) (-1) true _ A5.out).mono ?_); rintro e w98 ⟨rfl, hb⟩; have n0_ := Aside0.mk (below_step (by repeat (first | (with_reducible first | exact HB.out | apply below_alloc | apply pw_below_drewN | apply below_drew1) | exact HB.out)) hb); clear HB; have HB := n0_; clear n0_; (try clear hb); (try clear hb2); (try clear hk); (try clear hi)) | (go_at_call 16; (with_reducible refine (odometerlaw01_reads.calls (⟨#[50, 53, 101, 45, 54]⟩ : ByteArray) 25 true _ A7.out).mono ?_); rintro e w99 ⟨rfl, hb⟩; have n0_ := Aside0.mk (below_step (by repeat (first | (with_reducible first | exact HB.out | apply below_alloc | apply pw_below_drewN | apply below_drew1) | exact HB.out)) hb); clear HB; have HB := n0_; clear n0_; (try clear hb); (try clear hb2); (try clear hk); (try clear hi)) | (go_at_call 16; (with_reducible refine (odometerlaw01_reads.calls (⟨#[48, 101, 57, 57]⟩ : ByteArray) 0 true _ A9.out).mono ?_); rintro e w100 ⟨rfl, hb⟩; have n0_ := Aside0.mk (below_step (by repeat (first | (with_reducible first | exact HB.out | apply below_alloc | apply pw_below_drewN | apply below_drew1) | exact HB.out)) hb); clear HB; have HB := n0_; clear n0_; (try clear hb); (try clear hb2); (try clear hk); (try clear hi)) | (go_at_call 19; (with_reducible refine (odometerlaw01_fails.calls (⟨#[49, 101, 45, 55]⟩ : ByteArray) 4 false _ A11.out).mono ?_); rintro e w101 ⟨rfl, hb⟩; have n0_ := Aside0.mk (below_step (by repeat (first | (with_reducible first | exact HB.out | apply below_alloc | apply pw_below_drewN | apply below_drew1) | exact HB.out)) hb); clear HB; have HB := n0_; clear n0_; (try clear hb); (try clear hb2); (try clear hk); (try clear hi)))
              go_ret
              exact ⟨by first | rfl | (simp [errW_none, errW_some] <;> rfl) | (simp [*, errW_none, errW_some] <;> rfl), by repeat (first | (with_reducible first | exact HB.out | apply below_alloc | apply pw_below_drewN | apply below_drew1) | exact HB.out)⟩
          · replace c10 := Bool.eq_false_iff.mpr c10
            subst c10
            have H1 : (some false) = some r := by rw [if_neg (show ¬ (false = true) by decide)] at H; exact H
            clear H
            have H := H1
            clear H1
            obtain rfl := Option.some.inj H
            go_enter Tryd.func7, Tryd.ntmps7
            go_wp2_with (first | ((with_reducible refine gate_callee (f := 16) rfl ?_); refine goesL_ (some 1) rfl rfl Tryd.func16 (by kernel_rfl) rfl #[.string (⟨#[49, 101, 51]⟩ : ByteArray), .int .i64 1000000000] rfl (by (try simp only [List.map_toArray, List.map_cons, List.map_nil]); first | done | rfl | (simp only [List.length_drop, List.length_take]; rfl)) ?_; (with_reducible refine (odometerlaw01_reads.calls (⟨#[49, 101, 51]⟩ : ByteArray) 1000000000 true _ A1.out).mono ?_); rintro e w102 ⟨rfl, hb⟩; refine ⟨_, rfl, ?_⟩; have n0_ := Aside0.mk (below_step (by repeat (first | (with_reducible first | exact HB.out | apply below_alloc | apply pw_below_drewN | apply below_drew1) | exact HB.out)) hb); clear HB; have HB := n0_; clear n0_; (try clear hb); (try clear hb2); (try clear hk); (try clear hi)) | (go_at_call 16; (with_reducible refine (odometerlaw01_reads.calls (⟨#[46, 53]⟩ : ByteArray) 500000 true _ A3.out).mono ?_); rintro e w103 ⟨rfl, hb⟩; have n0_ := Aside0.mk (below_step (by repeat (first | (with_reducible first | exact HB.out | apply below_alloc | apply pw_below_drewN | apply below_drew1) | exact HB.out)) hb); clear HB; have HB := n0_; clear n0_; (try clear hb); (try clear hb2); (try clear hk); (try clear hi)) | (go_at_call 16; (with_reducible refine (odometerlaw01_reads.calls (⟨#[45, 48, 46, 48, 48, 48, 48, 48, 49]⟩ : ByteArray) (-1) true _ A5.out).mono ?_); rintro e w104 ⟨rfl, hb⟩; have n0_ := Aside0.mk (below_step (by repeat (first | (with_reducible first | exact HB.out | apply below_alloc | apply pw_below_drewN | apply below_drew1) | exact HB.out)) hb); clear HB; have HB := n0_; clear n0_; (try clear hb); (try clear hb2); (try clear hk); (try clear hi)) | (go_at_call 16; (with_reducible refine (odometerlaw01_reads.calls (⟨#[50, 53, 101, 45, 54]⟩ : ByteArray) 25 true _ A7.out).mono ?_); rintro e w105 ⟨rfl, hb⟩; have n0_ := Aside0.mk (below_step (by repeat (first | (with_reducible first | exact HB.out | apply below_alloc | apply pw_below_drewN | apply below_drew1) | exact HB.out)) hb); clear HB; have HB := n0_; clear n0_; (try clear hb); (try clear hb2); (try clear hk); (try clear hi)) | (go_at_call 16; (with_reducible refine (odometerlaw01_reads.calls (⟨#[48, 101, 57, 57]⟩ : ByteArray) 0 false _ A9.out).mono ?_); rintro e w106 ⟨rfl, hb⟩; have n0_ := Aside0.mk (below_step (by repeat (first | (with_reducible first | exact HB.out | apply below_alloc | apply pw_below_drewN | apply below_drew1) | exact HB.out)) hb); clear HB; have HB := n0_; clear n0_; (try clear hb); (try clear hb2); (try clear hk); (try clear hi)))
            go_ret
            exact ⟨by first | rfl | (simp [errW_none, errW_some] <;> rfl) | (simp [*, errW_none, errW_some] <;> rfl), by repeat (first | (with_reducible first | exact HB.out | apply below_alloc | apply pw_below_drewN | apply below_drew1) | exact HB.out)⟩
        · replace c8 := Bool.eq_false_iff.mpr c8
          subst c8
          have H1 : (some false) = some r := by rw [if_neg (show ¬ (false = true) by decide)] at H; exact H
          clear H
          have H := H1
          clear H1
          obtain rfl := Option.some.inj H
          go_enter Tryd.func7, Tryd.ntmps7
          go_wp2_with (first | ((with_reducible refine gate_callee (f := 16) rfl ?_); refine goesL_ (some 1) rfl rfl Tryd.func16 (by kernel_rfl) rfl #[.string (⟨#[49, 101, 51]⟩ : ByteArray), .int .i64 1000000000] rfl (by (try simp only [List.map_toArray, List.map_cons, List.map_nil]); first | done | rfl | (simp only [List.length_drop, List.length_take]; rfl)) ?_; (with_reducible refine (odometerlaw01_reads.calls (⟨#[49, 101, 51]⟩ : ByteArray) 1000000000 true _ A1.out).mono ?_); rintro e w107 ⟨rfl, hb⟩; refine ⟨_, rfl, ?_⟩; have n0_ := Aside0.mk (below_step (by repeat (first | (with_reducible first | exact HB.out | apply below_alloc | apply pw_below_drewN | apply below_drew1) | exact HB.out)) hb); clear HB; have HB := n0_; clear n0_; (try clear hb); (try clear hb2); (try clear hk); (try clear hi)) | (go_at_call 16; (with_reducible refine (odometerlaw01_reads.calls (⟨#[46, 53]⟩ : ByteArray) 500000 true _ A3.out).mono ?_); rintro e w108 ⟨rfl, hb⟩; have n0_ := Aside0.mk (below_step (by repeat (first | (with_reducible first | exact HB.out | apply below_alloc | apply pw_below_drewN | apply below_drew1) | exact HB.out)) hb); clear HB; have HB := n0_; clear n0_; (try clear hb); (try clear hb2); (try clear hk); (try clear hi)) | (go_at_call 16; (with_reducible refine (odometerlaw01_reads.calls (⟨#[45, 48, 46, 48, 48, 48, 48, 48, 49]⟩ : ByteArray) (-1) true _ A5.out).mono ?_); rintro e w109 ⟨rfl, hb⟩; have n0_ := Aside0.mk (below_step (by repeat (first | (with_reducible first | exact HB.out | apply below_alloc | apply pw_below_drewN | apply below_drew1) | exact HB.out)) hb); clear HB; have HB := n0_; clear n0_; (try clear hb); (try clear hb2); (try clear hk); (try clear hi)) | (go_at_call 16; (with_reducible refine (odometerlaw01_reads.calls (⟨#[50, 53, 101, 45, 54]⟩ : ByteArray) 25 false _ A7.out).mono ?_); rintro e w110 ⟨rfl, hb⟩; have n0_ := Aside0.mk (below_step (by repeat (first | (with_reducible first | exact HB.out | apply below_alloc | apply pw_below_drewN | apply below_drew1) | exact HB.out)) hb); clear HB; have HB := n0_; clear n0_; (try clear hb); (try clear hb2); (try clear hk); (try clear hi)))
          go_ret
          exact ⟨by first | rfl | (simp [errW_none, errW_some] <;> rfl) | (simp [*, errW_none, errW_some] <;> rfl), by repeat (first | (with_reducible first | exact HB.out | apply below_alloc | apply pw_below_drewN | apply below_drew1) | exact HB.out)⟩
      · replace c6 := Bool.eq_false_iff.mpr c6
        subst c6
        have H1 : (some false) = some r := by rw [if_neg (show ¬ (false = true) by decide)] at H; exact H
        clear H
        have H := H1
        clear H1
        obtain rfl := Option.some.inj H
        go_enter Tryd.func7, Tryd.ntmps7
        go_wp2_with (first | ((with_reducible refine gate_callee (f := 16) rfl ?_); refine goesL_ (some 1) rfl rfl Tryd.func16 (by kernel_rfl) rfl #[.string (⟨#[49, 101, 51]⟩ : ByteArray), .int .i64 1000000000] rfl (by (try simp only [List.map_toArray, List.map_cons, List.map_nil]); first | done | rfl | (simp only [List.length_drop, List.length_take]; rfl)) ?_; (with_reducible refine (odometerlaw01_reads.calls (⟨#[49, 101, 51]⟩ : ByteArray) 1000000000 true _ A1.out).mono ?_); rintro e w111 ⟨rfl, hb⟩; refine ⟨_, rfl, ?_⟩; have n0_ := Aside0.mk (below_step (by repeat (first | (with_reducible first | exact HB.out | apply below_alloc | apply pw_below_drewN | apply below_drew1) | exact HB.out)) hb); clear HB; have HB := n0_; clear n0_; (try clear hb); (try clear hb2); (try clear hk); (try clear hi)) | (go_at_call 16; (with_reducible refine (odometerlaw01_reads.calls (⟨#[46, 53]⟩ : ByteArray) 500000 true _ A3.out).mono ?_); rintro e w112 ⟨rfl, hb⟩; have n0_ := Aside0.mk (below_step (by repeat (first | (with_reducible first | exact HB.out | apply below_alloc | apply pw_below_drewN | apply below_drew1) | exact HB.out)) hb); clear HB; have HB := n0_; clear n0_; (try clear hb); (try clear hb2); (try clear hk); (try clear hi)) | (go_at_call 16; (with_reducible refine (odometerlaw01_reads.calls (⟨#[45, 48, 46, 48, 48, 48, 48, 48, 49]⟩ : ByteArray) (-1) false _ A5.out).mono ?_); rintro e w113 ⟨rfl, hb⟩; have n0_ := Aside0.mk (below_step (by repeat (first | (with_reducible first | exact HB.out | apply below_alloc | apply pw_below_drewN | apply below_drew1) | exact HB.out)) hb); clear HB; have HB := n0_; clear n0_; (try clear hb); (try clear hb2); (try clear hk); (try clear hi)))
        go_ret
        exact ⟨by first | rfl | (simp [errW_none, errW_some] <;> rfl) | (simp [*, errW_none, errW_some] <;> rfl), by repeat (first | (with_reducible first | exact HB.out | apply below_alloc | apply pw_below_drewN | apply below_drew1) | exact HB.out)⟩
    · replace c4 := Bool.eq_false_iff.mpr c4
      subst c4
      have H1 : (some false) = some r := by rw [if_neg (show ¬ (false = true) by decide)] at H; exact H
      clear H
      have H := H1
      clear H1
      obtain rfl := Option.some.inj H
      go_enter Tryd.func7, Tryd.ntmps7
      go_wp2_with (first | ((with_reducible refine gate_callee (f := 16) rfl ?_); refine goesL_ (some 1) rfl rfl Tryd.func16 (by kernel_rfl) rfl #[.string (⟨#[49, 101, 51]⟩ : ByteArray), .int .i64 1000000000] rfl (by (try simp only [List.map_toArray, List.map_cons, List.map_nil]); first | done | rfl | (simp only [List.length_drop, List.length_take]; rfl)) ?_; (with_reducible refine (odometerlaw01_reads.calls (⟨#[49, 101, 51]⟩ : ByteArray) 1000000000 true _ A1.out).mono ?_); rintro e w114 ⟨rfl, hb⟩; refine ⟨_, rfl, ?_⟩; have n0_ := Aside0.mk (below_step (by repeat (first | (with_reducible first | exact HB.out | apply below_alloc | apply pw_below_drewN | apply below_drew1) | exact HB.out)) hb); clear HB; have HB := n0_; clear n0_; (try clear hb); (try clear hb2); (try clear hk); (try clear hi)) | (go_at_call 16; (with_reducible refine (odometerlaw01_reads.calls (⟨#[46, 53]⟩ : ByteArray) 500000 false _ A3.out).mono ?_); rintro e w115 ⟨rfl, hb⟩; have n0_ := Aside0.mk (below_step (by repeat (first | (with_reducible first | exact HB.out | apply below_alloc | apply pw_below_drewN | apply below_drew1) | exact HB.out)) hb); clear HB; have HB := n0_; clear n0_; (try clear hb); (try clear hb2); (try clear hk); (try clear hi)))
      go_ret
      exact ⟨by first | rfl | (simp [errW_none, errW_some] <;> rfl) | (simp [*, errW_none, errW_some] <;> rfl), by repeat (first | (with_reducible first | exact HB.out | apply below_alloc | apply pw_below_drewN | apply below_drew1) | exact HB.out)⟩
  · replace c2 := Bool.eq_false_iff.mpr c2
    subst c2
    have H1 : (some false) = some r := by rw [if_neg (show ¬ (false = true) by decide)] at H; exact H
    clear H
    have H := H1
    clear H1
    obtain rfl := Option.some.inj H
    go_enter Tryd.func7, Tryd.ntmps7
    go_wp2_with (first | ((with_reducible refine gate_callee (f := 16) rfl ?_); refine goesL_ (some 1) rfl rfl Tryd.func16 (by kernel_rfl) rfl #[.string (⟨#[49, 101, 51]⟩ : ByteArray), .int .i64 1000000000] rfl (by (try simp only [List.map_toArray, List.map_cons, List.map_nil]); first | done | rfl | (simp only [List.length_drop, List.length_take]; rfl)) ?_; (with_reducible refine (odometerlaw01_reads.calls (⟨#[49, 101, 51]⟩ : ByteArray) 1000000000 false _ A1.out).mono ?_); rintro e w116 ⟨rfl, hb⟩; refine ⟨_, rfl, ?_⟩; have n0_ := Aside0.mk (below_step (by repeat (first | (with_reducible first | exact HB.out | apply below_alloc | apply pw_below_drewN | apply below_drew1) | exact HB.out)) hb); clear HB; have HB := n0_; clear n0_; (try clear hb); (try clear hb2); (try clear hk); (try clear hi)))
    go_ret
    exact ⟨by first | rfl | (simp [errW_none, errW_some] <;> rfl) | (simp [*, errW_none, errW_some] <;> rfl), by repeat (first | (with_reducible first | exact HB.out | apply below_alloc | apply pw_below_drewN | apply below_drew1) | exact HB.out)⟩

/-! ### odometerref01_Digits: function 30 -/
mutual
def odometerref01_Digits.j0 : Nat → Int → Int → Option (ByteArray)
  | 0, _, _ => none
  | k + 1, x0, x3 => odometerref01_Digits.l0 k x0 x3 (⟨#[]⟩ : ByteArray)
def odometerref01_Digits.l0 : Nat → Int → Int → ByteArray → Option (ByteArray)
  | 0, _, _, _ => none
  | k + 1, x0, x3, x4 => if x3 > 0 then ((some (([(IntKind.u64.wrap (48 + (Int.tmod x3 10))) % 256] : List Int) : List Int)).bind fun y118 => (if (strOfNums y118).size + x4.size ≤ 9223372036854775807 then (odometerref01_Digits.l0 k x0 (IntKind.u64.wrap (Int.tdiv x3 10)) ((strOfNums y118) ++ x4)) else (none))) else (if x4.toList = ([] : List UInt8) then ((some (([(IntKind.u64.wrap (48 + (Int.tmod x3 10))) % 256] : List Int) : List Int)).bind fun y121 => (if (strOfNums y121).size + x4.size ≤ 9223372036854775807 then (odometerref01_Digits.l0 k x0 (IntKind.u64.wrap (Int.tdiv x3 10)) ((strOfNums y121) ++ x4)) else (none))) else (if x0 < 0 then (if 1 + x4.size ≤ 9223372036854775807 then (some ((⟨#[45]⟩ : ByteArray) ++ x4)) else (none)) else (some x4)))
end
def odometerref01_Digits.f (k : Nat) (a0 : Int) : Option (ByteArray) := if a0 < 0 then (odometerref01_Digits.j0 k a0 (IntKind.u64.wrap (-(IntKind.u64.wrap (a0))))) else (odometerref01_Digits.j0 k a0 (IntKind.u64.wrap (a0)))
theorem odometerref01_Digits.mono_l : ∀ k, (∀ y0 y1, LeO (odometerref01_Digits.j0 k y0 y1) (odometerref01_Digits.j0 (k + 1) y0 y1)) ∧ (∀ y0 y1 y2, LeO (odometerref01_Digits.l0 k y0 y1 y2) (odometerref01_Digits.l0 (k + 1) y0 y1 y2))
  | 0 => ⟨fun _ _ r h => by simp [odometerref01_Digits.j0] at h, fun _ _ _ r h => by simp [odometerref01_Digits.l0] at h⟩
  | k + 1 => by
    obtain ⟨ih0, ih1⟩ := odometerref01_Digits.mono_l k
    refine ⟨?_, ?_⟩
    · intro y0 y1
      unfold odometerref01_Digits.j0
      repeat' first
      | (with_reducible exact ih0 _ _)
      | (with_reducible exact ih1 _ _ _)
      | (with_reducible exact LeO.refl _)
      | (with_reducible exact LeO.none _)
      | (with_reducible refine LeO.ite ?_ ?_)
      | (with_reducible refine LeO.bind ?_ (fun _ => ?_))
      | exact ih0 _ _
      | exact ih1 _ _ _
      | exact LeO.none _
      | refine LeO.ite ?_ ?_
      | refine LeO.bind ?_ (fun _ => ?_)
    · intro y0 y1 y2
      unfold odometerref01_Digits.l0
      repeat' first
      | (with_reducible exact ih0 _ _)
      | (with_reducible exact ih1 _ _ _)
      | (with_reducible exact LeO.refl _)
      | (with_reducible exact LeO.none _)
      | (with_reducible refine LeO.ite ?_ ?_)
      | (with_reducible refine LeO.bind ?_ (fun _ => ?_))
      | exact ih0 _ _
      | exact ih1 _ _ _
      | exact LeO.none _
      | refine LeO.ite ?_ ?_
      | refine LeO.bind ?_ (fun _ => ?_)
theorem odometerref01_Digits.mono : ∀ a0 k, LeO (odometerref01_Digits.f k a0) (odometerref01_Digits.f (k + 1) a0) := by
  intro a0 k
  obtain ⟨ih0, ih1⟩ := odometerref01_Digits.mono_l k
  unfold odometerref01_Digits.f
  repeat' first
      | (with_reducible exact ih0 _ _)
      | (with_reducible exact ih1 _ _ _)
      | (with_reducible exact LeO.refl _)
      | (with_reducible exact LeO.none _)
      | (with_reducible refine LeO.ite ?_ ?_)
      | (with_reducible refine LeO.bind ?_ (fun _ => ?_))
      | exact ih0 _ _
      | exact ih1 _ _ _
      | exact LeO.none _
      | refine LeO.ite ?_ ?_
      | refine LeO.bind ?_ (fun _ => ?_)
set_option maxHeartbeats 8000000 in
set_option maxRecDepth 100000 in
theorem odometerref01_Digits.calls (k : Nat) (a0 : Int) (r : ByteArray) (w : World) (h : odometerref01_Digits.f k a0 = some r) :
    Calls Tryd.prog 30 #[.int .i64 a0] w fun e w' => e = .returned (.string r) ∧ Below w.heap.size w w' := by
  have HB := Aside0.mk (Below.refl w.heap.size w)
  have H : (if a0 < 0 then (odometerref01_Digits.j0 k a0 (IntKind.u64.wrap (-(IntKind.u64.wrap (a0))))) else (odometerref01_Digits.j0 k a0 (IntKind.u64.wrap (a0)))) = some r := h
  clear h
  have HC2 := Aside0.mk H
  clear H
  go_enter Tryd.func30, Tryd.ntmps30
  go_upto_if 8 with (fail)
  go_cut [3] (fun v3 wc => ∃ (kq : Nat) (x3_1 : Int), v3 = .int .u64 x3_1 ∧ Aside0 (odometerref01_Digits.j0 kq a0 x3_1 = some r) ∧ Aside0 (kq ≤ k) ∧ Aside0 (Below w.heap.size w wc))
  case first =>
    have H := HC2.out
    clear HC2
    by_cases c3 : a0 < 0
    · rw [if_pos c3] at H
      have c3b0 : decide (a0 < 0) = true := decide_eq_true c3
      clear c3
      (first | rw [c3b0] | (simp only [i64_w, i32_w]; rw [c3b0]) | skip)
      have H' := Aside0.mk H
      clear H
      go_wp2
      go_meet
      case rel => exact ⟨_, (IntKind.u64.wrap (-(IntKind.u64.wrap (a0)))), (by first | rfl | (simp; done) | (simp [*]; done)), H', ⟨by first | omega | exact Nat.le_refl _⟩, ⟨by repeat (first | (with_reducible first | exact HB.out | apply below_alloc | apply pw_below_drewN | apply below_drew1) | exact HB.out)⟩⟩
    · rw [if_neg c3] at H
      have c3b0 : decide (a0 < 0) = false := decide_eq_false c3
      clear c3
      (first | rw [c3b0] | (simp only [i64_w, i32_w]; rw [c3b0]) | skip)
      have H' := Aside0.mk H
      clear H
      go_wp2
      go_meet
      case rel => exact ⟨_, (IntKind.u64.wrap (a0)), (by first | rfl | (simp; done) | (simp [*]; done)), H', ⟨by first | omega | exact Nat.le_refl _⟩, ⟨by repeat (first | (with_reducible first | exact HB.out | apply below_alloc | apply pw_below_drewN | apply below_drew1) | exact HB.out)⟩⟩
  case rest =>
    clear HC2
    try clear p2
    try clear c3
    try clear c3b0
    obtain ⟨kq, x3_1, rfl, HA, HJ1, HB⟩ := hcut
    cases kq with
    | zero => exact absurd HA.out (by simp [odometerref01_Digits.j0])
    | succ kj1 =>
      have H := HA.out
      clear HA
      simp only [odometerref01_Digits.j0] at H
      have H' := Aside0.mk H
      clear H
      go_wp2
      go_loopg [3, 4] kj1 (fun kq v3 v4 w' => ∃ (x3_2 : Int) (x4_2 : ByteArray), v3 = .int .u64 x3_2 ∧ v4 = .string x4_2 ∧ Aside0 (odometerref01_Digits.l0 kq a0 x3_2 x4_2 = some r) ∧ Aside0 (kq ≤ kj1) ∧ Aside0 (Below w.heap.size w w'))
      case atStart => exact ⟨(x3_1), ((⟨#[]⟩ : ByteArray)), (by first | rfl | (simp; done) | (simp [*]; done)), (by first | rfl | (simp; done) | (simp [*]; done)), H', ⟨Nat.le_refl _⟩, ⟨by repeat (first | (with_reducible first | exact HB.out | apply below_alloc | apply pw_below_drewN | apply below_drew1) | exact HB.out)⟩⟩
      case round =>
        clear H'
        try clear p2
        try clear c3
        try clear c3b0
        try clear p2
        obtain ⟨x3_2, x4_2, rfl, rfl, HA, HK2, HB⟩ := hrel
        cases gk with
        | zero => exact absurd HA.out (by simp [odometerref01_Digits.l0])
        | succ k2 =>
          have H := HA.out
          clear HA
          simp only [odometerref01_Digits.l0] at H
          by_cases c4 : x3_2 > 0
          · rw [if_pos c4] at H
            have c4b0 : decide (0 < x3_2) = true := decide_eq_true c4
            clear c4
            obtain ⟨y118, hy118⟩ : ∃ y_ : List Int, y_ = (([(IntKind.u64.wrap (48 + (Int.tmod x3_2 10))) % 256] : List Int)) := ⟨_, rfl⟩
            replace H : (if (strOfNums y118).size + x4_2.size ≤ 9223372036854775807 then (odometerref01_Digits.l0 k2 a0 (IntKind.u64.wrap (Int.tdiv x3_2 10)) ((strOfNums y118) ++ x4_2)) else (none)) = some r := by first | (rw [hy118]; with_reducible exact H) | (have H2_ := (Option.bind_some _ _).symm.trans H; rw [hy118]; with_reducible exact H2_) | (have H2_ := (Option.bind_some _ _).symm.trans H; with_reducible exact H2_) | with_reducible exact H | (rw [hy118]; exact H) | exact H
            have Ny118 := Aside0.mk hy118
            clear hy118
            by_cases c5 : (strOfNums y118).size + x4_2.size ≤ 9223372036854775807
            · rw [if_pos c5] at H
              have c5b0 := eq_true c5
              have c5b1 : decide ((strOfNums y118).size + x4_2.size ≤ 9223372036854775807) = true := decide_eq_true c5
              try have c5b2 : (9223372036854775807 < (strOfNums y118).size + x4_2.size) = False := eq_false (Nat.not_lt.2 c5)
              have H' := Aside0.mk H
              clear H
              go_wp2_with (first | ((with_reducible refine gate_dst (N := 21) rfl ?_); refine Kd.R_lit (Kd.int .u8) _ 5 ?hg (N := 21) ?hd (xs := ([(IntKind.u64.wrap (48 + (Int.tmod x3_2 10))) % 256] : List Int)) (inner := [.int .u8 ((IntKind.u64.wrap (48 + (Int.tmod x3_2 10))) % 256)]) (ok := fun _ => True) (okp := fun _ => True) ?hr ?hp (fun _ hk => hk) trivial (Below.refl _ _) (Nat.le_refl _) (by simp) ?_; (case hd => rfl); (case hg => rfl); (case hr => first | (go_simp; done) | (go_simp; rfl)); (case hp => exact (Reps.one (show Kd.M (Kd.int .u8) _ _ _ ((IntKind.u64.wrap (48 + (Int.tmod x3_2 10))) % 256) [.int .u8 ((IntKind.u64.wrap (48 + (Int.tmod x3_2 10))) % 256)] from rfl) (Reps.none _ _))); intro v119 w6 ho7 hb hg_ hnew_; clear hg_ hnew_; (first | rw [← Ny118.out] at ho7 | (simp only [Int.reduceToNat] at ho7; rw [← Ny118.out] at ho7)); have n0_ := Aside0.mk (Kd.R_lower ho7 (below_size (by repeat (first | (with_reducible first | exact HB.out | apply below_alloc | apply pw_below_drewN | apply below_drew1) | exact HB.out)))); have n1_ := Aside0.mk (below_step (by repeat (first | (with_reducible first | exact HB.out | apply below_alloc | apply pw_below_drewN | apply below_drew1) | exact HB.out)) hb); clear HB; have HO120 := n0_; have HB := n1_; clear n0_ n1_; clear hb ho7; have hcv8 := own_string (P := Tryd.prog) Tryd.underlying53 Tryd.underlying5 Tryd.underlying9 (Kd.own_of_R HO120.out)))
              go_roundg k2
              case measure => have := HJ1.out; have := HK2.out; omega
              case rel => exact ⟨(IntKind.u64.wrap (Int.tdiv x3_2 10)), ((strOfNums y118) ++ x4_2), (by first | rfl | (simp; done) | (simp [*]; done)), (by first | rfl | (simp; done) | (simp [*]; done)), H', ⟨by have := HJ1.out; have := HK2.out; omega⟩, ⟨by repeat (first | (with_reducible first | exact HB.out | apply below_alloc | apply pw_below_drewN | apply below_drew1) | exact HB.out)⟩⟩
            · rw [if_neg c5] at H
              exact absurd H (by simp)
          · rw [if_neg c4] at H
            have c4b0 : decide (0 < x3_2) = false := decide_eq_false c4
            clear c4
            by_cases c9 : x4_2.toList = ([] : List UInt8)
            · rw [if_pos c9] at H
              have c9b0 : (x4_2.toList == ([] : List UInt8)) = true := beq_iff_eq.mpr c9
              have c9b1 : (x4_2.toList != ([] : List UInt8)) = false := bne_eq_false_iff_eq.mpr c9
              clear c9
              obtain ⟨y121, hy121⟩ : ∃ y_ : List Int, y_ = (([(IntKind.u64.wrap (48 + (Int.tmod x3_2 10))) % 256] : List Int)) := ⟨_, rfl⟩
              replace H : (if (strOfNums y121).size + x4_2.size ≤ 9223372036854775807 then (odometerref01_Digits.l0 k2 a0 (IntKind.u64.wrap (Int.tdiv x3_2 10)) ((strOfNums y121) ++ x4_2)) else (none)) = some r := by first | (rw [hy121]; with_reducible exact H) | (have H2_ := (Option.bind_some _ _).symm.trans H; rw [hy121]; with_reducible exact H2_) | (have H2_ := (Option.bind_some _ _).symm.trans H; with_reducible exact H2_) | with_reducible exact H | (rw [hy121]; exact H) | exact H
              have Ny121 := Aside0.mk hy121
              clear hy121
              by_cases c10 : (strOfNums y121).size + x4_2.size ≤ 9223372036854775807
              · rw [if_pos c10] at H
                have c10b0 := eq_true c10
                have c10b1 : decide ((strOfNums y121).size + x4_2.size ≤ 9223372036854775807) = true := decide_eq_true c10
                try have c10b2 : (9223372036854775807 < (strOfNums y121).size + x4_2.size) = False := eq_false (Nat.not_lt.2 c10)
                have H' := Aside0.mk H
                clear H
                go_wp2_with (first | ((with_reducible refine gate_dst (N := 21) rfl ?_); refine Kd.R_lit (Kd.int .u8) _ 5 ?hg (N := 21) ?hd (xs := ([(IntKind.u64.wrap (48 + (Int.tmod x3_2 10))) % 256] : List Int)) (inner := [.int .u8 ((IntKind.u64.wrap (48 + (Int.tmod x3_2 10))) % 256)]) (ok := fun _ => True) (okp := fun _ => True) ?hr ?hp (fun _ hk => hk) trivial (Below.refl _ _) (Nat.le_refl _) (by simp) ?_; (case hd => rfl); (case hg => rfl); (case hr => first | (go_simp; done) | (go_simp; rfl)); (case hp => exact (Reps.one (show Kd.M (Kd.int .u8) _ _ _ ((IntKind.u64.wrap (48 + (Int.tmod x3_2 10))) % 256) [.int .u8 ((IntKind.u64.wrap (48 + (Int.tmod x3_2 10))) % 256)] from rfl) (Reps.none _ _))); intro v122 w11 ho12 hb hg_ hnew_; clear hg_ hnew_; (first | rw [← Ny121.out] at ho12 | (simp only [Int.reduceToNat] at ho12; rw [← Ny121.out] at ho12)); have n0_ := Aside0.mk (Kd.R_lower ho12 (below_size (by repeat (first | (with_reducible first | exact HB.out | apply below_alloc | apply pw_below_drewN | apply below_drew1) | exact HB.out)))); have n1_ := Aside0.mk (below_step (by repeat (first | (with_reducible first | exact HB.out | apply below_alloc | apply pw_below_drewN | apply below_drew1) | exact HB.out)) hb); clear HB; have HO123 := n0_; have HB := n1_; clear n0_ n1_; clear hb ho12; have hcv13 := own_string (P := Tryd.prog) Tryd.underlying53 Tryd.underlying5 Tryd.underlying9 (Kd.own_of_R HO123.out)))
                go_roundg k2
                case measure => have := HJ1.out; have := HK2.out; omega
                case rel => exact ⟨(IntKind.u64.wrap (Int.tdiv x3_2 10)), ((strOfNums y121) ++ x4_2), (by first | rfl | (simp; done) | (simp [*]; done)), (by first | rfl | (simp; done) | (simp [*]; done)), H', ⟨by have := HJ1.out; have := HK2.out; omega⟩, ⟨by repeat (first | (with_reducible first | exact HB.out | apply below_alloc | apply pw_below_drewN | apply below_drew1) | exact HB.out)⟩⟩
              · rw [if_neg c10] at H
                exact absurd H (by simp)
            · rw [if_neg c9] at H
              have c9b0 : (x4_2.toList == ([] : List UInt8)) = false := beq_eq_false_iff_ne.mpr c9
              have c9b1 : (x4_2.toList != ([] : List UInt8)) = true := bne_iff_ne.mpr c9
              by_cases c14 : a0 < 0
              · rw [if_pos c14] at H
                have c14b0 : decide (a0 < 0) = true := decide_eq_true c14
                clear c14
                by_cases c15 : 1 + x4_2.size ≤ 9223372036854775807
                · rw [if_pos c15] at H
                  have c15b0 := eq_true c15
                  have c15b1 : decide (1 + x4_2.size ≤ 9223372036854775807) = true := decide_eq_true c15
                  try have c15b2 : (9223372036854775807 < 1 + x4_2.size) = False := eq_false (Nat.not_lt.2 c15)
                  obtain rfl := Option.some.inj H
                  go_wp2
                  go_ret
                  exact ⟨by first | rfl | (simp [errW_none, errW_some] <;> rfl) | (simp [*, errW_none, errW_some] <;> rfl), by repeat (first | (with_reducible first | exact HB.out | apply below_alloc | apply pw_below_drewN | apply below_drew1) | exact HB.out)⟩
                · rw [if_neg c15] at H
                  exact absurd H (by simp)
              · rw [if_neg c14] at H
                have c14b0 : decide (a0 < 0) = false := decide_eq_false c14
                clear c14
                obtain rfl := Option.some.inj H
                go_wp2
                go_ret
                exact ⟨by first | rfl | (simp [errW_none, errW_some] <;> rfl) | (simp [*, errW_none, errW_some] <;> rfl), by repeat (first | (with_reducible first | exact HB.out | apply below_alloc | apply pw_below_drewN | apply below_drew1) | exact HB.out)⟩

/-! ### odometerref01_Text: function 14 -/
mutual
def odometerref01_Text.j0 : Nat → Int → ByteArray → Option (ByteArray)
  | 0, _, _ => none
  | k + 1, x3, x4 => odometerref01_Text.l0 k x3 x4 (Int.tmod x3 1000000) (⟨#[]⟩ : ByteArray) 0
def odometerref01_Text.l0 : Nat → Int → ByteArray → Int → ByteArray → Int → Option (ByteArray)
  | 0, _, _, _, _, _ => none
  | k + 1, x3, x4, x5, x6, x7 => if x7 < 6 then (if (Int.tmod x5 10) > 0 then ((some (([(IntKind.u64.wrap (48 + (Int.tmod x5 10))) % 256] : List Int) : List Int)).bind fun y124 => (if (strOfNums y124).size + x6.size ≤ 9223372036854775807 then (odometerref01_Text.l0 k x3 x4 (IntKind.u64.wrap (Int.tdiv x5 10)) ((strOfNums y124) ++ x6) (wrap64 (x7 + 1))) else (none))) else (if x6.toList = ([] : List UInt8) then (odometerref01_Text.l0 k x3 x4 (IntKind.u64.wrap (Int.tdiv x5 10)) x6 (wrap64 (x7 + 1))) else ((some (([(IntKind.u64.wrap (48 + (Int.tmod x5 10))) % 256] : List Int) : List Int)).bind fun y127 => (if (strOfNums y127).size + x6.size ≤ 9223372036854775807 then (odometerref01_Text.l0 k x3 x4 (IntKind.u64.wrap (Int.tdiv x5 10)) ((strOfNums y127) ++ x6) (wrap64 (x7 + 1))) else (none))))) else (if x6.toList = ([] : List UInt8) then ((odometerref01_Digits.f k (wrap64 (IntKind.u64.wrap (Int.tdiv x3 1000000)))).bind fun t130 => (if x4.size + t130.size ≤ 9223372036854775807 then (if (x4 ++ t130).size + x6.size ≤ 9223372036854775807 then (some ((x4 ++ t130) ++ x6)) else (none)) else (none))) else (if 1 + x6.size ≤ 9223372036854775807 then ((odometerref01_Digits.f k (wrap64 (IntKind.u64.wrap (Int.tdiv x3 1000000)))).bind fun t131 => (if x4.size + t131.size ≤ 9223372036854775807 then (if (x4 ++ t131).size + ((⟨#[46]⟩ : ByteArray) ++ x6).size ≤ 9223372036854775807 then (some ((x4 ++ t131) ++ ((⟨#[46]⟩ : ByteArray) ++ x6))) else (none)) else (none))) else (none)))
end
def odometerref01_Text.f (k : Nat) (a0 : Int) : Option (ByteArray) := if a0 < 0 then (odometerref01_Text.j0 k (IntKind.u64.wrap (-(IntKind.u64.wrap (a0)))) (⟨#[45]⟩ : ByteArray)) else (odometerref01_Text.j0 k (IntKind.u64.wrap (a0)) (⟨#[]⟩ : ByteArray))
theorem odometerref01_Text.mono_l : ∀ k, (∀ y0 y1, LeO (odometerref01_Text.j0 k y0 y1) (odometerref01_Text.j0 (k + 1) y0 y1)) ∧ (∀ y0 y1 y2 y3 y4, LeO (odometerref01_Text.l0 k y0 y1 y2 y3 y4) (odometerref01_Text.l0 (k + 1) y0 y1 y2 y3 y4))
  | 0 => ⟨fun _ _ r h => by simp [odometerref01_Text.j0] at h, fun _ _ _ _ _ r h => by simp [odometerref01_Text.l0] at h⟩
  | k + 1 => by
    obtain ⟨ih0, ih1⟩ := odometerref01_Text.mono_l k
    refine ⟨?_, ?_⟩
    · intro y0 y1
      unfold odometerref01_Text.j0
      repeat' first
      | (with_reducible exact ih0 _ _)
      | (with_reducible exact ih1 _ _ _ _ _)
      | (with_reducible exact odometerref01_Digits.mono _ _)
      | (with_reducible exact LeO.refl _)
      | (with_reducible exact LeO.none _)
      | (with_reducible refine LeO.ite ?_ ?_)
      | (with_reducible refine LeO.bind ?_ (fun _ => ?_))
      | exact ih0 _ _
      | exact ih1 _ _ _ _ _
      | exact odometerref01_Digits.mono _ _
      | exact LeO.none _
      | refine LeO.ite ?_ ?_
      | refine LeO.bind ?_ (fun _ => ?_)
    · intro y0 y1 y2 y3 y4
      unfold odometerref01_Text.l0
      repeat' first
      | (with_reducible exact ih0 _ _)
      | (with_reducible exact ih1 _ _ _ _ _)
      | (with_reducible exact odometerref01_Digits.mono _ _)
      | (with_reducible exact LeO.refl _)
      | (with_reducible exact LeO.none _)
      | (with_reducible refine LeO.ite ?_ ?_)
      | (with_reducible refine LeO.bind ?_ (fun _ => ?_))
      | exact ih0 _ _
      | exact ih1 _ _ _ _ _
      | exact odometerref01_Digits.mono _ _
      | exact LeO.none _
      | refine LeO.ite ?_ ?_
      | refine LeO.bind ?_ (fun _ => ?_)
theorem odometerref01_Text.mono : ∀ a0 k, LeO (odometerref01_Text.f k a0) (odometerref01_Text.f (k + 1) a0) := by
  intro a0 k
  obtain ⟨ih0, ih1⟩ := odometerref01_Text.mono_l k
  unfold odometerref01_Text.f
  repeat' first
      | (with_reducible exact ih0 _ _)
      | (with_reducible exact ih1 _ _ _ _ _)
      | (with_reducible exact odometerref01_Digits.mono _ _)
      | (with_reducible exact LeO.refl _)
      | (with_reducible exact LeO.none _)
      | (with_reducible refine LeO.ite ?_ ?_)
      | (with_reducible refine LeO.bind ?_ (fun _ => ?_))
      | exact ih0 _ _
      | exact ih1 _ _ _ _ _
      | exact odometerref01_Digits.mono _ _
      | exact LeO.none _
      | refine LeO.ite ?_ ?_
      | refine LeO.bind ?_ (fun _ => ?_)
set_option maxHeartbeats 8000000 in
set_option maxRecDepth 100000 in
theorem odometerref01_Text.calls (k : Nat) (a0 : Int) (r : ByteArray) (w : World) (h : odometerref01_Text.f k a0 = some r) :
    Calls Tryd.prog 14 #[.int .i64 a0] w fun e w' => e = .returned (.string r) ∧ Below w.heap.size w w' := by
  have HB := Aside0.mk (Below.refl w.heap.size w)
  have H : (if a0 < 0 then (odometerref01_Text.j0 k (IntKind.u64.wrap (-(IntKind.u64.wrap (a0)))) (⟨#[45]⟩ : ByteArray)) else (odometerref01_Text.j0 k (IntKind.u64.wrap (a0)) (⟨#[]⟩ : ByteArray))) = some r := h
  clear h
  have HC2 := Aside0.mk H
  clear H
  go_enter Tryd.func14, Tryd.ntmps14
  go_upto_if 11 with (fail)
  go_cut [3, 4] (fun v3 v4 wc => ∃ (kq : Nat) (x3_1 : Int) (x4_1 : ByteArray), v3 = .int .u64 x3_1 ∧ v4 = .string x4_1 ∧ Aside0 (odometerref01_Text.j0 kq x3_1 x4_1 = some r) ∧ Aside0 (kq ≤ k) ∧ Aside0 (Below w.heap.size w wc))
  case first =>
    have H := HC2.out
    clear HC2
    by_cases c3 : a0 < 0
    · rw [if_pos c3] at H
      have c3b0 : decide (a0 < 0) = true := decide_eq_true c3
      clear c3
      (first | rw [c3b0] | (simp only [i64_w, i32_w]; rw [c3b0]) | skip)
      have H' := Aside0.mk H
      clear H
      go_wp2
      go_meet
      case rel => exact ⟨_, (IntKind.u64.wrap (-(IntKind.u64.wrap (a0)))), ((⟨#[45]⟩ : ByteArray)), (by first | rfl | (simp; done) | (simp [*]; done)), (by first | rfl | (simp; done) | (simp [*]; done)), H', ⟨by first | omega | exact Nat.le_refl _⟩, ⟨by repeat (first | (with_reducible first | exact HB.out | apply below_alloc | apply pw_below_drewN | apply below_drew1) | exact HB.out)⟩⟩
    · rw [if_neg c3] at H
      have c3b0 : decide (a0 < 0) = false := decide_eq_false c3
      clear c3
      (first | rw [c3b0] | (simp only [i64_w, i32_w]; rw [c3b0]) | skip)
      have H' := Aside0.mk H
      clear H
      go_wp2
      go_meet
      case rel => exact ⟨_, (IntKind.u64.wrap (a0)), ((⟨#[]⟩ : ByteArray)), (by first | rfl | (simp; done) | (simp [*]; done)), (by first | rfl | (simp; done) | (simp [*]; done)), H', ⟨by first | omega | exact Nat.le_refl _⟩, ⟨by repeat (first | (with_reducible first | exact HB.out | apply below_alloc | apply pw_below_drewN | apply below_drew1) | exact HB.out)⟩⟩
  case rest =>
    clear HC2
    try clear c1
    try clear p2
    try clear c3
    try clear c3b0
    obtain ⟨kq, x3_1, x4_1, rfl, rfl, HA, HJ1, HB⟩ := hcut
    cases kq with
    | zero => exact absurd HA.out (by simp [odometerref01_Text.j0])
    | succ kj1 =>
      have H := HA.out
      clear HA
      simp only [odometerref01_Text.j0] at H
      have H' := Aside0.mk H
      clear H
      go_wp2
      go_loopg [5, 6, 7] kj1 (fun kq v5 v6 v7 w' => ∃ (x5_2 : Int) (x6_2 : ByteArray) (x7_2 : Int), v5 = .int .u64 x5_2 ∧ v6 = .string x6_2 ∧ v7 = .int .i64 x7_2 ∧ Aside0 (odometerref01_Text.l0 kq x3_1 x4_1 x5_2 x6_2 x7_2 = some r) ∧ Aside0 (kq ≤ kj1) ∧ Aside0 (Below w.heap.size w w'))
      case atStart => exact ⟨(Int.tmod x3_1 1000000), ((⟨#[]⟩ : ByteArray)), (0), (by first | rfl | (simp; done) | (simp [*]; done)), (by first | rfl | (simp; done) | (simp [*]; done)), (by first | rfl | (simp; done) | (simp [*]; done)), H', ⟨Nat.le_refl _⟩, ⟨by repeat (first | (with_reducible first | exact HB.out | apply below_alloc | apply pw_below_drewN | apply below_drew1) | exact HB.out)⟩⟩
      case round =>
        clear H'
        try clear c1
        try clear p2
        try clear c3
        try clear c3b0
        try clear p2
        obtain ⟨x5_2, x6_2, x7_2, rfl, rfl, rfl, HA, HK2, HB⟩ := hrel
        cases gk with
        | zero => exact absurd HA.out (by simp [odometerref01_Text.l0])
        | succ k2 =>
          have H := HA.out
          clear HA
          simp only [odometerref01_Text.l0] at H
          by_cases c4 : x7_2 < 6
          · rw [if_pos c4] at H
            have c4b0 : decide (x7_2 < 6) = true := decide_eq_true c4
            clear c4
            by_cases c5 : (Int.tmod x5_2 10) > 0
            · rw [if_pos c5] at H
              have c5b0 : decide (0 < (Int.tmod x5_2 10)) = true := decide_eq_true c5
              clear c5
              obtain ⟨y124, hy124⟩ : ∃ y_ : List Int, y_ = (([(IntKind.u64.wrap (48 + (Int.tmod x5_2 10))) % 256] : List Int)) := ⟨_, rfl⟩
              replace H : (if (strOfNums y124).size + x6_2.size ≤ 9223372036854775807 then (odometerref01_Text.l0 k2 x3_1 x4_1 (IntKind.u64.wrap (Int.tdiv x5_2 10)) ((strOfNums y124) ++ x6_2) (wrap64 (x7_2 + 1))) else (none)) = some r := by first | (rw [hy124]; with_reducible exact H) | (have H2_ := (Option.bind_some _ _).symm.trans H; rw [hy124]; with_reducible exact H2_) | (have H2_ := (Option.bind_some _ _).symm.trans H; with_reducible exact H2_) | with_reducible exact H | (rw [hy124]; exact H) | exact H
              have Ny124 := Aside0.mk hy124
              clear hy124
              by_cases c6 : (strOfNums y124).size + x6_2.size ≤ 9223372036854775807
              · rw [if_pos c6] at H
                have c6b0 := eq_true c6
                have c6b1 : decide ((strOfNums y124).size + x6_2.size ≤ 9223372036854775807) = true := decide_eq_true c6
                try have c6b2 : (9223372036854775807 < (strOfNums y124).size + x6_2.size) = False := eq_false (Nat.not_lt.2 c6)
                have H' := Aside0.mk H
                clear H
                go_wp2_with (first | ((with_reducible refine gate_dst (N := 31) rfl ?_); refine Kd.R_lit (Kd.int .u8) _ 5 ?hg (N := 31) ?hd (xs := ([(IntKind.u64.wrap (48 + (Int.tmod x5_2 10))) % 256] : List Int)) (inner := [.int .u8 ((IntKind.u64.wrap (48 + (Int.tmod x5_2 10))) % 256)]) (ok := fun _ => True) (okp := fun _ => True) ?hr ?hp (fun _ hk => hk) trivial (Below.refl _ _) (Nat.le_refl _) (by simp) ?_; (case hd => rfl); (case hg => rfl); (case hr => first | (go_simp; done) | (go_simp; rfl)); (case hp => exact (Reps.one (show Kd.M (Kd.int .u8) _ _ _ ((IntKind.u64.wrap (48 + (Int.tmod x5_2 10))) % 256) [.int .u8 ((IntKind.u64.wrap (48 + (Int.tmod x5_2 10))) % 256)] from rfl) (Reps.none _ _))); intro v125 w7 ho8 hb hg_ hnew_; clear hg_ hnew_; (first | rw [← Ny124.out] at ho8 | (simp only [Int.reduceToNat] at ho8; rw [← Ny124.out] at ho8)); have n0_ := Aside0.mk (Kd.R_lower ho8 (below_size (by repeat (first | (with_reducible first | exact HB.out | apply below_alloc | apply pw_below_drewN | apply below_drew1) | exact HB.out)))); have n1_ := Aside0.mk (below_step (by repeat (first | (with_reducible first | exact HB.out | apply below_alloc | apply pw_below_drewN | apply below_drew1) | exact HB.out)) hb); clear HB; have HO126 := n0_; have HB := n1_; clear n0_ n1_; clear hb ho8; have hcv9 := own_string (P := Tryd.prog) Tryd.underlying53 Tryd.underlying5 Tryd.underlying9 (Kd.own_of_R HO126.out)))
                go_roundg k2
                case measure => have := HJ1.out; have := HK2.out; omega
                case rel => exact ⟨(IntKind.u64.wrap (Int.tdiv x5_2 10)), ((strOfNums y124) ++ x6_2), (wrap64 (x7_2 + 1)), (by first | rfl | (simp; done) | (simp [*]; done)), (by first | rfl | (simp; done) | (simp [*]; done)), (by first | rfl | (simp; done) | (simp [*]; done)), H', ⟨by have := HJ1.out; have := HK2.out; omega⟩, ⟨by repeat (first | (with_reducible first | exact HB.out | apply below_alloc | apply pw_below_drewN | apply below_drew1) | exact HB.out)⟩⟩
              · rw [if_neg c6] at H
                exact absurd H (by simp)
            · rw [if_neg c5] at H
              have c5b0 : decide (0 < (Int.tmod x5_2 10)) = false := decide_eq_false c5
              clear c5
              by_cases c10 : x6_2.toList = ([] : List UInt8)
              · rw [if_pos c10] at H
                have c10b0 : (x6_2.toList == ([] : List UInt8)) = true := beq_iff_eq.mpr c10
                have c10b1 : (x6_2.toList != ([] : List UInt8)) = false := bne_eq_false_iff_eq.mpr c10
                clear c10
                have H' := Aside0.mk H
                clear H
                go_wp2
                go_roundg k2
                case measure => have := HJ1.out; have := HK2.out; omega
                case rel => exact ⟨(IntKind.u64.wrap (Int.tdiv x5_2 10)), (x6_2), (wrap64 (x7_2 + 1)), (by first | rfl | (simp; done) | (simp [*]; done)), (by first | rfl | (simp; done) | (simp [*]; done)), (by first | rfl | (simp; done) | (simp [*]; done)), H', ⟨by have := HJ1.out; have := HK2.out; omega⟩, ⟨by repeat (first | (with_reducible first | exact HB.out | apply below_alloc | apply pw_below_drewN | apply below_drew1) | exact HB.out)⟩⟩
              · rw [if_neg c10] at H
                have c10b0 : (x6_2.toList == ([] : List UInt8)) = false := beq_eq_false_iff_ne.mpr c10
                have c10b1 : (x6_2.toList != ([] : List UInt8)) = true := bne_iff_ne.mpr c10
                obtain ⟨y127, hy127⟩ : ∃ y_ : List Int, y_ = (([(IntKind.u64.wrap (48 + (Int.tmod x5_2 10))) % 256] : List Int)) := ⟨_, rfl⟩
                replace H : (if (strOfNums y127).size + x6_2.size ≤ 9223372036854775807 then (odometerref01_Text.l0 k2 x3_1 x4_1 (IntKind.u64.wrap (Int.tdiv x5_2 10)) ((strOfNums y127) ++ x6_2) (wrap64 (x7_2 + 1))) else (none)) = some r := by first | (rw [hy127]; with_reducible exact H) | (have H2_ := (Option.bind_some _ _).symm.trans H; rw [hy127]; with_reducible exact H2_) | (have H2_ := (Option.bind_some _ _).symm.trans H; with_reducible exact H2_) | with_reducible exact H | (rw [hy127]; exact H) | exact H
                have Ny127 := Aside0.mk hy127
                clear hy127
                by_cases c11 : (strOfNums y127).size + x6_2.size ≤ 9223372036854775807
                · rw [if_pos c11] at H
                  have c11b0 := eq_true c11
                  have c11b1 : decide ((strOfNums y127).size + x6_2.size ≤ 9223372036854775807) = true := decide_eq_true c11
                  try have c11b2 : (9223372036854775807 < (strOfNums y127).size + x6_2.size) = False := eq_false (Nat.not_lt.2 c11)
                  have H' := Aside0.mk H
                  clear H
                  go_wp2_with (first | ((with_reducible refine gate_dst (N := 31) rfl ?_); refine Kd.R_lit (Kd.int .u8) _ 5 ?hg (N := 31) ?hd (xs := ([(IntKind.u64.wrap (48 + (Int.tmod x5_2 10))) % 256] : List Int)) (inner := [.int .u8 ((IntKind.u64.wrap (48 + (Int.tmod x5_2 10))) % 256)]) (ok := fun _ => True) (okp := fun _ => True) ?hr ?hp (fun _ hk => hk) trivial (Below.refl _ _) (Nat.le_refl _) (by simp) ?_; (case hd => rfl); (case hg => rfl); (case hr => first | (go_simp; done) | (go_simp; rfl)); (case hp => exact (Reps.one (show Kd.M (Kd.int .u8) _ _ _ ((IntKind.u64.wrap (48 + (Int.tmod x5_2 10))) % 256) [.int .u8 ((IntKind.u64.wrap (48 + (Int.tmod x5_2 10))) % 256)] from rfl) (Reps.none _ _))); intro v128 w12 ho13 hb hg_ hnew_; clear hg_ hnew_; (first | rw [← Ny127.out] at ho13 | (simp only [Int.reduceToNat] at ho13; rw [← Ny127.out] at ho13)); have n0_ := Aside0.mk (Kd.R_lower ho13 (below_size (by repeat (first | (with_reducible first | exact HB.out | apply below_alloc | apply pw_below_drewN | apply below_drew1) | exact HB.out)))); have n1_ := Aside0.mk (below_step (by repeat (first | (with_reducible first | exact HB.out | apply below_alloc | apply pw_below_drewN | apply below_drew1) | exact HB.out)) hb); clear HB; have HO129 := n0_; have HB := n1_; clear n0_ n1_; clear hb ho13; have hcv14 := own_string (P := Tryd.prog) Tryd.underlying53 Tryd.underlying5 Tryd.underlying9 (Kd.own_of_R HO129.out)))
                  go_roundg k2
                  case measure => have := HJ1.out; have := HK2.out; omega
                  case rel => exact ⟨(IntKind.u64.wrap (Int.tdiv x5_2 10)), ((strOfNums y127) ++ x6_2), (wrap64 (x7_2 + 1)), (by first | rfl | (simp; done) | (simp [*]; done)), (by first | rfl | (simp; done) | (simp [*]; done)), (by first | rfl | (simp; done) | (simp [*]; done)), H', ⟨by have := HJ1.out; have := HK2.out; omega⟩, ⟨by repeat (first | (with_reducible first | exact HB.out | apply below_alloc | apply pw_below_drewN | apply below_drew1) | exact HB.out)⟩⟩
                · rw [if_neg c11] at H
                  exact absurd H (by simp)
          · rw [if_neg c4] at H
            have c4b0 : decide (x7_2 < 6) = false := decide_eq_false c4
            clear c4
            by_cases c15 : x6_2.toList = ([] : List UInt8)
            · rw [if_pos c15] at H
              have c15b0 : (x6_2.toList == ([] : List UInt8)) = true := beq_iff_eq.mpr c15
              have c15b1 : (x6_2.toList != ([] : List UInt8)) = false := bne_eq_false_iff_eq.mpr c15
              clear c15
              replace H := Option.bind_eq_some_iff.mp H
              obtain ⟨t130, A160, H⟩ := H
              replace H : (if x4_1.size + t130.size ≤ 9223372036854775807 then (if (x4_1 ++ t130).size + x6_2.size ≤ 9223372036854775807 then (some ((x4_1 ++ t130) ++ x6_2)) else (none)) else (none)) = some r := H
              have A16 := Aside0.mk A160
              clear A160
              by_cases c17 : x4_1.size + t130.size ≤ 9223372036854775807
              · rw [if_pos c17] at H
                have c17b0 := eq_true c17
                have c17b1 : decide (x4_1.size + t130.size ≤ 9223372036854775807) = true := decide_eq_true c17
                try have c17b2 : (9223372036854775807 < x4_1.size + t130.size) = False := eq_false (Nat.not_lt.2 c17)
                by_cases c18 : (x4_1 ++ t130).size + x6_2.size ≤ 9223372036854775807
                · rw [if_pos c18] at H
                  have c18b0 := eq_true c18
                  have c18b1 : decide ((x4_1 ++ t130).size + x6_2.size ≤ 9223372036854775807) = true := decide_eq_true c18
                  try have c18b2 : (9223372036854775807 < (x4_1 ++ t130).size + x6_2.size) = False := eq_false (Nat.not_lt.2 c18)
                  try have c18b3 : (9223372036854775807 < x4_1.size + t130.size + x6_2.size) = False := eq_false (by have h_ := c18; simp only [ByteArray.size_append] at h_; omega)
                  try have c18b4 : (9223372036854775807 < (x4_1.size + t130.size) + x6_2.size) = False := eq_false (by have h_ := c18; simp only [ByteArray.size_append] at h_; omega)
                  obtain rfl := Option.some.inj H
                  go_wp2_with (first | ((with_reducible refine gate_callee (f := 30) rfl ?_); refine goesL_ (some 45) rfl rfl Tryd.func30 (by kernel_rfl) rfl #[.int .i64 (wrap64 (IntKind.u64.wrap (Int.tdiv x3_1 1000000)))] rfl (by (try simp only [List.map_toArray, List.map_cons, List.map_nil]); first | done | rfl | (simp only [List.length_drop, List.length_take]; rfl)) ?_; (with_reducible refine (odometerref01_Digits.calls k2 (wrap64 (IntKind.u64.wrap (Int.tdiv x3_1 1000000))) t130 _ A16.out).mono ?_); rintro e w19 ⟨rfl, hb⟩; refine ⟨_, rfl, ?_⟩; have n0_ := Aside0.mk (below_step (by repeat (first | (with_reducible first | exact HB.out | apply below_alloc | apply pw_below_drewN | apply below_drew1) | exact HB.out)) hb); clear HB; have HB := n0_; clear n0_; (try clear hb); (try clear hb2); (try clear hk); (try clear hi)))
                  go_ret
                  exact ⟨by first | rfl | (simp [errW_none, errW_some] <;> rfl) | (simp [*, errW_none, errW_some] <;> rfl), by repeat (first | (with_reducible first | exact HB.out | apply below_alloc | apply pw_below_drewN | apply below_drew1) | exact HB.out)⟩
                · rw [if_neg c18] at H
                  exact absurd H (by simp)
              · rw [if_neg c17] at H
                exact absurd H (by simp)
            · rw [if_neg c15] at H
              have c15b0 : (x6_2.toList == ([] : List UInt8)) = false := beq_eq_false_iff_ne.mpr c15
              have c15b1 : (x6_2.toList != ([] : List UInt8)) = true := bne_iff_ne.mpr c15
              by_cases c20 : 1 + x6_2.size ≤ 9223372036854775807
              · rw [if_pos c20] at H
                have c20b0 := eq_true c20
                have c20b1 : decide (1 + x6_2.size ≤ 9223372036854775807) = true := decide_eq_true c20
                try have c20b2 : (9223372036854775807 < 1 + x6_2.size) = False := eq_false (Nat.not_lt.2 c20)
                replace H := Option.bind_eq_some_iff.mp H
                obtain ⟨t131, A210, H⟩ := H
                replace H : (if x4_1.size + t131.size ≤ 9223372036854775807 then (if (x4_1 ++ t131).size + ((⟨#[46]⟩ : ByteArray) ++ x6_2).size ≤ 9223372036854775807 then (some ((x4_1 ++ t131) ++ ((⟨#[46]⟩ : ByteArray) ++ x6_2))) else (none)) else (none)) = some r := H
                have A21 := Aside0.mk A210
                clear A210
                by_cases c22 : x4_1.size + t131.size ≤ 9223372036854775807
                · rw [if_pos c22] at H
                  have c22b0 := eq_true c22
                  have c22b1 : decide (x4_1.size + t131.size ≤ 9223372036854775807) = true := decide_eq_true c22
                  try have c22b2 : (9223372036854775807 < x4_1.size + t131.size) = False := eq_false (Nat.not_lt.2 c22)
                  by_cases c23 : (x4_1 ++ t131).size + ((⟨#[46]⟩ : ByteArray) ++ x6_2).size ≤ 9223372036854775807
                  · rw [if_pos c23] at H
                    have c23b0 := eq_true c23
                    have c23b1 : decide ((x4_1 ++ t131).size + ((⟨#[46]⟩ : ByteArray) ++ x6_2).size ≤ 9223372036854775807) = true := decide_eq_true c23
                    try have c23b2 : (9223372036854775807 < (x4_1 ++ t131).size + ((⟨#[46]⟩ : ByteArray) ++ x6_2).size) = False := eq_false (Nat.not_lt.2 c23)
                    try have c23b3 : (9223372036854775807 < x4_1.size + t131.size + 1 + x6_2.size) = False := eq_false (by have h_ := c23; simp only [ByteArray.size_append] at h_; have z0_ : (⟨#[46]⟩ : ByteArray).size = 1 := rfl; omega)
                    try have c23b4 : (9223372036854775807 < (x4_1.size + t131.size) + (1 + x6_2.size)) = False := eq_false (by have h_ := c23; simp only [ByteArray.size_append] at h_; have z0_ : (⟨#[46]⟩ : ByteArray).size = 1 := rfl; omega)
                    obtain rfl := Option.some.inj H
                    go_wp2_with (first | ((with_reducible refine gate_callee (f := 30) rfl ?_); refine goesL_ (some 45) rfl rfl Tryd.func30 (by kernel_rfl) rfl #[.int .i64 (wrap64 (IntKind.u64.wrap (Int.tdiv x3_1 1000000)))] rfl (by (try simp only [List.map_toArray, List.map_cons, List.map_nil]); first | done | rfl | (simp only [List.length_drop, List.length_take]; rfl)) ?_; (with_reducible refine (odometerref01_Digits.calls k2 (wrap64 (IntKind.u64.wrap (Int.tdiv x3_1 1000000))) t131 _ A21.out).mono ?_); rintro e w24 ⟨rfl, hb⟩; refine ⟨_, rfl, ?_⟩; have n0_ := Aside0.mk (below_step (by repeat (first | (with_reducible first | exact HB.out | apply below_alloc | apply pw_below_drewN | apply below_drew1) | exact HB.out)) hb); clear HB; have HB := n0_; clear n0_; (try clear hb); (try clear hb2); (try clear hk); (try clear hi)))
                    go_ret
                    exact ⟨by first | rfl | (simp [errW_none, errW_some] <;> rfl) | (simp [*, errW_none, errW_some] <;> rfl), by repeat (first | (with_reducible first | exact HB.out | apply below_alloc | apply pw_below_drewN | apply below_drew1) | exact HB.out)⟩
                  · rw [if_neg c23] at H
                    exact absurd H (by simp)
                · rw [if_neg c22] at H
                  exact absurd H (by simp)
              · rw [if_neg c20] at H
                exact absurd H (by simp)

/-! ### strings_TrimRight: function 23 -/
def strings_TrimRight.f (a0 : ByteArray) (a1 : ByteArray) : Option (ByteArray) := if a0.size ≤ 1000000 ∧ a1.data.toList = [48] then some (⟨(Lib.trimRightB a0.data.toList 48).toArray⟩ : ByteArray) else none
theorem strings_TrimRight.calls (a0 : ByteArray) (a1 : ByteArray) (r : ByteArray) (w : World) (h : strings_TrimRight.f a0 a1 = some r) :
    Calls Tryd.prog 23 #[.string a0, .string a1] w fun e w' => e = .returned (.string r) ∧ Drawn0 w w' := by
  unfold strings_TrimRight.f at h
  split at h
  case isFalse => cases h
  case isTrue hc =>
    obtain rfl : a1 = ⟨#[48]⟩ := by
      apply ByteArray.ext
      apply Array.toList_inj.1
      exact hc.2
    cases h
    refine (Tryd.strings_TrimRight_one a0 48 (by decide) w (by have := hc.1; omega)).mono ?_
    rintro e w' ⟨rfl, rfl⟩
    exact ⟨rfl, Drawn0.refl _⟩

/-! ### fix_size: function 31 -/
def fix_size.f (a0 : Int) : Option (Int) := if a0 < 0 then (some (IntKind.u64.wrap (-(IntKind.u64.wrap (a0))))) else (some (IntKind.u64.wrap (a0)))
set_option maxHeartbeats 8000000 in
set_option maxRecDepth 100000 in
theorem fix_size.calls (a0 : Int) (r : Int) (w : World) (h : fix_size.f a0 = some r) :
    Calls Tryd.prog 31 #[.int .i64 a0] w fun e w' => e = .returned (.int .u64 r) ∧ Drawn0 w w' := by
  have H : (if a0 < 0 then (some (IntKind.u64.wrap (-(IntKind.u64.wrap (a0))))) else (some (IntKind.u64.wrap (a0)))) = some r := h
  clear h
  by_cases c2 : a0 < 0
  · rw [if_pos c2] at H
    have c2b0 : decide (a0 < 0) = true := decide_eq_true c2
    clear c2
    obtain rfl := Option.some.inj H
    go_enter Tryd.func31, Tryd.ntmps31
    go_wp2
    go_ret
    exact ⟨by first | rfl | (simp; done) | (simp [*]; done), by repeat (first | exact Drawn0.refl _ | apply Drawn0.step)⟩
  · rw [if_neg c2] at H
    have c2b0 : decide (a0 < 0) = false := decide_eq_false c2
    clear c2
    obtain rfl := Option.some.inj H
    go_enter Tryd.func31, Tryd.ntmps31
    go_wp2
    go_ret
    exact ⟨by first | rfl | (simp; done) | (simp [*]; done), by repeat (first | exact Drawn0.refl _ | apply Drawn0.step)⟩

/-! ### strconv_FormatUint: function 32 -/
def strconv_FormatUint.f (a0 : Int) (a1 : Int) : Option (ByteArray) := if (0 ≤ a0 ∧ a0 < 18446744073709551616) ∧ a1 = 10 then some (⟨(Lib.decDigits a0.toNat).toArray⟩ : ByteArray) else none
theorem strconv_FormatUint.calls (a0 : Int) (a1 : Int) (r : ByteArray) (w : World) (hSH : SH w) (h : strconv_FormatUint.f a0 a1 = some r) :
    Calls Tryd.prog 32 #[.int .u64 a0, .int .i64 a1] w fun e w' => e = .returned (.string r) ∧ Below w.heap.size w w' := by
  unfold strconv_FormatUint.f at h
  split at h
  case isFalse => cases h
  case isTrue hc =>
    obtain ⟨⟨h1, h2⟩, rfl⟩ := hc
    obtain ⟨x, rfl⟩ : ∃ x : Nat, a0 = x := ⟨a0.toNat, by omega⟩
    have h5 : (⟨(Lib.decDigits (x : Int).toNat).toArray⟩ : ByteArray) = r := Option.some.inj h
    rw [Int.toNat_natCast] at h5
    refine (formatUint_calls x w (by omega) hSH).mono ?_
    rintro e w' ⟨he, hb⟩
    rw [h5] at he
    exact ⟨he, hb⟩

end Go.Proofs.YtdgmgbcjlmighaaDoor.PTex
