-- Printed for this claim by a program of the session (print2.py), out of the translation; Lean checks it.
import Derived.Test.YtdgmgbcjlmighaaDoorPScax0
namespace Go.Proofs.YtdgmgbcjlmighaaDoor.PSca
open Go.RowKit Go.Proofs.YtdgmgbcjlmighaaDoorW.PrintWords Go.Proofs.YtdgmgbcjlmighaaDoorW.PrintLast Go.Proofs.YtdgmgbcjlmighaaDoorW.PrintMore
attribute [local go_sem] max2_int min2_int max_two min_two max_three min_three max_four min_four   -- for this text's walks alone
set_option linter.unusedVariables false
set_option linter.unusedSimpArgs false

/-! ### fix_Parse: function 8 -/
def fix_Parse.f (a0 : ByteArray) : Option (Int × Int) :=
  if a0.size ≤ 1000000 ∧ (a0.data.toList.all fun c => decide (c.toNat < 128)) = true then some (parseF a0.data.toList) else none
theorem fix_Parse.calls (a0 : ByteArray) (r1 : Int) (r2 : Int) (w : World) (h : fix_Parse.f a0 = some (r1, r2)) :
    Calls Tryd.prog 8 #[.string a0] w fun e w' => e = .returned (.tuple #[.int .i64 r1, .int .i64 r2]) ∧ Below w.heap.size w w' := by
  unfold fix_Parse.f at h
  split at h
  case isFalse => cases h
  case isTrue hc =>
    have h1 := Option.some.inj h
    have e1 : (parseF a0.data.toList).1 = r1 := congrArg Prod.fst h1
    have e2 : (parseF a0.data.toList).2 = r2 := congrArg Prod.snd h1
    refine (parse_calls a0 w hc.1 (fun j b hb => of_decide_eq_true (List.all_eq_true.1 hc.2 b (List.mem_of_getElem? hb)))).mono ?_
    rintro e w' ⟨he, hb⟩
    rw [e1, e2] at he
    exact ⟨he, hb⟩

/-! ### odometerlaw01_reads: function 16 -/
def odometerlaw01_reads.f (a0 : ByteArray) (a1 : Int) : Option (Bool) := (fix_Parse.f a0).bind fun bt101 => (if bt101.2 = 0 then (some (a1 == bt101.1)) else (some false))
set_option maxHeartbeats 8000000 in
set_option maxRecDepth 100000 in
theorem odometerlaw01_reads.calls (a0 : ByteArray) (a1 : Int) (r : Bool) (w : World) (h : odometerlaw01_reads.f a0 a1 = some r) :
    Calls Tryd.prog 16 #[.string a0, .int .i64 a1] w fun e w' => e = .returned (.bool r) ∧ Below w.heap.size w w' := by
  have HB := Aside0.mk (Below.refl w.heap.size w)
  have H : ((fix_Parse.f a0).bind fun bt101 => (if bt101.2 = 0 then (some (a1 == bt101.1)) else (some false))) = some r := h
  clear h
  replace H := Option.bind_eq_some_iff.mp H
  obtain ⟨⟨t101, t102⟩, A30, H⟩ := H
  replace H : (if t102 = 0 then (some (a1 == t101)) else (some false)) = some r := H
  have A3 := Aside0.mk A30
  clear A30
  by_cases c4 : t102 = 0
  · rw [if_pos c4] at H
    have c4b0 : (t102 == 0) = true := beq_iff_eq.mpr c4
    have c4b1 : (t102 != 0) = false := bne_eq_false_iff_eq.mpr c4
    clear c4
    obtain rfl := Option.some.inj H
    go_enter Tryd.func16, Tryd.ntmps16
    go_wp2_with (first | ((with_reducible refine gate_callee (f := 8) rfl ?_); refine goesL_ (some 9) rfl rfl Tryd.func8 (by kernel_rfl) rfl #[.string a0] rfl (by (try simp only [List.map_toArray, List.map_cons, List.map_nil]); first | done | rfl | (simp only [List.length_drop, List.length_take]; rfl)) ?_; (with_reducible refine (fix_Parse.calls a0 t101 t102 _ A3.out).mono ?_); rintro e w5 ⟨rfl, hb⟩; refine ⟨_, rfl, ?_⟩; have n0_ := Aside0.mk (below_step (by repeat (first | (with_reducible first | exact HB.out | apply below_alloc | apply pw_below_drewN | apply below_drew1) | exact HB.out)) hb); clear HB; have HB := n0_; clear n0_; (try clear hb); (try clear hb2); (try clear hk); (try clear hi)))
    go_ret
    exact ⟨by first | rfl | (simp [errW_none, errW_some] <;> rfl) | (simp [*, errW_none, errW_some] <;> rfl), by repeat (first | (with_reducible first | exact HB.out | apply below_alloc | apply pw_below_drewN | apply below_drew1) | exact HB.out)⟩
  · rw [if_neg c4] at H
    have c4b0 : (t102 == 0) = false := beq_eq_false_iff_ne.mpr c4
    have c4b1 : (t102 != 0) = true := bne_iff_ne.mpr c4
    obtain rfl := Option.some.inj H
    go_enter Tryd.func16, Tryd.ntmps16
    go_wp2_with (first | ((with_reducible refine gate_callee (f := 8) rfl ?_); refine goesL_ (some 9) rfl rfl Tryd.func8 (by kernel_rfl) rfl #[.string a0] rfl (by (try simp only [List.map_toArray, List.map_cons, List.map_nil]); first | done | rfl | (simp only [List.length_drop, List.length_take]; rfl)) ?_; (with_reducible refine (fix_Parse.calls a0 t101 t102 _ A3.out).mono ?_); rintro e w6 ⟨rfl, hb⟩; refine ⟨_, rfl, ?_⟩; have n0_ := Aside0.mk (below_step (by repeat (first | (with_reducible first | exact HB.out | apply below_alloc | apply pw_below_drewN | apply below_drew1) | exact HB.out)) hb); clear HB; have HB := n0_; clear n0_; (try clear hb); (try clear hb2); (try clear hk); (try clear hi)))
    go_ret
    exact ⟨by first | rfl | (simp [errW_none, errW_some] <;> rfl) | (simp [*, errW_none, errW_some] <;> rfl), by repeat (first | (with_reducible first | exact HB.out | apply below_alloc | apply pw_below_drewN | apply below_drew1) | exact HB.out)⟩

/-! ### odometerlaw01_fails: function 19 -/
def odometerlaw01_fails.f (a0 : ByteArray) (a1 : Int) : Option (Bool) := (fix_Parse.f a0).bind fun bt103 => (if bt103.2 = a1 then (some (bt103.1 == 0)) else (some false))
set_option maxHeartbeats 8000000 in
set_option maxRecDepth 100000 in
theorem odometerlaw01_fails.calls (a0 : ByteArray) (a1 : Int) (r : Bool) (w : World) (h : odometerlaw01_fails.f a0 a1 = some r) :
    Calls Tryd.prog 19 #[.string a0, .int .i64 a1] w fun e w' => e = .returned (.bool r) ∧ Below w.heap.size w w' := by
  have HB := Aside0.mk (Below.refl w.heap.size w)
  have H : ((fix_Parse.f a0).bind fun bt103 => (if bt103.2 = a1 then (some (bt103.1 == 0)) else (some false))) = some r := h
  clear h
  replace H := Option.bind_eq_some_iff.mp H
  obtain ⟨⟨t103, t104⟩, A30, H⟩ := H
  replace H : (if t104 = a1 then (some (t103 == 0)) else (some false)) = some r := H
  have A3 := Aside0.mk A30
  clear A30
  by_cases c4 : t104 = a1
  · rw [if_pos c4] at H
    have c4b0 : (t104 == a1) = true := beq_iff_eq.mpr c4
    have c4b1 : (t104 != a1) = false := bne_eq_false_iff_eq.mpr c4
    clear c4
    obtain rfl := Option.some.inj H
    go_enter Tryd.func19, Tryd.ntmps19
    go_wp2_with (first | ((with_reducible refine gate_callee (f := 8) rfl ?_); refine goesL_ (some 9) rfl rfl Tryd.func8 (by kernel_rfl) rfl #[.string a0] rfl (by (try simp only [List.map_toArray, List.map_cons, List.map_nil]); first | done | rfl | (simp only [List.length_drop, List.length_take]; rfl)) ?_; (with_reducible refine (fix_Parse.calls a0 t103 t104 _ A3.out).mono ?_); rintro e w5 ⟨rfl, hb⟩; refine ⟨_, rfl, ?_⟩; have n0_ := Aside0.mk (below_step (by repeat (first | (with_reducible first | exact HB.out | apply below_alloc | apply pw_below_drewN | apply below_drew1) | exact HB.out)) hb); clear HB; have HB := n0_; clear n0_; (try clear hb); (try clear hb2); (try clear hk); (try clear hi)))
    go_ret
    exact ⟨by first | rfl | (simp [errW_none, errW_some] <;> rfl) | (simp [*, errW_none, errW_some] <;> rfl), by repeat (first | (with_reducible first | exact HB.out | apply below_alloc | apply pw_below_drewN | apply below_drew1) | exact HB.out)⟩
  · rw [if_neg c4] at H
    have c4b0 : (t104 == a1) = false := beq_eq_false_iff_ne.mpr c4
    have c4b1 : (t104 != a1) = true := bne_iff_ne.mpr c4
    obtain rfl := Option.some.inj H
    go_enter Tryd.func19, Tryd.ntmps19
    go_wp2_with (first | ((with_reducible refine gate_callee (f := 8) rfl ?_); refine goesL_ (some 9) rfl rfl Tryd.func8 (by kernel_rfl) rfl #[.string a0] rfl (by (try simp only [List.map_toArray, List.map_cons, List.map_nil]); first | done | rfl | (simp only [List.length_drop, List.length_take]; rfl)) ?_; (with_reducible refine (fix_Parse.calls a0 t103 t104 _ A3.out).mono ?_); rintro e w6 ⟨rfl, hb⟩; refine ⟨_, rfl, ?_⟩; have n0_ := Aside0.mk (below_step (by repeat (first | (with_reducible first | exact HB.out | apply below_alloc | apply pw_below_drewN | apply below_drew1) | exact HB.out)) hb); clear HB; have HB := n0_; clear n0_; (try clear hb); (try clear hb2); (try clear hk); (try clear hi)))
    go_ret
    exact ⟨by first | rfl | (simp [errW_none, errW_some] <;> rfl) | (simp [*, errW_none, errW_some] <;> rfl), by repeat (first | (with_reducible first | exact HB.out | apply below_alloc | apply pw_below_drewN | apply below_drew1) | exact HB.out)⟩

/-! ### odometerlaw01_known: function 7 -/
def odometerlaw01_known.f  : Option (Bool) := (odometerlaw01_reads.f (⟨#[49, 101, 51]⟩ : ByteArray) 1000000000).bind fun t105 => (if t105 = true then ((odometerlaw01_reads.f (⟨#[46, 53]⟩ : ByteArray) 500000).bind fun t106 => (if t106 = true then ((odometerlaw01_reads.f (⟨#[45, 48, 46, 48, 48, 48, 48, 48, 49]⟩ : ByteArray) (-1)).bind fun t107 => (if t107 = true then ((odometerlaw01_reads.f (⟨#[50, 53, 101, 45, 54]⟩ : ByteArray) 25).bind fun t108 => (if t108 = true then ((odometerlaw01_reads.f (⟨#[48, 101, 57, 57]⟩ : ByteArray) 0).bind fun t109 => (if t109 = true then ((odometerlaw01_fails.f (⟨#[49, 101, 45, 55]⟩ : ByteArray) 4).bind fun t110 => (if t110 = true then ((odometerlaw01_fails.f (⟨#[57, 50, 50, 51, 51, 55, 50, 48, 51, 54, 56, 53, 52, 46, 55, 55, 53, 56, 48, 56]⟩ : ByteArray) 4).bind fun t111 => (if t111 = true then ((odometerlaw01_fails.f (⟨#[43, 73, 110, 102]⟩ : ByteArray) 4).bind fun t112 => (if t112 = true then ((odometerlaw01_fails.f (⟨#[46]⟩ : ByteArray) 3).bind fun t113 => (if t113 = true then ((odometerlaw01_fails.f (⟨#[101, 53]⟩ : ByteArray) 3).bind fun t114 => (if t114 = true then ((odometerlaw01_fails.f (⟨#[49, 101]⟩ : ByteArray) 3).bind fun t115 => (if t115 = true then ((odometerlaw01_fails.f (⟨#[49, 95, 48]⟩ : ByteArray) 3).bind fun t116 => (if t116 = true then ((odometerlaw01_fails.f (⟨#[]⟩ : ByteArray) 3).bind fun t117 => (some t117)) else (some false))) else (some false))) else (some false))) else (some false))) else (some false))) else (some false))) else (some false))) else (some false))) else (some false))) else (some false))) else (some false))) else (some false))
set_option maxHeartbeats 8000000 in
set_option maxRecDepth 100000 in
theorem odometerlaw01_known.calls  (r : Bool) (w : World) (h : odometerlaw01_known.f  = some r) :
    Calls Tryd.prog 7 #[] w fun e w' => e = .returned (.bool r) ∧ Below w.heap.size w w' := by
  have HB := Aside0.mk (Below.refl w.heap.size w)
  have H : ((odometerlaw01_reads.f (⟨#[49, 101, 51]⟩ : ByteArray) 1000000000).bind fun t105 => (if t105 = true then ((odometerlaw01_reads.f (⟨#[46, 53]⟩ : ByteArray) 500000).bind fun t106 => (if t106 = true then ((odometerlaw01_reads.f (⟨#[45, 48, 46, 48, 48, 48, 48, 48, 49]⟩ : ByteArray) (-1)).bind fun t107 => (if t107 = true then ((odometerlaw01_reads.f (⟨#[50, 53, 101, 45, 54]⟩ : ByteArray) 25).bind fun t108 => (if t108 = true then ((odometerlaw01_reads.f (⟨#[48, 101, 57, 57]⟩ : ByteArray) 0).bind fun t109 => (if t109 = true then ((odometerlaw01_fails.f (⟨#[49, 101, 45, 55]⟩ : ByteArray) 4).bind fun t110 => (if t110 = true then ((odometerlaw01_fails.f (⟨#[57, 50, 50, 51, 51, 55, 50, 48, 51, 54, 56, 53, 52, 46, 55, 55, 53, 56, 48, 56]⟩ : ByteArray) 4).bind fun t111 => (if t111 = true then ((odometerlaw01_fails.f (⟨#[43, 73, 110, 102]⟩ : ByteArray) 4).bind fun t112 => (if t112 = true then ((odometerlaw01_fails.f (⟨#[46]⟩ : ByteArray) 3).bind fun t113 => (if t113 = true then ((odometerlaw01_fails.f (⟨#[101, 53]⟩ : ByteArray) 3).bind fun t114 => (if t114 = true then ((odometerlaw01_fails.f (⟨#[49, 101]⟩ : ByteArray) 3).bind fun t115 => (if t115 = true then ((odometerlaw01_fails.f (⟨#[49, 95, 48]⟩ : ByteArray) 3).bind fun t116 => (if t116 = true then ((odometerlaw01_fails.f (⟨#[]⟩ : ByteArray) 3).bind fun t117 => (some t117)) else (some false))) else (some false))) else (some false))) else (some false))) else (some false))) else (some false))) else (some false))) else (some false))) else (some false))) else (some false))) else (some false))) else (some false))) = some r := h
  clear h
  replace H := Option.bind_eq_some_iff.mp H
  obtain ⟨t105, A10, H⟩ := H
  replace H : (if t105 = true then ((odometerlaw01_reads.f (⟨#[46, 53]⟩ : ByteArray) 500000).bind fun t106 => (if t106 = true then ((odometerlaw01_reads.f (⟨#[45, 48, 46, 48, 48, 48, 48, 48, 49]⟩ : ByteArray) (-1)).bind fun t107 => (if t107 = true then ((odometerlaw01_reads.f (⟨#[50, 53, 101, 45, 54]⟩ : ByteArray) 25).bind fun t108 => (if t108 = true then ((odometerlaw01_reads.f (⟨#[48, 101, 57, 57]⟩ : ByteArray) 0).bind fun t109 => (if t109 = true then ((odometerlaw01_fails.f (⟨#[49, 101, 45, 55]⟩ : ByteArray) 4).bind fun t110 => (if t110 = true then ((odometerlaw01_fails.f (⟨#[57, 50, 50, 51, 51, 55, 50, 48, 51, 54, 56, 53, 52, 46, 55, 55, 53, 56, 48, 56]⟩ : ByteArray) 4).bind fun t111 => (if t111 = true then ((odometerlaw01_fails.f (⟨#[43, 73, 110, 102]⟩ : ByteArray) 4).bind fun t112 => (if t112 = true then ((odometerlaw01_fails.f (⟨#[46]⟩ : ByteArray) 3).bind fun t113 => (if t113 = true then ((odometerlaw01_fails.f (⟨#[101, 53]⟩ : ByteArray) 3).bind fun t114 => (if t114 = true then ((odometerlaw01_fails.f (⟨#[49, 101]⟩ : ByteArray) 3).bind fun t115 => (if t115 = true then ((odometerlaw01_fails.f (⟨#[49, 95, 48]⟩ : ByteArray) 3).bind fun t116 => (if t116 = true then ((odometerlaw01_fails.f (⟨#[]⟩ : ByteArray) 3).bind fun t117 => (some t117)) else (some false))) else (some false))) else (some false))) else (some false))) else (some false))) else (some false))) else (some false))) else (some false))) else (some false))) else (some false))) else (some false))) else (some false)) = some r := H
  have A1 := Aside0.mk A10
  clear A10
  by_cases c2 : t105 = true
  · subst c2
    have H1 : ((odometerlaw01_reads.f (⟨#[46, 53]⟩ : ByteArray) 500000).bind fun t106 => (if t106 = true then ((odometerlaw01_reads.f (⟨#[45, 48, 46, 48, 48, 48, 48, 48, 49]⟩ : ByteArray) (-1)).bind fun t107 => (if t107 = true then ((odometerlaw01_reads.f (⟨#[50, 53, 101, 45, 54]⟩ : ByteArray) 25).bind fun t108 => (if t108 = true then ((odometerlaw01_reads.f (⟨#[48, 101, 57, 57]⟩ : ByteArray) 0).bind fun t109 => (if t109 = true then ((odometerlaw01_fails.f (⟨#[49, 101, 45, 55]⟩ : ByteArray) 4).bind fun t110 => (if t110 = true then ((odometerlaw01_fails.f (⟨#[57, 50, 50, 51, 51, 55, 50, 48, 51, 54, 56, 53, 52, 46, 55, 55, 53, 56, 48, 56]⟩ : ByteArray) 4).bind fun t111 => (if t111 = true then ((odometerlaw01_fails.f (⟨#[43, 73, 110, 102]⟩ : ByteArray) 4).bind fun t112 => (if t112 = true then ((odometerlaw01_fails.f (⟨#[46]⟩ : ByteArray) 3).bind fun t113 => (if t113 = true then ((odometerlaw01_fails.f (⟨#[101, 53]⟩ : ByteArray) 3).bind fun t114 => (if t114 = true then ((odometerlaw01_fails.f (⟨#[49, 101]⟩ : ByteArray) 3).bind fun t115 => (if t115 = true then ((odometerlaw01_fails.f (⟨#[49, 95, 48]⟩ : ByteArray) 3).bind fun t116 => (if t116 = true then ((odometerlaw01_fails.f (⟨#[]⟩ : ByteArray) 3).bind fun t117 => (some t117)) else (some false))) else (some false))) else (some false))) else (some false))) else (some false))) else (some false))) else (some false))) else (some false))) else (some false))) else (some false))) else (some false))) = some r := by rw [if_pos rfl] at H; exact H
    clear H
    have H := H1
    clear H1
    replace H := Option.bind_eq_some_iff.mp H
    obtain ⟨t106, A30, H⟩ := H
    replace H : (if t106 = true then ((odometerlaw01_reads.f (⟨#[45, 48, 46, 48, 48, 48, 48, 48, 49]⟩ : ByteArray) (-1)).bind fun t107 => (if t107 = true then ((odometerlaw01_reads.f (⟨#[50, 53, 101, 45, 54]⟩ : ByteArray) 25).bind fun t108 => (if t108 = true then ((odometerlaw01_reads.f (⟨#[48, 101, 57, 57]⟩ : ByteArray) 0).bind fun t109 => (if t109 = true then ((odometerlaw01_fails.f (⟨#[49, 101, 45, 55]⟩ : ByteArray) 4).bind fun t110 => (if t110 = true then ((odometerlaw01_fails.f (⟨#[57, 50, 50, 51, 51, 55, 50, 48, 51, 54, 56, 53, 52, 46, 55, 55, 53, 56, 48, 56]⟩ : ByteArray) 4).bind fun t111 => (if t111 = true then ((odometerlaw01_fails.f (⟨#[43, 73, 110, 102]⟩ : ByteArray) 4).bind fun t112 => (if t112 = true then ((odometerlaw01_fails.f (⟨#[46]⟩ : ByteArray) 3).bind fun t113 => (if t113 = true then ((odometerlaw01_fails.f (⟨#[101, 53]⟩ : ByteArray) 3).bind fun t114 => (if t114 = true then ((odometerlaw01_fails.f (⟨#[49, 101]⟩ : ByteArray) 3).bind fun t115 => (if t115 = true then ((odometerlaw01_fails.f (⟨#[49, 95, 48]⟩ : ByteArray) 3).bind fun t116 => (if t116 = true then ((odometerlaw01_fails.f (⟨#[]⟩ : ByteArray) 3).bind fun t117 => (some t117)) else (some false))) else (some false))) else (some false))) else (some false))) else (some false))) else (some false))) else (some false))) else (some false))) else (some false))) else (some false))) else (some false)) = some r := H
    have A3 := Aside0.mk A30
    clear A30
    by_cases c4 : t106 = true
    · subst c4
      have H1 : ((odometerlaw01_reads.f (⟨#[45, 48, 46, 48, 48, 48, 48, 48, 49]⟩ : ByteArray) (-1)).bind fun t107 => (if t107 = true then ((odometerlaw01_reads.f (⟨#[50, 53, 101, 45, 54]⟩ : ByteArray) 25).bind fun t108 => (if t108 = true then ((odometerlaw01_reads.f (⟨#[48, 101, 57, 57]⟩ : ByteArray) 0).bind fun t109 => (if t109 = true then ((odometerlaw01_fails.f (⟨#[49, 101, 45, 55]⟩ : ByteArray) 4).bind fun t110 => (if t110 = true then ((odometerlaw01_fails.f (⟨#[57, 50, 50, 51, 51, 55, 50, 48, 51, 54, 56, 53, 52, 46, 55, 55, 53, 56, 48, 56]⟩ : ByteArray) 4).bind fun t111 => (if t111 = true then ((odometerlaw01_fails.f (⟨#[43, 73, 110, 102]⟩ : ByteArray) 4).bind fun t112 => (if t112 = true then ((odometerlaw01_fails.f (⟨#[46]⟩ : ByteArray) 3).bind fun t113 => (if t113 = true then ((odometerlaw01_fails.f (⟨#[101, 53]⟩ : ByteArray) 3).bind fun t114 => (if t114 = true then ((odometerlaw01_fails.f (⟨#[49, 101]⟩ : ByteArray) 3).bind fun t115 => (if t115 = true then ((odometerlaw01_fails.f (⟨#[49, 95, 48]⟩ : ByteArray) 3).bind fun t116 => (if t116 = true then ((odometerlaw01_fails.f (⟨#[]⟩ : ByteArray) 3).bind fun t117 => (some t117)) else (some false))) else (some false))) else (some false))) else (some false))) else (some false))) else (some false))) else (some false))) else (some false))) else (some false))) else (some false))) = some r := by rw [if_pos rfl] at H; exact H
      clear H
      have H := H1
      clear H1
      replace H := Option.bind_eq_some_iff.mp H
      obtain ⟨t107, A50, H⟩ := H
      replace H : (if t107 = true then ((odometerlaw01_reads.f (⟨#[50, 53, 101, 45, 54]⟩ : ByteArray) 25).bind fun t108 => (if t108 = true then ((odometerlaw01_reads.f (⟨#[48, 101, 57, 57]⟩ : ByteArray) 0).bind fun t109 => (if t109 = true then ((odometerlaw01_fails.f (⟨#[49, 101, 45, 55]⟩ : ByteArray) 4).bind fun t110 => (if t110 = true then ((odometerlaw01_fails.f (⟨#[57, 50, 50, 51, 51, 55, 50, 48, 51, 54, 56, 53, 52, 46, 55, 55, 53, 56, 48, 56]⟩ : ByteArray) 4).bind fun t111 => (if t111 = true then ((odometerlaw01_fails.f (⟨#[43, 73, 110, 102]⟩ : ByteArray) 4).bind fun t112 => (if t112 = true then ((odometerlaw01_fails.f (⟨#[46]⟩ : ByteArray) 3).bind fun t113 => (if t113 = true then ((odometerlaw01_fails.f (⟨#[101, 53]⟩ : ByteArray) 3).bind fun t114 => (if t114 = true then ((odometerlaw01_fails.f (⟨#[49, 101]⟩ : ByteArray) 3).bind fun t115 => (if t115 = true then ((odometerlaw01_fails.f (⟨#[49, 95, 48]⟩ : ByteArray) 3).bind fun t116 => (if t116 = true then ((odometerlaw01_fails.f (⟨#[]⟩ : ByteArray) 3).bind fun t117 => (some t117)) else (some false))) else (some false))) else (some false))) else (some false))) else (some false))) else (some false))) else (some false))) else (some false))) else (some false))) else (some false)) = some r := H
      have A5 := Aside0.mk A50
      clear A50
      by_cases c6 : t107 = true
      · subst c6
        have H1 : ((odometerlaw01_reads.f (⟨#[50, 53, 101, 45, 54]⟩ : ByteArray) 25).bind fun t108 => (if t108 = true then ((odometerlaw01_reads.f (⟨#[48, 101, 57, 57]⟩ : ByteArray) 0).bind fun t109 => (if t109 = true then ((odometerlaw01_fails.f (⟨#[49, 101, 45, 55]⟩ : ByteArray) 4).bind fun t110 => (if t110 = true then ((odometerlaw01_fails.f (⟨#[57, 50, 50, 51, 51, 55, 50, 48, 51, 54, 56, 53, 52, 46, 55, 55, 53, 56, 48, 56]⟩ : ByteArray) 4).bind fun t111 => (if t111 = true then ((odometerlaw01_fails.f (⟨#[43, 73, 110, 102]⟩ : ByteArray) 4).bind fun t112 => (if t112 = true then ((odometerlaw01_fails.f (⟨#[46]⟩ : ByteArray) 3).bind fun t113 => (if t113 = true then ((odometerlaw01_fails.f (⟨#[101, 53]⟩ : ByteArray) 3).bind fun t114 => (if t114 = true then ((odometerlaw01_fails.f (⟨#[49, 101]⟩ : ByteArray) 3).bind fun t115 => (if t115 = true then ((odometerlaw01_fails.f (⟨#[49, 95, 48]⟩ : ByteArray) 3).bind fun t116 => (if t116 = true then ((odometerlaw01_fails.f (⟨#[]⟩ : ByteArray) 3).bind fun t117 => (some t117)) else (some false))) else (some false))) else (some false))) else (some false))) else (some false))) else (some false))) else (some false))) else (some false))) else (some false))) = some r := by rw [if_pos rfl] at H; exact H
        clear H
        have H := H1
        clear H1
        replace H := Option.bind_eq_some_iff.mp H
        obtain ⟨t108, A70, H⟩ := H
        replace H : (if t108 = true then ((odometerlaw01_reads.f (⟨#[48, 101, 57, 57]⟩ : ByteArray) 0).bind fun t109 => (if t109 = true then ((odometerlaw01_fails.f (⟨#[49, 101, 45, 55]⟩ : ByteArray) 4).bind fun t110 => (if t110 = true then ((odometerlaw01_fails.f (⟨#[57, 50, 50, 51, 51, 55, 50, 48, 51, 54, 56, 53, 52, 46, 55, 55, 53, 56, 48, 56]⟩ : ByteArray) 4).bind fun t111 => (if t111 = true then ((odometerlaw01_fails.f (⟨#[43, 73, 110, 102]⟩ : ByteArray) 4).bind fun t112 => (if t112 = true then ((odometerlaw01_fails.f (⟨#[46]⟩ : ByteArray) 3).bind fun t113 => (if t113 = true then ((odometerlaw01_fails.f (⟨#[101, 53]⟩ : ByteArray) 3).bind fun t114 => (if t114 = true then ((odometerlaw01_fails.f (⟨#[49, 101]⟩ : ByteArray) 3).bind fun t115 => (if t115 = true then ((odometerlaw01_fails.f (⟨#[49, 95, 48]⟩ : ByteArray) 3).bind fun t116 => (if t116 = true then ((odometerlaw01_fails.f (⟨#[]⟩ : ByteArray) 3).bind fun t117 => (some t117)) else (some false))) else (some false))) else (some false))) else (some false))) else (some false))) else (some false))) else (some false))) else (some false))) else (some false)) = some r := H
        have A7 := Aside0.mk A70
        clear A70
        by_cases c8 : t108 = true
        · subst c8
          have H1 : ((odometerlaw01_reads.f (⟨#[48, 101, 57, 57]⟩ : ByteArray) 0).bind fun t109 => (if t109 = true then ((odometerlaw01_fails.f (⟨#[49, 101, 45, 55]⟩ : ByteArray) 4).bind fun t110 => (if t110 = true then ((odometerlaw01_fails.f (⟨#[57, 50, 50, 51, 51, 55, 50, 48, 51, 54, 56, 53, 52, 46, 55, 55, 53, 56, 48, 56]⟩ : ByteArray) 4).bind fun t111 => (if t111 = true then ((odometerlaw01_fails.f (⟨#[43, 73, 110, 102]⟩ : ByteArray) 4).bind fun t112 => (if t112 = true then ((odometerlaw01_fails.f (⟨#[46]⟩ : ByteArray) 3).bind fun t113 => (if t113 = true then ((odometerlaw01_fails.f (⟨#[101, 53]⟩ : ByteArray) 3).bind fun t114 => (if t114 = true then ((odometerlaw01_fails.f (⟨#[49, 101]⟩ : ByteArray) 3).bind fun t115 => (if t115 = true then ((odometerlaw01_fails.f (⟨#[49, 95, 48]⟩ : ByteArray) 3).bind fun t116 => (if t116 = true then ((odometerlaw01_fails.f (⟨#[]⟩ : ByteArray) 3).bind fun t117 => (some t117)) else (some false))) else (some false))) else (some false))) else (some false))) else (some false))) else (some false))) else (some false))) else (some false))) = some r := by rw [if_pos rfl] at H; exact H
          clear H
          have H := H1
          clear H1
          replace H := Option.bind_eq_some_iff.mp H
          obtain ⟨t109, A90, H⟩ := H
          replace H : (if t109 = true then ((odometerlaw01_fails.f (⟨#[49, 101, 45, 55]⟩ : ByteArray) 4).bind fun t110 => (if t110 = true then ((odometerlaw01_fails.f (⟨#[57, 50, 50, 51, 51, 55, 50, 48, 51, 54, 56, 53, 52, 46, 55, 55, 53, 56, 48, 56]⟩ : ByteArray) 4).bind fun t111 => (if t111 = true then ((odometerlaw01_fails.f (⟨#[43, 73, 110, 102]⟩ : ByteArray) 4).bind fun t112 => (if t112 = true then ((odometerlaw01_fails.f (⟨#[46]⟩ : ByteArray) 3).bind fun t113 => (if t113 = true then ((odometerlaw01_fails.f (⟨#[101, 53]⟩ : ByteArray) 3).bind fun t114 => (if t114 = true then ((odometerlaw01_fails.f (⟨#[49, 101]⟩ : ByteArray) 3).bind fun t115 => (if t115 = true then ((odometerlaw01_fails.f (⟨#[49, 95, 48]⟩ : ByteArray) 3).bind fun t116 => (if t116 = true then ((odometerlaw01_fails.f (⟨#[]⟩ : ByteArray) 3).bind fun t117 => (some t117)) else (some false))) else (some false))) else (some false))) else (some false))) else (some false))) else (some false))) else (some false))) else (some false)) = some r := H
          have A9 := Aside0.mk A90
          clear A90
          by_cases c10 : t109 = true
          · subst c10
            have H1 : ((odometerlaw01_fails.f (⟨#[49, 101, 45, 55]⟩ : ByteArray) 4).bind fun t110 => (if t110 = true then ((odometerlaw01_fails.f (⟨#[57, 50, 50, 51, 51, 55, 50, 48, 51, 54, 56, 53, 52, 46, 55, 55, 53, 56, 48, 56]⟩ : ByteArray) 4).bind fun t111 => (if t111 = true then ((odometerlaw01_fails.f (⟨#[43, 73, 110, 102]⟩ : ByteArray) 4).bind fun t112 => (if t112 = true then ((odometerlaw01_fails.f (⟨#[46]⟩ : ByteArray) 3).bind fun t113 => (if t113 = true then ((odometerlaw01_fails.f (⟨#[101, 53]⟩ : ByteArray) 3).bind fun t114 => (if t114 = true then ((odometerlaw01_fails.f (⟨#[49, 101]⟩ : ByteArray) 3).bind fun t115 => (if t115 = true then ((odometerlaw01_fails.f (⟨#[49, 95, 48]⟩ : ByteArray) 3).bind fun t116 => (if t116 = true then ((odometerlaw01_fails.f (⟨#[]⟩ : ByteArray) 3).bind fun t117 => (some t117)) else (some false))) else (some false))) else (some false))) else (some false))) else (some false))) else (some false))) else (some false))) = some r := by rw [if_pos rfl] at H; exact H
            clear H
            have H := H1
            clear H1
            replace H := Option.bind_eq_some_iff.mp H
            obtain ⟨t110, A110, H⟩ := H
            replace H : (if t110 = true then ((odometerlaw01_fails.f (⟨#[57, 50, 50, 51, 51, 55, 50, 48, 51, 54, 56, 53, 52, 46, 55, 55, 53, 56, 48, 56]⟩ : ByteArray) 4).bind fun t111 => (if t111 = true then ((odometerlaw01_fails.f (⟨#[43, 73, 110, 102]⟩ : ByteArray) 4).bind fun t112 => (if t112 = true then ((odometerlaw01_fails.f (⟨#[46]⟩ : ByteArray) 3).bind fun t113 => (if t113 = true then ((odometerlaw01_fails.f (⟨#[101, 53]⟩ : ByteArray) 3).bind fun t114 => (if t114 = true then ((odometerlaw01_fails.f (⟨#[49, 101]⟩ : ByteArray) 3).bind fun t115 => (if t115 = true then ((odometerlaw01_fails.f (⟨#[49, 95, 48]⟩ : ByteArray) 3).bind fun t116 => (if t116 = true then ((odometerlaw01_fails.f (⟨#[]⟩ : ByteArray) 3).bind fun t117 => (some t117)) else (some false))) else (some false))) else (some false))) else (some false))) else (some false))) else (some false))) else (some false)) = some r := H
            have A11 := Aside0.mk A110
            clear A110
            by_cases c12 : t110 = true
            · subst c12
              have H1 : ((odometerlaw01_fails.f (⟨#[57, 50, 50, 51, 51, 55, 50, 48, 51, 54, 56, 53, 52, 46, 55, 55, 53, 56, 48, 56]⟩ : ByteArray) 4).bind fun t111 => (if t111 = true then ((odometerlaw01_fails.f (⟨#[43, 73, 110, 102]⟩ : ByteArray) 4).bind fun t112 => (if t112 = true then ((odometerlaw01_fails.f (⟨#[46]⟩ : ByteArray) 3).bind fun t113 => (if t113 = true then ((odometerlaw01_fails.f (⟨#[101, 53]⟩ : ByteArray) 3).bind fun t114 => (if t114 = true then ((odometerlaw01_fails.f (⟨#[49, 101]⟩ : ByteArray) 3).bind fun t115 => (if t115 = true then ((odometerlaw01_fails.f (⟨#[49, 95, 48]⟩ : ByteArray) 3).bind fun t116 => (if t116 = true then ((odometerlaw01_fails.f (⟨#[]⟩ : ByteArray) 3).bind fun t117 => (some t117)) else (some false))) else (some false))) else (some false))) else (some false))) else (some false))) else (some false))) = some r := by rw [if_pos rfl] at H; exact H
              clear H
              have H := H1
              clear H1
              replace H := Option.bind_eq_some_iff.mp H
              obtain ⟨t111, A130, H⟩ := H
              replace H : (if t111 = true then ((odometerlaw01_fails.f (⟨#[43, 73, 110, 102]⟩ : ByteArray) 4).bind fun t112 => (if t112 = true then ((odometerlaw01_fails.f (⟨#[46]⟩ : ByteArray) 3).bind fun t113 => (if t113 = true then ((odometerlaw01_fails.f (⟨#[101, 53]⟩ : ByteArray) 3).bind fun t114 => (if t114 = true then ((odometerlaw01_fails.f (⟨#[49, 101]⟩ : ByteArray) 3).bind fun t115 => (if t115 = true then ((odometerlaw01_fails.f (⟨#[49, 95, 48]⟩ : ByteArray) 3).bind fun t116 => (if t116 = true then ((odometerlaw01_fails.f (⟨#[]⟩ : ByteArray) 3).bind fun t117 => (some t117)) else (some false))) else (some false))) else (some false))) else (some false))) else (some false))) else (some false)) = some r := H
              have A13 := Aside0.mk A130
              clear A130
              by_cases c14 : t111 = true
              · subst c14
                have H1 : ((odometerlaw01_fails.f (⟨#[43, 73, 110, 102]⟩ : ByteArray) 4).bind fun t112 => (if t112 = true then ((odometerlaw01_fails.f (⟨#[46]⟩ : ByteArray) 3).bind fun t113 => (if t113 = true then ((odometerlaw01_fails.f (⟨#[101, 53]⟩ : ByteArray) 3).bind fun t114 => (if t114 = true then ((odometerlaw01_fails.f (⟨#[49, 101]⟩ : ByteArray) 3).bind fun t115 => (if t115 = true then ((odometerlaw01_fails.f (⟨#[49, 95, 48]⟩ : ByteArray) 3).bind fun t116 => (if t116 = true then ((odometerlaw01_fails.f (⟨#[]⟩ : ByteArray) 3).bind fun t117 => (some t117)) else (some false))) else (some false))) else (some false))) else (some false))) else (some false))) = some r := by rw [if_pos rfl] at H; exact H
                clear H
                have H := H1
                clear H1
                replace H := Option.bind_eq_some_iff.mp H
                obtain ⟨t112, A150, H⟩ := H
                replace H : (if t112 = true then ((odometerlaw01_fails.f (⟨#[46]⟩ : ByteArray) 3).bind fun t113 => (if t113 = true then ((odometerlaw01_fails.f (⟨#[101, 53]⟩ : ByteArray) 3).bind fun t114 => (if t114 = true then ((odometerlaw01_fails.f (⟨#[49, 101]⟩ : ByteArray) 3).bind fun t115 => (if t115 = true then ((odometerlaw01_fails.f (⟨#[49, 95, 48]⟩ : ByteArray) 3).bind fun t116 => (if t116 = true then ((odometerlaw01_fails.f (⟨#[]⟩ : ByteArray) 3).bind fun t117 => (some t117)) else (some false))) else (some false))) else (some false))) else (some false))) else (some false)) = some r := H
                have A15 := Aside0.mk A150
                clear A150
                by_cases c16 : t112 = true
                · subst c16
                  have H1 : ((odometerlaw01_fails.f (⟨#[46]⟩ : ByteArray) 3).bind fun t113 => (if t113 = true then ((odometerlaw01_fails.f (⟨#[101, 53]⟩ : ByteArray) 3).bind fun t114 => (if t114 = true then ((odometerlaw01_fails.f (⟨#[49, 101]⟩ : ByteArray) 3).bind fun t115 => (if t115 = true then ((odometerlaw01_fails.f (⟨#[49, 95, 48]⟩ : ByteArray) 3).bind fun t116 => (if t116 = true then ((odometerlaw01_fails.f (⟨#[]⟩ : ByteArray) 3).bind fun t117 => (some t117)) else (some false))) else (some false))) else (some false))) else (some false))) = some r := by rw [if_pos rfl] at H; exact H
                  clear H
                  have H := H1
                  clear H1
                  replace H := Option.bind_eq_some_iff.mp H
                  obtain ⟨t113, A170, H⟩ := H
                  replace H : (if t113 = true then ((odometerlaw01_fails.f (⟨#[101, 53]⟩ : ByteArray) 3).bind fun t114 => (if t114 = true then ((odometerlaw01_fails.f (⟨#[49, 101]⟩ : ByteArray) 3).bind fun t115 => (if t115 = true then ((odometerlaw01_fails.f (⟨#[49, 95, 48]⟩ : ByteArray) 3).bind fun t116 => (if t116 = true then ((odometerlaw01_fails.f (⟨#[]⟩ : ByteArray) 3).bind fun t117 => (some t117)) else (some false))) else (some false))) else (some false))) else (some false)) = some r := H
                  have A17 := Aside0.mk A170
                  clear A170
                  by_cases c18 : t113 = true
                  · subst c18
                    have H1 : ((odometerlaw01_fails.f (⟨#[101, 53]⟩ : ByteArray) 3).bind fun t114 => (if t114 = true then ((odometerlaw01_fails.f (⟨#[49, 101]⟩ : ByteArray) 3).bind fun t115 => (if t115 = true then ((odometerlaw01_fails.f (⟨#[49, 95, 48]⟩ : ByteArray) 3).bind fun t116 => (if t116 = true then ((odometerlaw01_fails.f (⟨#[]⟩ : ByteArray) 3).bind fun t117 => (some t117)) else (some false))) else (some false))) else (some false))) = some r := by rw [if_pos rfl] at H; exact H
                    clear H
                    have H := H1
                    clear H1
                    replace H := Option.bind_eq_some_iff.mp H
                    obtain ⟨t114, A190, H⟩ := H
                    replace H : (if t114 = true then ((odometerlaw01_fails.f (⟨#[49, 101]⟩ : ByteArray) 3).bind fun t115 => (if t115 = true then ((odometerlaw01_fails.f (⟨#[49, 95, 48]⟩ : ByteArray) 3).bind fun t116 => (if t116 = true then ((odometerlaw01_fails.f (⟨#[]⟩ : ByteArray) 3).bind fun t117 => (some t117)) else (some false))) else (some false))) else (some false)) = some r := H
                    have A19 := Aside0.mk A190
                    clear A190
                    by_cases c20 : t114 = true
                    · subst c20
                      have H1 : ((odometerlaw01_fails.f (⟨#[49, 101]⟩ : ByteArray) 3).bind fun t115 => (if t115 = true then ((odometerlaw01_fails.f (⟨#[49, 95, 48]⟩ : ByteArray) 3).bind fun t116 => (if t116 = true then ((odometerlaw01_fails.f (⟨#[]⟩ : ByteArray) 3).bind fun t117 => (some t117)) else (some false))) else (some false))) = some r := by rw [if_pos rfl] at H; exact H
                      clear H
                      have H := H1
                      clear H1
                      replace H := Option.bind_eq_some_iff.mp H
                      obtain ⟨t115, A210, H⟩ := H
                      replace H : (if t115 = true then ((odometerlaw01_fails.f (⟨#[49, 95, 48]⟩ : ByteArray) 3).bind fun t116 => (if t116 = true then ((odometerlaw01_fails.f (⟨#[]⟩ : ByteArray) 3).bind fun t117 => (some t117)) else (some false))) else (some false)) = some r := H
                      have A21 := Aside0.mk A210
                      clear A210
                      by_cases c22 : t115 = true
                      · subst c22
                        have H1 : ((odometerlaw01_fails.f (⟨#[49, 95, 48]⟩ : ByteArray) 3).bind fun t116 => (if t116 = true then ((odometerlaw01_fails.f (⟨#[]⟩ : ByteArray) 3).bind fun t117 => (some t117)) else (some false))) = some r := by rw [if_pos rfl] at H; exact H
                        clear H
                        have H := H1
                        clear H1
                        replace H := Option.bind_eq_some_iff.mp H
                        obtain ⟨t116, A230, H⟩ := H
                        replace H : (if t116 = true then ((odometerlaw01_fails.f (⟨#[]⟩ : ByteArray) 3).bind fun t117 => (some t117)) else (some false)) = some r := H
                        have A23 := Aside0.mk A230
                        clear A230
                        by_cases c24 : t116 = true
                        · subst c24
                          have H1 : ((odometerlaw01_fails.f (⟨#[]⟩ : ByteArray) 3).bind fun t117 => (some t117)) = some r := by rw [if_pos rfl] at H; exact H
                          clear H
                          have H := H1
                          clear H1
                          replace H := Option.bind_eq_some_iff.mp H
                          obtain ⟨t117, A250, H⟩ := H
                          replace H : (some t117) = some r := H
                          have A25 := Aside0.mk A250
                          clear A250
                          obtain rfl := Option.some.inj H
                          go_enter Tryd.func7, Tryd.ntmps7
                          go_wp2_with (first | ((with_reducible refine gate_callee (f := 16) rfl ?_); refine goesL_ (some 1) rfl rfl Tryd.func16 (by kernel_rfl) rfl #[.string (⟨#[49, 101, 51]⟩ : ByteArray), .int .i64 1000000000] rfl (by (try simp only [List.map_toArray, List.map_cons, List.map_nil]); first | done | rfl | (simp only [List.length_drop, List.length_take]; rfl)) ?_; (with_reducible refine (odometerlaw01_reads.calls (⟨#[49, 101, 51]⟩ : ByteArray) 1000000000 true _ A1.out).mono ?_); rintro e w26 ⟨rfl, hb⟩; refine ⟨_, rfl, ?_⟩; have n0_ := Aside0.mk (below_step (by repeat (first | (with_reducible first | exact HB.out | apply below_alloc | apply pw_below_drewN | apply below_drew1) | exact HB.out)) hb); clear HB; have HB := n0_; clear n0_; (try clear hb); (try clear hb2); (try clear hk); (try clear hi)) | (go_at_call 16; (with_reducible refine (odometerlaw01_reads.calls (⟨#[46, 53]⟩ : ByteArray) 500000 true _ A3.out).mono ?_); rintro e w27 ⟨rfl, hb⟩; have n0_ := Aside0.mk (below_step (by repeat (first | (with_reducible first | exact HB.out | apply below_alloc | apply pw_below_drewN | apply below_drew1) | exact HB.out)) hb); clear HB; have HB := n0_; clear n0_; (try clear hb); (try clear hb2); (try clear hk); (try clear hi)) | (go_at_call 16; (with_reducible refine (odometerlaw01_reads.calls (⟨#[45, 48, 46, 48, 48, 48, 48, 48, 49]⟩ : ByteArray) (-1) true _ A5.out).mono ?_); rintro e w28 ⟨rfl, hb⟩; have n0_ := Aside0.mk (below_step (by repeat (first | (with_reducible first | exact HB.out | apply below_alloc | apply pw_below_drewN | apply below_drew1) | exact HB.out)) hb); clear HB; have HB := n0_; clear n0_; (try clear hb); (try clear hb2); (try clear hk); (try clear hi)) | (go_at_call 16; (with_reducible refine (odometerlaw01_reads.calls (⟨#[50, 53, 101, 45, 54]⟩ : ByteArray) 25 true _ A7.out).mono ?_); rintro e w29 ⟨rfl, hb⟩; have n0_ := Aside0.mk (below_step (by repeat (first | (with_reducible first | exact HB.out | apply below_alloc | apply pw_below_drewN | apply below_drew1) | exact HB.out)) hb); clear HB; have HB := n0_; clear n0_; (try clear hb); (try clear hb2); (try clear hk); (try clear hi)) | (go_at_call 16; (with_reducible refine (odometerlaw01_reads.calls (⟨#[48, 101, 57, 57]⟩ : ByteArray) 0 true _ A9.out).mono ?_); rintro e w30 ⟨rfl, hb⟩; have n0_ := Aside0.mk (below_step (by repeat (first | (with_reducible first | exact HB.out | apply below_alloc | apply pw_below_drewN | apply below_drew1) | exact HB.out)) hb); clear HB; have HB := n0_; clear n0_; (try clear hb); (try clear hb2); (try clear hk); (try clear hi)) | (go_at_call 19; (with_reducible refine (odometerlaw01_fails.calls (⟨#[49, 101, 45, 55]⟩ : ByteArray) 4 true _ A11.out).mono ?_); rintro e w31 ⟨rfl, hb⟩; have n0_ := Aside0.mk (below_step (by repeat (first | (with_reducible first | exact HB.out | apply below_alloc | apply pw_below_drewN | apply below_drew1) | exact HB.out)) hb); clear HB; have HB := n0_; clear n0_; (try clear hb); (try clear hb2); (try clear hk); (try clear hi)) | (go_at_call 19; (with_reducible refine (odometerlaw01_fails.calls (⟨#[57, 50, 50, 51, 51, 55, 50, 48, 51, 54, 56, 53, 52, 46, 55, 55, 53, 56, 48, 56]⟩ : ByteArray) 4 true _ A13.out).mono ?_); rintro e w32 ⟨rfl, hb⟩; have n0_ := Aside0.mk (below_step (by repeat (first | (with_reducible first | exact HB.out | apply below_alloc | apply pw_below_drewN | apply below_drew1) | exact HB.out)) hb); clear HB; have HB := n0_; clear n0_; (try clear hb); (try clear hb2); (try clear hk); (try clear hi)) | (go_at_call 19; (with_reducible refine (odometerlaw01_fails.calls (⟨#[43, 73, 110, 102]⟩ : ByteArray) 4 true _ A15.out).mono ?_); rintro e w33 ⟨rfl, hb⟩; have n0_ := Aside0.mk (below_step (by repeat (first | (with_reducible first | exact HB.out | apply below_alloc | apply pw_below_drewN | apply below_drew1) | exact HB.out)) hb); clear HB; have HB := n0_; clear n0_; (try clear hb); (try clear hb2); (try clear hk); (try clear hi)) | (go_at_call 19; (with_reducible refine (odometerlaw01_fails.calls (⟨#[46]⟩ : ByteArray) 3 true _ A17.out).mono ?_); rintro e w34 ⟨rfl, hb⟩; have n0_ := Aside0.mk (below_step (by repeat (first | (with_reducible first | exact HB.out | apply below_alloc | apply pw_below_drewN | apply below_drew1) | exact HB.out)) hb); clear HB; have HB := n0_; clear n0_; (try clear hb); (try clear hb2); (try clear hk); (try clear hi)) | (go_at_call 19; (with_reducible refine (odometerlaw01_fails.calls (⟨#[101, 53]⟩ : ByteArray) 3 true _ A19.out).mono ?_); rintro e w35 ⟨rfl, hb⟩; have n0_ := Aside0.mk (below_step (by repeat (first | (with_reducible first | exact HB.out | apply below_alloc | apply pw_below_drewN | apply below_drew1) | exact HB.out)) hb); clear HB; have HB := n0_; clear n0_; (try clear hb); (try clear hb2); (try clear hk); (try clear hi)) | (go_at_call 19; (with_reducible refine (odometerlaw01_fails.calls (⟨#[49, 101]⟩ : ByteArray) 3 true _ A21.out).mono ?_); rintro e w36 ⟨rfl, hb⟩; have n0_ := Aside0.mk (below_step (by repeat (first | (with_reducible first | exact HB.out | apply below_alloc | apply pw_below_drewN | apply below_drew1) | exact HB.out)) hb); clear HB; have HB := n0_; clear n0_; (try clear hb); (try clear hb2); (try clear hk); (try clear hi)) | (go_at_call 19; (with_reducible refine (odometerlaw01_fails.calls (⟨#[49, 95, 48]⟩ : ByteArray) 3 true _ A23.out).mono ?_); rintro e w37 ⟨rfl, hb⟩; have n0_ := Aside0.mk (below_step (by repeat (first | (with_reducible first | exact HB.out | apply below_alloc | apply pw_below_drewN | apply below_drew1) | exact HB.out)) hb); clear HB; have HB := n0_; clear n0_; (try clear hb); (try clear hb2); (try clear hk); (try clear hi)) | (go_at_call 19; (with_reducible refine (odometerlaw01_fails.calls (⟨#[]⟩ : ByteArray) 3 t117 _ A25.out).mono ?_); rintro e w38 ⟨rfl, hb⟩; have n0_ := Aside0.mk (below_step (by repeat (first | (with_reducible first | exact HB.out | apply below_alloc | apply pw_below_drewN | apply below_drew1) | exact HB.out)) hb); clear HB; have HB := n0_; clear n0_; (try clear hb); (try clear hb2); (try clear hk); (try clear hi)))
                          go_ret
                          exact ⟨by first | rfl | (simp [errW_none, errW_some] <;> rfl) | (simp [*, errW_none, errW_some] <;> rfl), by repeat (first | (with_reducible first | exact HB.out | apply below_alloc | apply pw_below_drewN | apply below_drew1) | exact HB.out)⟩
                        · replace c24 := Bool.eq_false_iff.mpr c24
                          subst c24
                          have H1 : (some false) = some r := by rw [if_neg (show ¬ (false = true) by decide)] at H; exact H
                          clear H
                          have H := H1
                          clear H1
                          obtain rfl := Option.some.inj H
                          go_enter Tryd.func7, Tryd.ntmps7
                          go_wp2_with (first | ((with_reducible refine gate_callee (f := 16) rfl ?_); refine goesL_ (some 1) rfl rfl Tryd.func16 (by kernel_rfl) rfl #[.string (⟨#[49, 101, 51]⟩ : ByteArray), .int .i64 1000000000] rfl (by (try simp only [List.map_toArray, List.map_cons, List.map_nil]); first | done | rfl | (simp only [List.length_drop, List.length_take]; rfl)) ?_; (with_reducible refine (odometerlaw01_reads.calls (⟨#[49, 101, 51]⟩ : ByteArray) 1000000000 true _ A1.out).mono ?_); rintro e w39 ⟨rfl, hb⟩; refine ⟨_, rfl, ?_⟩; have n0_ := Aside0.mk (below_step (by repeat (first | (with_reducible first | exact HB.out | apply below_alloc | apply pw_below_drewN | apply below_drew1) | exact HB.out)) hb); clear HB; have HB := n0_; clear n0_; (try clear hb); (try clear hb2); (try clear hk); (try clear hi)) | (go_at_call 16; (with_reducible refine (odometerlaw01_reads.calls (⟨#[46, 53]⟩ : ByteArray) 500000 true _ A3.out).mono ?_); rintro e w40 ⟨rfl, hb⟩; have n0_ := Aside0.mk (below_step (by repeat (first | (with_reducible first | exact HB.out | apply below_alloc | apply pw_below_drewN | apply below_drew1) | exact HB.out)) hb); clear HB; have HB := n0_; clear n0_; (try clear hb); (try clear hb2); (try clear hk); (try clear hi)) | (go_at_call 16; (with_reducible refine (odometerlaw01_reads.calls (⟨#[45, 48, 46, 48, 48, 48, 48, 48, 49]⟩ : ByteArray) (-1) true _ A5.out).mono ?_); rintro e w41 ⟨rfl, hb⟩; have n0_ := Aside0.mk (below_step (by repeat (first | (with_reducible first | exact HB.out | apply below_alloc | apply pw_below_drewN | apply below_drew1) | exact HB.out)) hb); clear HB; have HB := n0_; clear n0_; (try clear hb); (try clear hb2); (try clear hk); (try clear hi)) | (go_at_call 16; (with_reducible refine (odometerlaw01_reads.calls (⟨#[50, 53, 101, 45, 54]⟩ : ByteArray) 25 true _ A7.out).mono ?_); rintro e w42 ⟨rfl, hb⟩; have n0_ := Aside0.mk (below_step (by repeat (first | (with_reducible first | exact HB.out | apply below_alloc | apply pw_below_drewN | apply below_drew1) | exact HB.out)) hb); clear HB; have HB := n0_; clear n0_; (try clear hb); (try clear hb2); (try clear hk); (try clear hi)) | (go_at_call 16; (with_reducible refine (odometerlaw01_reads.calls (⟨#[48, 101, 57, 57]⟩ : ByteArray) 0 true _ A9.out).mono ?_); rintro e w43 ⟨rfl, hb⟩; have n0_ := Aside0.mk (below_step (by repeat (first | (with_reducible first | exact HB.out | apply below_alloc | apply pw_below_drewN | apply below_drew1) | exact HB.out)) hb); clear HB; have HB := n0_; clear n0_; (try clear hb); (try clear hb2); (try clear hk); (try clear hi)) | (go_at_call 19; (with_reducible refine (odometerlaw01_fails.calls (⟨#[49, 101, 45, 55]⟩ : ByteArray) 4 true _ A11.out).mono ?_); rintro e w44 ⟨rfl, hb⟩; have n0_ := Aside0.mk (below_step (by repeat (first | (with_reducible first | exact HB.out | apply below_alloc | apply pw_below_drewN | apply below_drew1) | exact HB.out)) hb); clear HB; have HB := n0_; clear n0_; (try clear hb); (try clear hb2); (try clear hk); (try clear hi)) | (go_at_call 19; (with_reducible refine (odometerlaw01_fails.calls (⟨#[57, 50, 50, 51, 51, 55, 50, 48, 51, 54, 56, 53, 52, 46, 55, 55, 53, 56, 48, 56]⟩ : ByteArray) 4 true _ A13.out).mono ?_); rintro e w45 ⟨rfl, hb⟩; have n0_ := Aside0.mk (below_step (by repeat (first | (with_reducible first | exact HB.out | apply below_alloc | apply pw_below_drewN | apply below_drew1) | exact HB.out)) hb); clear HB; have HB := n0_; clear n0_; (try clear hb); (try clear hb2); (try clear hk); (try clear hi)) | (go_at_call 19; (with_reducible refine (odometerlaw01_fails.calls (⟨#[43, 73, 110, 102]⟩ : ByteArray) 4 true _ A15.out).mono ?_); rintro e w46 ⟨rfl, hb⟩; have n0_ := Aside0.mk (below_step (by repeat (first | (with_reducible first | exact HB.out | apply below_alloc | apply pw_below_drewN | apply below_drew1) | exact HB.out)) hb); clear HB; have HB := n0_; clear n0_; (try clear hb); (try clear hb2); (try clear hk); (try clear hi)) | (go_at_call 19; (with_reducible refine (odometerlaw01_fails.calls (⟨#[46]⟩ : ByteArray) 3 true _ A17.out).mono ?_); rintro e w47 ⟨rfl, hb⟩; have n0_ := Aside0.mk (below_step (by repeat (first | (with_reducible first | exact HB.out | apply below_alloc | apply pw_below_drewN | apply below_drew1) | exact HB.out)) hb); clear HB; have HB := n0_; clear n0_; (try clear hb); (try clear hb2); (try clear hk); (try clear hi)) | (go_at_call 19; (with_reducible refine (odometerlaw01_fails.calls (⟨#[101, 53]⟩ : ByteArray) 3 true _ A19.out).mono ?_); rintro e w48 ⟨rfl, hb⟩; have n0_ := Aside0.mk (below_step (by repeat (first | (with_reducible first | exact HB.out | apply below_alloc | apply pw_below_drewN | apply below_drew1) | exact HB.out)) hb); clear HB; have HB := n0_; clear n0_; (try clear hb); (try clear hb2); (try clear hk); (try clear hi)) | (go_at_call 19; (with_reducible refine (odometerlaw01_fails.calls (⟨#[49, 101]⟩ : ByteArray) 3 true _ A21.out).mono ?_); rintro e w49 ⟨rfl, hb⟩; have n0_ := Aside0.mk (below_step (by repeat (first | (with_reducible first | exact HB.out | apply below_alloc | apply pw_below_drewN | apply below_drew1) | exact HB.out)) hb); clear HB; have HB := n0_; clear n0_; (try clear hb); (try clear hb2); (try clear hk); (try clear hi)) | (go_at_call 19; (with_reducible refine (odometerlaw01_fails.calls (⟨#[49, 95, 48]⟩ : ByteArray) 3 false _ A23.out).mono ?_); rintro e w50 ⟨rfl, hb⟩; have n0_ := Aside0.mk (below_step (by repeat (first | (with_reducible first | exact HB.out | apply below_alloc | apply pw_below_drewN | apply below_drew1) | exact HB.out)) hb); clear HB; have HB := n0_; clear n0_; (try clear hb); (try clear hb2); (try clear hk); (try clear hi)))
                          go_ret
                          exact ⟨by first | rfl | (simp [errW_none, errW_some] <;> rfl) | (simp [*, errW_none, errW_some] <;> rfl), by repeat (first | (with_reducible first | exact HB.out | apply below_alloc | apply pw_below_drewN | apply below_drew1) | exact HB.out)⟩
                      · replace c22 := Bool.eq_false_iff.mpr c22
                        subst c22
                        have H1 : (some false) = some r := by rw [if_neg (show ¬ (false = true) by decide)] at H; exact H
                        clear H
                        have H := H1
                        clear H1
                        obtain rfl := Option.some.inj H
                        go_enter Tryd.func7, Tryd.ntmps7
                        go_wp2_with (first | ((with_reducible refine gate_callee (f := 16) rfl ?_); refine goesL_ (some 1) rfl rfl Tryd.func16 (by kernel_rfl) rfl #[.string (⟨#[49, 101, 51]⟩ : ByteArray), .int .i64 1000000000] rfl (by (try simp only [List.map_toArray, List.map_cons, List.map_nil]); first | done | rfl | (simp only [List.length_drop, List.length_take]; rfl)) ?_; (with_reducible refine (odometerlaw01_reads.calls (⟨#[49, 101, 51]⟩ : ByteArray) 1000000000 true _ A1.out).mono ?_); rintro e w51 ⟨rfl, hb⟩; refine ⟨_, rfl, ?_⟩; have n0_ := Aside0.mk (below_step (by repeat (first | (with_reducible first | exact HB.out | apply below_alloc | apply pw_below_drewN | apply below_drew1) | exact HB.out)) hb); clear HB; have HB := n0_; clear n0_; (try clear hb); (try clear hb2); (try clear hk); (try clear hi)) | (go_at_call 16; (with_reducible refine (odometerlaw01_reads.calls (⟨#[46, 53]⟩ : ByteArray) 500000 true _ A3.out).mono ?_); rintro e w52 ⟨rfl, hb⟩; have n0_ := Aside0.mk (below_step (by repeat (first | (with_reducible first | exact HB.out | apply below_alloc | apply pw_below_drewN | apply below_drew1) | exact HB.out)) hb); clear HB; have HB := n0_; clear n0_; (try clear hb); (try clear hb2); (try clear hk); (try clear hi)) | (go_at_call 16; (with_reducible refine (odometerlaw01_reads.calls (⟨#[45, 48, 46, 48, 48, 48, 48, 48, 49]⟩ : ByteArray) (-1) true _ A5.out).mono ?_); rintro e w53 ⟨rfl, hb⟩; have n0_ := Aside0.mk (below_step (by repeat (first | (with_reducible first | exact HB.out | apply below_alloc | apply pw_below_drewN | apply below_drew1) | exact HB.out)) hb); clear HB; have HB := n0_; clear n0_; (try clear hb); (try clear hb2); (try clear hk); (try clear hi)) | (go_at_call 16; (with_reducible refine (odometerlaw01_reads.calls (⟨#[50, 53, 101, 45, 54]⟩ : ByteArray) 25 true _ A7.out).mono ?_); rintro e w54 ⟨rfl, hb⟩; have n0_ := Aside0.mk (below_step (by repeat (first | (with_reducible first | exact HB.out | apply below_alloc | apply pw_below_drewN | apply below_drew1) | exact HB.out)) hb); clear HB; have HB := n0_; clear n0_; (try clear hb); (try clear hb2); (try clear hk); (try clear hi)) | (go_at_call 16; (with_reducible refine (odometerlaw01_reads.calls (⟨#[48, 101, 57, 57]⟩ : ByteArray) 0 true _ A9.out).mono ?_); rintro e w55 ⟨rfl, hb⟩; have n0_ := Aside0.mk (below_step (by repeat (first | (with_reducible first | exact HB.out | apply below_alloc | apply pw_below_drewN | apply below_drew1) | exact HB.out)) hb); clear HB; have HB := n0_; clear n0_; (try clear hb); (try clear hb2); (try clear hk); (try clear hi)) | (go_at_call 19; (with_reducible refine (odometerlaw01_fails.calls (⟨#[49, 101, 45, 55]⟩ : ByteArray) 4 true _ A11.out).mono ?_); rintro e w56 ⟨rfl, hb⟩; have n0_ := Aside0.mk (below_step (by repeat (first | (with_reducible first | exact HB.out | apply below_alloc | apply pw_below_drewN | apply below_drew1) | exact HB.out)) hb); clear HB; have HB := n0_; clear n0_; (try clear hb); (try clear hb2); (try clear hk); (try clear hi)) | (go_at_call 19; (with_reducible refine (odometerlaw01_fails.calls (⟨#[57, 50, 50, 51, 51, 55, 50, 48, 51, 54, 56, 53, 52, 46, 55, 55, 53, 56, 48, 56]⟩ : ByteArray) 4 true _ A13.out).mono ?_); rintro e w57 ⟨rfl, hb⟩; have n0_ := Aside0.mk (below_step (by repeat (first | (with_reducible first | exact HB.out | apply below_alloc | apply pw_below_drewN | apply below_drew1) | exact HB.out)) hb); clear HB; have HB := n0_; clear n0_; (try clear hb); (try clear hb2); (try clear hk); (try clear hi)) | (go_at_call 19; (with_reducible refine (odometerlaw01_fails.calls (⟨#[43, 73, 110, 102]⟩ : ByteArray) 4 true _ A15.out).mono ?_); rintro e w58 ⟨rfl, hb⟩; have n0_ := Aside0.mk (below_step (by repeat (first | (with_reducible first | exact HB.out | apply below_alloc | apply pw_below_drewN | apply below_drew1) | exact HB.out)) hb); clear HB; have HB := n0_; clear n0_; (try clear hb); (try clear hb2); (try clear hk); (try clear hi)) | (go_at_call 19; (with_reducible refine (odometerlaw01_fails.calls (⟨#[46]⟩ : ByteArray) 3 true _ A17.out).mono ?_); rintro e w59 ⟨rfl, hb⟩; have n0_ := Aside0.mk (below_step (by repeat (first | (with_reducible first | exact HB.out | apply below_alloc | apply pw_below_drewN | apply below_drew1) | exact HB.out)) hb); clear HB; have HB := n0_; clear n0_; (try clear hb); (try clear hb2); (try clear hk); (try clear hi)) | (go_at_call 19; (with_reducible refine (odometerlaw01_fails.calls (⟨#[101, 53]⟩ : ByteArray) 3 true _ A19.out).mono ?_); rintro e w60 ⟨rfl, hb⟩; have n0_ := Aside0.mk (below_step (by repeat (first | (with_reducible first | exact HB.out | apply below_alloc | apply pw_below_drewN | apply below_drew1) | exact HB.out)) hb); clear HB; have HB := n0_; clear n0_; (try clear hb); (try clear hb2); (try clear hk); (try clear hi)) | (go_at_call 19; (with_reducible refine (odometerlaw01_fails.calls (⟨#[49, 101]⟩ : ByteArray) 3 false _ A21.out).mono ?_); rintro e w61 ⟨rfl, hb⟩; have n0_ := Aside0.mk (below_step (by repeat (first | (with_reducible first | exact HB.out | apply below_alloc | apply pw_below_drewN | apply below_drew1) | exact HB.out)) hb); clear HB; have HB := n0_; clear n0_; (try clear hb); (try clear hb2); (try clear hk); (try clear hi)))
                        go_ret
                        exact ⟨by first | rfl | (simp [errW_none, errW_some] <;> rfl) | (simp [*, errW_none, errW_some] <;> rfl), by repeat (first | (with_reducible first | exact HB.out | apply below_alloc | apply pw_below_drewN | apply below_drew1) | exact HB.out)⟩
                    · replace c20 := Bool.eq_false_iff.mpr c20
                      subst c20
                      have H1 : (some false) = some r := by rw [if_neg (show ¬ (false = true) by decide)] at H; exact H
                      clear H
                      have H := H1
                      clear H1
                      obtain rfl := Option.some.inj H
                      go_enter Tryd.func7, Tryd.ntmps7
                      go_wp2_with (first | ((with_reducible refine gate_callee (f := 16) rfl ?_); refine goesL_ (some 1) rfl rfl Tryd.func16 (by kernel_rfl) rfl #[.string (⟨#[49, 101, 51]⟩ : ByteArray), .int .i64 1000000000] rfl (by (try simp only [List.map_toArray, List.map_cons, List.map_nil]); first | done | rfl | (simp only [List.length_drop, List.length_take]; rfl)) ?_; (with_reducible refine (odometerlaw01_reads.calls (⟨#[49, 101, 51]⟩ : ByteArray) 1000000000 true _ A1.out).mono ?_); rintro e w62 ⟨rfl, hb⟩; refine ⟨_, rfl, ?_⟩; have n0_ := Aside0.mk (below_step (by repeat (first | (with_reducible first | exact HB.out | apply below_alloc | apply pw_below_drewN | apply below_drew1) | exact HB.out)) hb); clear HB; have HB := n0_; clear n0_; (try clear hb); (try clear hb2); (try clear hk); (try clear hi)) | (go_at_call 16; (with_reducible refine (odometerlaw01_reads.calls (⟨#[46, 53]⟩ : ByteArray) 500000 true _ A3.out).mono ?_); rintro e w63 ⟨rfl, hb⟩; have n0_ := Aside0.mk (below_step (by repeat (first | (with_reducible first | exact HB.out | apply below_alloc | apply pw_below_drewN | apply below_drew1) | exact HB.out)) hb); clear HB; have HB := n0_; clear n0_; (try clear hb); (try clear hb2); (try clear hk); (try clear hi)) | (go_at_call 16; (with_reducible refine (odometerlaw01_reads.calls (⟨#[45, 48, 46, 48, 48, 48, 48, 48, 49]⟩ : ByteArray) (-1) true _ A5.out).mono ?_); rintro e w64 ⟨rfl, hb⟩; have n0_ := Aside0.mk (below_step (by repeat (first | (with_reducible first | exact HB.out | apply below_alloc | apply pw_below_drewN | apply below_drew1) | exact HB.out)) hb); clear HB; have HB := n0_; clear n0_; (try clear hb); (try clear hb2); (try clear hk); (try clear hi)) | (go_at_call 16; (with_reducible refine (odometerlaw01_reads.calls (⟨#[50, 53, 101, 45, 54]⟩ : ByteArray) 25 true _ A7.out).mono ?_); rintro e w65 ⟨rfl, hb⟩; have n0_ := Aside0.mk (below_step (by repeat (first | (with_reducible first | exact HB.out | apply below_alloc | apply pw_below_drewN | apply below_drew1) | exact HB.out)) hb); clear HB; have HB := n0_; clear n0_; (try clear hb); (try clear hb2); (try clear hk); (try clear hi)) | (go_at_call 16; (with_reducible refine (odometerlaw01_reads.calls (⟨#[48, 101, 57, 57]⟩ : ByteArray) 0 true _ A9.out).mono ?_); rintro e w66 ⟨rfl, hb⟩; have n0_ := Aside0.mk (below_step (by repeat (first | (with_reducible first | exact HB.out | apply below_alloc | apply pw_below_drewN | apply below_drew1) | exact HB.out)) hb); clear HB; have HB := n0_; clear n0_; (try clear hb); (try clear hb2); (try clear hk); (try clear hi)) | (go_at_call 19; (with_reducible refine (odometerlaw01_fails.calls (⟨#[49, 101, 45, 55]⟩ : ByteArray) 4 true _ A11.out).mono ?_); rintro e w67 ⟨rfl, hb⟩; have n0_ := Aside0.mk (below_step (by repeat (first | (with_reducible first | exact HB.out | apply below_alloc | apply pw_below_drewN | apply below_drew1) | exact HB.out)) hb); clear HB; have HB := n0_; clear n0_; (try clear hb); (try clear hb2); (try clear hk); (try clear hi)) | (go_at_call 19; (with_reducible refine (odometerlaw01_fails.calls (⟨#[57, 50, 50, 51, 51, 55, 50, 48, 51, 54, 56, 53, 52, 46, 55, 55, 53, 56, 48, 56]⟩ : ByteArray) 4 true _ A13.out).mono ?_); rintro e w68 ⟨rfl, hb⟩; have n0_ := Aside0.mk (below_step (by repeat (first | (with_reducible first | exact HB.out | apply below_alloc | apply pw_below_drewN | apply below_drew1) | exact HB.out)) hb); clear HB; have HB := n0_; clear n0_; (try clear hb); (try clear hb2); (try clear hk); (try clear hi)) | (go_at_call 19; (with_reducible refine (odometerlaw01_fails.calls (⟨#[43, 73, 110, 102]⟩ : ByteArray) 4 true _ A15.out).mono ?_); rintro e w69 ⟨rfl, hb⟩; have n0_ := Aside0.mk (below_step (by repeat (first | (with_reducible first | exact HB.out | apply below_alloc | apply pw_below_drewN | apply below_drew1) | exact HB.out)) hb); clear HB; have HB := n0_; clear n0_; (try clear hb); (try clear hb2); (try clear hk); (try clear hi)) | (go_at_call 19; (with_reducible refine (odometerlaw01_fails.calls (⟨#[46]⟩ : ByteArray) 3 true _ A17.out).mono ?_); rintro e w70 ⟨rfl, hb⟩; have n0_ := Aside0.mk (below_step (by repeat (first | (with_reducible first | exact HB.out | apply below_alloc | apply pw_below_drewN | apply below_drew1) | exact HB.out)) hb); clear HB; have HB := n0_; clear n0_; (try clear hb); (try clear hb2); (try clear hk); (try clear hi)) | (go_at_call 19; (with_reducible refine (odometerlaw01_fails.calls (⟨#[101, 53]⟩ : ByteArray) 3 false _ A19.out).mono ?_); rintro e w71 ⟨rfl, hb⟩; have n0_ := Aside0.mk (below_step (by repeat (first | (with_reducible first | exact HB.out | apply below_alloc | apply pw_below_drewN | apply below_drew1) | exact HB.out)) hb); clear HB; have HB := n0_; clear n0_; (try clear hb); (try clear hb2); (try clear hk); (try clear hi)))
                      go_ret
                      exact ⟨by first | rfl | (simp [errW_none, errW_some] <;> rfl) | (simp [*, errW_none, errW_some] <;> rfl), by repeat (first | (with_reducible first | exact HB.out | apply below_alloc | apply pw_below_drewN | apply below_drew1) | exact HB.out)⟩
                  · replace c18 := Bool.eq_false_iff.mpr c18
                    subst c18
                    have H1 : (some false) = some r := by rw [if_neg (show ¬ (false = true) by decide)] at H; exact H
                    clear H
                    have H := H1
                    clear H1
                    obtain rfl := Option.some.inj H
                    go_enter Tryd.func7, Tryd.ntmps7
                    go_wp2_with (first | ((with_reducible refine gate_callee (f := 16) rfl ?_); refine goesL_ (some 1) rfl rfl Tryd.func16 (by kernel_rfl) rfl #[.string (⟨#[49, 101, 51]⟩ : ByteArray), .int .i64 1000000000] rfl (by (try simp only [List.map_toArray, List.map_cons, List.map_nil]); first | done | rfl | (simp only [List.length_drop, List.length_take]; rfl)) ?_; (with_reducible refine (odometerlaw01_reads.calls (⟨#[49, 101, 51]⟩ : ByteArray) 1000000000 true _ A1.out).mono ?_); rintro e w72 ⟨rfl, hb⟩; refine ⟨_, rfl, ?_⟩; have n0_ := Aside0.mk (below_step (by repeat (first | (with_reducible first | exact HB.out | apply below_alloc | apply pw_below_drewN | apply below_drew1) | exact HB.out)) hb); clear HB; have HB := n0_; clear n0_; (try clear hb); (try clear hb2); (try clear hk); (try clear hi)) | (go_at_call 16; (with_reducible refine (odometerlaw01_reads.calls (⟨#[46, 53]⟩ : ByteArray) 500000 true _ A3.out).mono ?_); rintro e w73 ⟨rfl, hb⟩; have n0_ := Aside0.mk (below_step (by repeat (first | (with_reducible first | exact HB.out | apply below_alloc | apply pw_below_drewN | apply below_drew1) | exact HB.out)) hb); clear HB; have HB := n0_; clear n0_; (try clear hb); (try clear hb2); (try clear hk); (try clear hi)) | (go_at_call 16; (with_reducible refine (odometerlaw01_reads.calls (⟨#[45, 48, 46, 48, 48, 48, 48, 48, 49]⟩ : ByteArray) (-1) true _ A5.out).mono ?_); rintro e w74 ⟨rfl, hb⟩; have n0_ := Aside0.mk (below_step (by repeat (first | (with_reducible first | exact HB.out | apply below_alloc | apply pw_below_drewN | apply below_drew1) | exact HB.out)) hb); clear HB; have HB := n0_; clear n0_; (try clear hb); (try clear hb2); (try clear hk); (try clear hi)) | (go_at_call 16; (with_reducible refine (odometerlaw01_reads.calls (⟨#[50, 53, 101, 45, 54]⟩ : ByteArray) 25 true _ A7.out).mono ?_); rintro e w75 ⟨rfl, hb⟩; have n0_ := Aside0.mk (below_step (by repeat (first | (with_reducible first | exact HB.out | apply below_alloc | apply pw_below_drewN | apply below_drew1) | exact HB.out)) hb); clear HB; have HB := n0_; clear n0_; (try clear hb); (try clear hb2); (try clear hk); (try clear hi)) | (go_at_call 16; (with_reducible refine (odometerlaw01_reads.calls (⟨#[48, 101, 57, 57]⟩ : ByteArray) 0 true _ A9.out).mono ?_); rintro e w76 ⟨rfl, hb⟩; have n0_ := Aside0.mk (below_step (by repeat (first | (with_reducible first | exact HB.out | apply below_alloc | apply pw_below_drewN | apply below_drew1) | exact HB.out)) hb); clear HB; have HB := n0_; clear n0_; (try clear hb); (try clear hb2); (try clear hk); (try clear hi)) | (go_at_call 19; (with_reducible refine (odometerlaw01_fails.calls (⟨#[49, 101, 45, 55]⟩ : ByteArray) 4 true _ A11.out).mono ?_); rintro e w77 ⟨rfl, hb⟩; have n0_ := Aside0.mk (below_step (by repeat (first | (with_reducible first | exact HB.out | apply below_alloc | apply pw_below_drewN | apply below_drew1) | exact HB.out)) hb); clear HB; have HB := n0_; clear n0_; (try clear hb); (try clear hb2); (try clear hk); (try clear hi)) | (go_at_call 19; (with_reducible refine (odometerlaw01_fails.calls (⟨#[57, 50, 50, 51, 51, 55, 50, 48, 51, 54, 56, 53, 52, 46, 55, 55, 53, 56, 48, 56]⟩ : ByteArray) 4 true _ A13.out).mono ?_); rintro e w78 ⟨rfl, hb⟩; have n0_ := Aside0.mk (below_step (by repeat (first | (with_reducible first | exact HB.out | apply below_alloc | apply pw_below_drewN | apply below_drew1) | exact HB.out)) hb); clear HB; have HB := n0_; clear n0_; (try clear hb); (try clear hb2); (try clear hk); (try clear hi)) | (go_at_call 19; (with_reducible refine (odometerlaw01_fails.calls (⟨#[43, 73, 110, 102]⟩ : ByteArray) 4 true _ A15.out).mono ?_); rintro e w79 ⟨rfl, hb⟩; have n0_ := Aside0.mk (below_step (by repeat (first | (with_reducible first | exact HB.out | apply below_alloc | apply pw_below_drewN | apply below_drew1) | exact HB.out)) hb); clear HB; have HB := n0_; clear n0_; (try clear hb); (try clear hb2); (try clear hk); (try clear hi)) | (go_at_call 19; (with_reducible refine (odometerlaw01_fails.calls (⟨#[46]⟩ : ByteArray) 3 false _ A17.out).mono ?_); rintro e w80 ⟨rfl, hb⟩; have n0_ := Aside0.mk (below_step (by repeat (first | (with_reducible first | exact HB.out | apply below_alloc | apply pw_below_drewN | apply below_drew1) | exact HB.out)) hb); clear HB; have HB := n0_; clear n0_; (try clear hb); (try clear hb2); (try clear hk); (try clear hi)))
                    go_ret
                    exact ⟨by first | rfl | (simp [errW_none, errW_some] <;> rfl) | (simp [*, errW_none, errW_some] <;> rfl), by repeat (first | (with_reducible first | exact HB.out | apply below_alloc | apply pw_below_drewN | apply below_drew1) | exact HB.out)⟩
                · replace c16 := Bool.eq_false_iff.mpr c16
                  subst c16
                  have H1 : (some false) = some r := by rw [if_neg (show ¬ (false = true) by decide)] at H; exact H
                  clear H
                  have H := H1
                  clear H1
                  obtain rfl := Option.some.inj H
                  go_enter Tryd.func7, Tryd.ntmps7
                  go_wp2_with (first | ((with_reducible refine gate_callee (f := 16) rfl ?_); refine goesL_ (some 1) rfl rfl Tryd.func16 (by kernel_rfl) rfl #[.string (⟨#[49, 101, 51]⟩ : ByteArray), .int .i64 1000000000] rfl (by (try simp only [List.map_toArray, List.map_cons, List.map_nil]); first | done | rfl | (simp only [List.length_drop, List.length_take]; rfl)) ?_; (with_reducible refine (odometerlaw01_reads.calls (⟨#[49, 101, 51]⟩ : ByteArray) 1000000000 true _ A1.out).mono ?_); rintro e w81 ⟨rfl, hb⟩; refine ⟨_, rfl, ?_⟩; have n0_ := Aside0.mk (below_step (by repeat (first | (with_reducible first | exact HB.out | apply below_alloc | apply pw_below_drewN | apply below_drew1) | exact HB.out)) hb); clear HB; have HB := n0_; clear n0_; (try clear hb); (try clear hb2); (try clear hk); (try clear hi)) | (go_at_call 16; (with_reducible refine (odometerlaw01_reads.calls (⟨#[46, 53]⟩ : ByteArray) 500000 true _ A3.out).mono ?_); rintro e w82 ⟨rfl, hb⟩; have n0_ := Aside0.mk (below_step (by repeat (first | (with_reducible first | exact HB.out | apply below_alloc | apply pw_below_drewN | apply below_drew1) | exact HB.out)) hb); clear HB; have HB := n0_; clear n0_; (try clear hb); (try clear hb2); (try clear hk); (try clear hi)) | (go_at_call 16; (with_reducible refine (odometerlaw01_reads.calls (⟨#[45, 48, 46, 48, 48, 48, 48, 48, 49]⟩ : ByteArray) (-1) true _ A5.out).mono ?_); rintro e w83 ⟨rfl, hb⟩; have n0_ := Aside0.mk (below_step (by repeat (first | (with_reducible first | exact HB.out | apply below_alloc | apply pw_below_drewN | apply below_drew1) | exact HB.out)) hb); clear HB; have HB := n0_; clear n0_; (try clear hb); (try clear hb2); (try clear hk); (try clear hi)) | (go_at_call 16; (with_reducible refine (odometerlaw01_reads.calls (⟨#[50, 53, 101, 45, 54]⟩ : ByteArray) 25 true _ A7.out).mono ?_); rintro e w84 ⟨rfl, hb⟩; have n0_ := Aside0.mk (below_step (by repeat (first | (with_reducible first | exact HB.out | apply below_alloc | apply pw_below_drewN | apply below_drew1) | exact HB.out)) hb); clear HB; have HB := n0_; clear n0_; (try clear hb); (try clear hb2); (try clear hk); (try clear hi)) | (go_at_call 16; (with_reducible refine (odometerlaw01_reads.calls (⟨#[48, 101, 57, 57]⟩ : ByteArray) 0 true _ A9.out).mono ?_); rintro e w85 ⟨rfl, hb⟩; have n0_ := Aside0.mk (below_step (by repeat (first | (with_reducible first | exact HB.out | apply below_alloc | apply pw_below_drewN | apply below_drew1) | exact HB.out)) hb); clear HB; have HB := n0_; clear n0_; (try clear hb); (try clear hb2); (try clear hk); (try clear hi)) | (go_at_call 19; (with_reducible refine (odometerlaw01_fails.calls (⟨#[49, 101, 45, 55]⟩ : ByteArray) 4 true _ A11.out).mono ?_); rintro e w86 ⟨rfl, hb⟩; have n0_ := Aside0.mk (below_step (by repeat (first | (with_reducible first | exact HB.out | apply below_alloc | apply pw_below_drewN | apply below_drew1) | exact HB.out)) hb); clear HB; have HB := n0_; clear n0_; (try clear hb); (try clear hb2); (try clear hk); (try clear hi)) | (go_at_call 19; (with_reducible refine (odometerlaw01_fails.calls (⟨#[57, 50, 50, 51, 51, 55, 50, 48, 51, 54, 56, 53, 52, 46, 55, 55, 53, 56, 48, 56]⟩ : ByteArray) 4 true _ A13.out).mono ?_); rintro e w87 ⟨rfl, hb⟩; have n0_ := Aside0.mk (below_step (by repeat (first | (with_reducible first | exact HB.out | apply below_alloc | apply pw_below_drewN | apply below_drew1) | exact HB.out)) hb); clear HB; have HB := n0_; clear n0_; (try clear hb); (try clear hb2); (try clear hk); (try clear hi)) | (go_at_call 19; (with_reducible refine (odometerlaw01_fails.calls (⟨#[43, 73, 110, 102]⟩ : ByteArray) 4 false _ A15.out).mono ?_); rintro e w88 ⟨rfl, hb⟩; have n0_ := Aside0.mk (below_step (by repeat (first | (with_reducible first | exact HB.out | apply below_alloc | apply pw_below_drewN | apply below_drew1) | exact HB.out)) hb); clear HB; have HB := n0_; clear n0_; (try clear hb); (try clear hb2); (try clear hk); (try clear hi)))
                  go_ret
                  exact ⟨by first | rfl | (simp [errW_none, errW_some] <;> rfl) | (simp [*, errW_none, errW_some] <;> rfl), by repeat (first | (with_reducible first | exact HB.out | apply below_alloc | apply pw_below_drewN | apply below_drew1) | exact HB.out)⟩
              · replace c14 := Bool.eq_false_iff.mpr c14
                subst c14
                have H1 : (some false) = some r := by rw [if_neg (show ¬ (false = true) by decide)] at H; exact H
                clear H
                have H := H1
                clear H1
                obtain rfl := Option.some.inj H
                go_enter Tryd.func7, Tryd.ntmps7
                go_wp2_with (first | ((with_reducible refine gate_callee (f := 16) rfl ?_); refine goesL_ (some 1) rfl rfl Tryd.func16 (by kernel_rfl) rfl #[.string (⟨#[49, 101, 51]⟩ : ByteArray), .int .i64 1000000000] rfl (by (try simp only [List.map_toArray, List.map_cons, List.map_nil]); first | done | rfl | (simp only [List.length_drop, List.length_take]; rfl)) ?_; (with_reducible refine (odometerlaw01_reads.calls (⟨#[49, 101, 51]⟩ : ByteArray) 1000000000 true _ A1.out).mono ?_); rintro e w89 ⟨rfl, hb⟩; refine ⟨_, rfl, ?_⟩; have n0_ := Aside0.mk (below_step (by repeat (first | (with_reducible first | exact HB.out | apply below_alloc | apply pw_below_drewN | apply below_drew1) | exact HB.out)) hb); clear HB; have HB := n0_; clear n0_; (try clear hb); (try clear hb2); (try clear hk); (try clear hi)) | (go_at_call 16; (with_reducible refine (odometerlaw01_reads.calls (⟨#[46, 53]⟩ : ByteArray) 500000 true _ A3.out).mono ?_); rintro e w90 ⟨rfl, hb⟩; have n0_ := Aside0.mk (below_step (by repeat (first | (with_reducible first | exact HB.out | apply below_alloc | apply pw_below_drewN | apply below_drew1) | exact HB.out)) hb); clear HB; have HB := n0_; clear n0_; (try clear hb); (try clear hb2); (try clear hk); (try clear hi)) | (go_at_call 16; (with_reducible refine (odometerlaw01_reads.calls (⟨#[45, 48, 46, 48, 48, 48, 48, 48, 49]⟩ : ByteArray) (-1) true _ A5.out).mono ?_); rintro e w91 ⟨rfl, hb⟩; have n0_ := Aside0.mk (below_step (by repeat (first | (with_reducible first | exact HB.out | apply below_alloc | apply pw_below_drewN | apply below_drew1) | exact HB.out)) hb); clear HB; have HB := n0_; clear n0_; (try clear hb); (try clear hb2); (try clear hk); (try clear hi)) | (go_at_call 16; (with_reducible refine (odometerlaw01_reads.calls (⟨#[50, 53, 101, 45, 54]⟩ : ByteArray) 25 true _ A7.out).mono ?_); rintro e w92 ⟨rfl, hb⟩; have n0_ := Aside0.mk (below_step (by repeat (first | (with_reducible first | exact HB.out | apply below_alloc | apply pw_below_drewN | apply below_drew1) | exact HB.out)) hb); clear HB; have HB := n0_; clear n0_; (try clear hb); (try clear hb2); (try clear hk); (try clear hi)) | (go_at_call 16; (with_reducible refine (odometerlaw01_reads.calls (⟨#[48, 101, 57, 57]⟩ : ByteArray) 0 true _ A9.out).mono ?_); rintro e w93 ⟨rfl, hb⟩; have n0_ := Aside0.mk (below_step (by repeat (first | (with_reducible first | exact HB.out | apply below_alloc | apply pw_below_drewN | apply below_drew1) | exact HB.out)) hb); clear HB; have HB := n0_; clear n0_; (try clear hb); (try clear hb2); (try clear hk); (try clear hi)) | (go_at_call 19; (with_reducible refine (odometerlaw01_fails.calls (⟨#[49, 101, 45, 55]⟩ : ByteArray) 4 true _ A11.out).mono ?_); rintro e w94 ⟨rfl, hb⟩; have n0_ := Aside0.mk (below_step (by repeat (first | (with_reducible first | exact HB.out | apply below_alloc | apply pw_below_drewN | apply below_drew1) | exact HB.out)) hb); clear HB; have HB := n0_; clear n0_; (try clear hb); (try clear hb2); (try clear hk); (try clear hi)) | (go_at_call 19; (with_reducible refine (odometerlaw01_fails.calls (⟨#[57, 50, 50, 51, 51, 55, 50, 48, 51, 54, 56, 53, 52, 46, 55, 55, 53, 56, 48, 56]⟩ : ByteArray) 4 false _ A13.out).mono ?_); rintro e w95 ⟨rfl, hb⟩; have n0_ := Aside0.mk (below_step (by repeat (first | (with_reducible first | exact HB.out | apply below_alloc | apply pw_below_drewN | apply below_drew1) | exact HB.out)) hb); clear HB; have HB := n0_; clear n0_; (try clear hb); (try clear hb2); (try clear hk); (try clear hi)))
                go_ret
                exact ⟨by first | rfl | (simp [errW_none, errW_some] <;> rfl) | (simp [*, errW_none, errW_some] <;> rfl), by repeat (first | (with_reducible first | exact HB.out | apply below_alloc | apply pw_below_drewN | apply below_drew1) | exact HB.out)⟩
            · replace c12 := Bool.eq_false_iff.mpr c12
              subst c12
              have H1 : (some false) = some r := by rw [if_neg (show ¬ (false = true) by decide)] at H; exact H
              clear H
              have H := H1
              clear H1
              obtain rfl := Option.some.inj H
              go_enter Tryd.func7, Tryd.ntmps7
              go_wp2_with (first | ((with_reducible refine gate_callee (f := 16) rfl ?_); refine goesL_ (some 1) rfl rfl Tryd.func16 (by kernel_rfl) rfl #[.string (⟨#[49, 101, 51]⟩ : ByteArray), .int .i64 1000000000] rfl (by (try simp only [List.map_toArray, List.map_cons, List.map_nil]); first | done | rfl | (simp only [List.length_drop, List.length_take]; rfl)) ?_; (with_reducible refine (odometerlaw01_reads.calls (⟨#[49, 101, 51]⟩ : ByteArray) 1000000000 true _ A1.out).mono ?_); rintro e w96 ⟨rfl, hb⟩; refine ⟨_, rfl, ?_⟩; have n0_ := Aside0.mk (below_step (by repeat (first | (with_reducible first | exact HB.out | apply below_alloc | apply pw_below_drewN | apply below_drew1) | exact HB.out)) hb); clear HB; have HB := n0_; clear n0_; (try clear hb); (try clear hb2); (try clear hk); (try clear hi)) | (go_at_call 16; (with_reducible refine (odometerlaw01_reads.calls (⟨#[46, 53]⟩ : ByteArray) 500000 true _ A3.out).mono ?_); rintro e w97 ⟨rfl, hb⟩; have n0_ := Aside0.mk (below_step (by repeat (first | (with_reducible first | exact HB.out | apply below_alloc | apply pw_below_drewN | apply below_drew1) | exact HB.out)) hb); clear HB; have HB := n0_; clear n0_; (try clear hb); (try clear hb2); (try clear hk); (try clear hi)) | (go_at_call 16; (with_reducible refine (odometerlaw01_reads.calls (⟨#[45, 48, 46, 48, 48, 48, 48, 48, 49]⟩ : ByteArray) (-1) true _ A5.out).mono ?_); rintro e w98 ⟨rfl, hb⟩; have n0_ := Aside0.mk (below_step (by repeat (first | (with_reducible first | exact HB.out | apply below_alloc | apply pw_below_drewN | apply below_drew1) | exact HB.out)) hb); clear HB; have HB := n0_; clear n0_; (try clear hb); (try clear hb2); (try clear hk); (try clear hi)) | (go_at_call 16; (with_reducible refine (odometerlaw01_reads.calls (⟨#[50, 53, 101, 45, 54]⟩ : ByteArray) 25 true _ A7.out).mono ?_); rintro e w99 ⟨rfl, hb⟩; have n0_ := Aside0.mk (below_step (by repeat (first | (with_reducible first | exact HB.out | apply below_alloc | apply pw_below_drewN | apply below_drew1) | exact HB.out)) hb); clear HB; have HB := n0_; clear n0_; (try clear hb); (try clear hb2); (try clear hk); (try clear hi)) | (go_at_call 16; (with_reducible refine (odometerlaw01_reads.calls (⟨#[48, 101, 57, 57]⟩ : ByteArray) 0 true _ A9.out).mono ?_); rintro e w100 ⟨rfl, hb⟩; have n0_ := Aside0.mk (below_step (by repeat (first | (with_reducible first | exact HB.out | apply below_alloc | apply pw_below_drewN | apply below_drew1) | exact HB.out)) hb); clear HB; have HB := n0_; clear n0_; (try clear hb); (try clear hb2); (try clear hk); (try clear hi)) | (go_at_call 19; (with_reducible refine (odometerlaw01_fails.calls (⟨#[49, 101, 45, 55]⟩ : ByteArray) 4 false _ A11.out).mono ?_); rintro e w101 ⟨rfl, hb⟩; have n0_ := Aside0.mk (below_step (by repeat (first | (with_reducible first | exact HB.out | apply below_alloc | apply pw_below_drewN | apply below_drew1) | exact HB.out)) hb); clear HB; have HB := n0_; clear n0_; (try clear hb); (try clear hb2); (try clear hk); (try clear hi)))
              go_ret
              exact ⟨by first | rfl | (simp [errW_none, errW_some] <;> rfl) | (simp [*, errW_none, errW_some] <;> rfl), by repeat (first | (with_reducible first | exact HB.out | apply below_alloc | apply pw_below_drewN | apply below_drew1) | exact HB.out)⟩
          · replace c10 := Bool.eq_false_iff.mpr c10
            subst c10
            have H1 : (some false) = some r := by rw [if_neg (show ¬ (false = true) by decide)] at H; exact H
            clear H
            have H := H1
            clear H1
            obtain rfl := Option.some.inj H
            go_enter Tryd.func7, Tryd.ntmps7
            go_wp2_with (first | ((with_reducible refine gate_callee (f := 16) rfl ?_); refine goesL_ (some 1) rfl rfl Tryd.func16 (by kernel_rfl) rfl #[.string (⟨#[49, 101, 51]⟩ : ByteArray), .int .i64 1000000000] rfl (by (try simp only [List.map_toArray, List.map_cons, List.map_nil]); first | done | rfl | (simp only [List.length_drop, List.length_take]; rfl)) ?_; (with_reducible refine (odometerlaw01_reads.calls (⟨#[49, 101, 51]⟩ : ByteArray) 1000000000 true _ A1.out).mono ?_); rintro e w102 ⟨rfl, hb⟩; refine ⟨_, rfl, ?_⟩; have n0_ := Aside0.mk (below_step (by repeat (first | (with_reducible first | exact HB.out | apply below_alloc | apply pw_below_drewN | apply below_drew1) | exact HB.out)) hb); clear HB; have HB := n0_; clear n0_; (try clear hb); (try clear hb2); (try clear hk); (try clear hi)) | (go_at_call 16; (with_reducible refine (odometerlaw01_reads.calls (⟨#[46, 53]⟩ : ByteArray) 500000 true _ A3.out).mono ?_); rintro e w103 ⟨rfl, hb⟩; have n0_ := Aside0.mk (below_step (by repeat (first | (with_reducible first | exact HB.out | apply below_alloc | apply pw_below_drewN | apply below_drew1) | exact HB.out)) hb); clear HB; have HB := n0_; clear n0_; (try clear hb); (try clear hb2); (try clear hk); (try clear hi)) | (go_at_call 16; (with_reducible refine (odometerlaw01_reads.calls (⟨#[45, 48, 46, 48, 48, 48, 48, 48, 49]⟩ : ByteArray) (-1) true _ A5.out).mono ?_); rintro e w104 ⟨rfl, hb⟩; have n0_ := Aside0.mk (below_step (by repeat (first | (with_reducible first | exact HB.out | apply below_alloc | apply pw_below_drewN | apply below_drew1) | exact HB.out)) hb); clear HB; have HB := n0_; clear n0_; (try clear hb); (try clear hb2); (try clear hk); (try clear hi)) | (go_at_call 16; (with_reducible refine (odometerlaw01_reads.calls (⟨#[50, 53, 101, 45, 54]⟩ : ByteArray) 25 true _ A7.out).mono ?_); rintro e w105 ⟨rfl, hb⟩; have n0_ := Aside0.mk (below_step (by repeat (first | (with_reducible first | exact HB.out | apply below_alloc | apply pw_below_drewN | apply below_drew1) | exact HB.out)) hb); clear HB; have HB := n0_; clear n0_; (try clear hb); (try clear hb2); (try clear hk); (try clear hi)) | (go_at_call 16; (with_reducible refine (odometerlaw01_reads.calls (⟨#[48, 101, 57, 57]⟩ : ByteArray) 0 false _ A9.out).mono ?_); rintro e w106 ⟨rfl, hb⟩; have n0_ := Aside0.mk (below_step (by repeat (first | (with_reducible first | exact HB.out | apply below_alloc | apply pw_below_drewN | apply below_drew1) | exact HB.out)) hb); clear HB; have HB := n0_; clear n0_; (try clear hb); (try clear hb2); (try clear hk); (try clear hi)))
            go_ret
            exact ⟨by first | rfl | (simp [errW_none, errW_some] <;> rfl) | (simp [*, errW_none, errW_some] <;> rfl), by repeat (first | (with_reducible first | exact HB.out | apply below_alloc | apply pw_below_drewN | apply below_drew1) | exact HB.out)⟩
        · replace c8 := Bool.eq_false_iff.mpr c8
          subst c8
          have H1 : (some false) = some r := by rw [if_neg (show ¬ (false = true) by decide)] at H; exact H
          clear H
          have H := H1
          clear H1
          obtain rfl := Option.some.inj H
          go_enter Tryd.func7, Tryd.ntmps7
          go_wp2_with (first | ((with_reducible refine gate_callee (f := 16) rfl ?_); refine goesL_ (some 1) rfl rfl Tryd.func16 (by kernel_rfl) rfl #[.string (⟨#[49, 101, 51]⟩ : ByteArray), .int .i64 1000000000] rfl (by (try simp only [List.map_toArray, List.map_cons, List.map_nil]); first | done | rfl | (simp only [List.length_drop, List.length_take]; rfl)) ?_; (with_reducible refine (odometerlaw01_reads.calls (⟨#[49, 101, 51]⟩ : ByteArray) 1000000000 true _ A1.out).mono ?_); rintro e w107 ⟨rfl, hb⟩; refine ⟨_, rfl, ?_⟩; have n0_ := Aside0.mk (below_step (by repeat (first | (with_reducible first | exact HB.out | apply below_alloc | apply pw_below_drewN | apply below_drew1) | exact HB.out)) hb); clear HB; have HB := n0_; clear n0_; (try clear hb); (try clear hb2); (try clear hk); (try clear hi)) | (go_at_call 16; (with_reducible refine (odometerlaw01_reads.calls (⟨#[46, 53]⟩ : ByteArray) 500000 true _ A3.out).mono ?_); rintro e w108 ⟨rfl, hb⟩; have n0_ := Aside0.mk (below_step (by repeat (first | (with_reducible first | exact HB.out | apply below_alloc | apply pw_below_drewN | apply below_drew1) | exact HB.out)) hb); clear HB; have HB := n0_; clear n0_; (try clear hb); (try clear hb2); (try clear hk); (try clear hi)) | (go_at_call 16; (with_reducible refine (odometerlaw01_reads.calls (⟨#[45, 48, 46, 48, 48, 48, 48, 48, 49]⟩ : ByteArray) (-1) true _ A5.out).mono ?_); rintro e w109 ⟨rfl, hb⟩; have n0_ := Aside0.mk (below_step (by repeat (first | (with_reducible first | exact HB.out | apply below_alloc | apply pw_below_drewN | apply below_drew1) | exact HB.out)) hb); clear HB; have HB := n0_; clear n0_; (try clear hb); (try clear hb2); (try clear hk); (try clear hi)) | (go_at_call 16; (with_reducible refine (odometerlaw01_reads.calls (⟨#[50, 53, 101, 45, 54]⟩ : ByteArray) 25 false _ A7.out).mono ?_); rintro e w110 ⟨rfl, hb⟩; have n0_ := Aside0.mk (below_step (by repeat (first | (with_reducible first | exact HB.out | apply below_alloc | apply pw_below_drewN | apply below_drew1) | exact HB.out)) hb); clear HB; have HB := n0_; clear n0_; (try clear hb); (try clear hb2); (try clear hk); (try clear hi)))
          go_ret
          exact ⟨by first | rfl | (simp [errW_none, errW_some] <;> rfl) | (simp [*, errW_none, errW_some] <;> rfl), by repeat (first | (with_reducible first | exact HB.out | apply below_alloc | apply pw_below_drewN | apply below_drew1) | exact HB.out)⟩
      · replace c6 := Bool.eq_false_iff.mpr c6
        subst c6
        have H1 : (some false) = some r := by rw [if_neg (show ¬ (false = true) by decide)] at H; exact H
        clear H
        have H := H1
        clear H1
        obtain rfl := Option.some.inj H
        go_enter Tryd.func7, Tryd.ntmps7
        go_wp2_with (first | ((with_reducible refine gate_callee (f := 16) rfl ?_); refine goesL_ (some 1) rfl rfl Tryd.func16 (by kernel_rfl) rfl #[.string (⟨#[49, 101, 51]⟩ : ByteArray), .int .i64 1000000000] rfl (by (try simp only [List.map_toArray, List.map_cons, List.map_nil]); first | done | rfl | (simp only [List.length_drop, List.length_take]; rfl)) ?_; (with_reducible refine (odometerlaw01_reads.calls (⟨#[49, 101, 51]⟩ : ByteArray) 1000000000 true _ A1.out).mono ?_); rintro e w111 ⟨rfl, hb⟩; refine ⟨_, rfl, ?_⟩; have n0_ := Aside0.mk (below_step (by repeat (first | (with_reducible first | exact HB.out | apply below_alloc | apply pw_below_drewN | apply below_drew1) | exact HB.out)) hb); clear HB; have HB := n0_; clear n0_; (try clear hb); (try clear hb2); (try clear hk); (try clear hi)) | (go_at_call 16; (with_reducible refine (odometerlaw01_reads.calls (⟨#[46, 53]⟩ : ByteArray) 500000 true _ A3.out).mono ?_); rintro e w112 ⟨rfl, hb⟩; have n0_ := Aside0.mk (below_step (by repeat (first | (with_reducible first | exact HB.out | apply below_alloc | apply pw_below_drewN | apply below_drew1) | exact HB.out)) hb); clear HB; have HB := n0_; clear n0_; (try clear hb); (try clear hb2); (try clear hk); (try clear hi)) | (go_at_call 16; (with_reducible refine (odometerlaw01_reads.calls (⟨#[45, 48, 46, 48, 48, 48, 48, 48, 49]⟩ : ByteArray) (-1) false _ A5.out).mono ?_); rintro e w113 ⟨rfl, hb⟩; have n0_ := Aside0.mk (below_step (by repeat (first | (with_reducible first | exact HB.out | apply below_alloc | apply pw_below_drewN | apply below_drew1) | exact HB.out)) hb); clear HB; have HB := n0_; clear n0_; (try clear hb); (try clear hb2); (try clear hk); (try clear hi)))
        go_ret
        exact ⟨by first | rfl | (simp [errW_none, errW_some] <;> rfl) | (simp [*, errW_none, errW_some] <;> rfl), by repeat (first | (with_reducible first | exact HB.out | apply below_alloc | apply pw_below_drewN | apply below_drew1) | exact HB.out)⟩
    · replace c4 := Bool.eq_false_iff.mpr c4
      subst c4
      have H1 : (some false) = some r := by rw [if_neg (show ¬ (false = true) by decide)] at H; exact H
      clear H
      have H := H1
      clear H1
      obtain rfl := Option.some.inj H
      go_enter Tryd.func7, Tryd.ntmps7
      go_wp2_with (first | ((with_reducible refine gate_callee (f := 16) rfl ?_); refine goesL_ (some 1) rfl rfl Tryd.func16 (by kernel_rfl) rfl #[.string (⟨#[49, 101, 51]⟩ : ByteArray), .int .i64 1000000000] rfl (by (try simp only [List.map_toArray, List.map_cons, List.map_nil]); first | done | rfl | (simp only [List.length_drop, List.length_take]; rfl)) ?_; (with_reducible refine (odometerlaw01_reads.calls (⟨#[49, 101, 51]⟩ : ByteArray) 1000000000 true _ A1.out).mono ?_); rintro e w114 ⟨rfl, hb⟩; refine ⟨_, rfl, ?_⟩; have n0_ := Aside0.mk (below_step (by repeat (first | (with_reducible first | exact HB.out | apply below_alloc | apply pw_below_drewN | apply below_drew1) | exact HB.out)) hb); clear HB; have HB := n0_; clear n0_; (try clear hb); (try clear hb2); (try clear hk); (try clear hi)) | (go_at_call 16; (with_reducible refine (odometerlaw01_reads.calls (⟨#[46, 53]⟩ : ByteArray) 500000 false _ A3.out).mono ?_); rintro e w115 ⟨rfl, hb⟩; have n0_ := Aside0.mk (below_step (by repeat (first | (with_reducible first | exact HB.out | apply below_alloc | apply pw_below_drewN | apply below_drew1) | exact HB.out)) hb); clear HB; have HB := n0_; clear n0_; (try clear hb); (try clear hb2); (try clear hk); (try clear hi)))
      go_ret
      exact ⟨by first | rfl | (simp [errW_none, errW_some] <;> rfl) | (simp [*, errW_none, errW_some] <;> rfl), by repeat (first | (with_reducible first | exact HB.out | apply below_alloc | apply pw_below_drewN | apply below_drew1) | exact HB.out)⟩
  · replace c2 := Bool.eq_false_iff.mpr c2
    subst c2
    have H1 : (some false) = some r := by rw [if_neg (show ¬ (false = true) by decide)] at H; exact H
    clear H
    have H := H1
    clear H1
    obtain rfl := Option.some.inj H
    go_enter Tryd.func7, Tryd.ntmps7
    go_wp2_with (first | ((with_reducible refine gate_callee (f := 16) rfl ?_); refine goesL_ (some 1) rfl rfl Tryd.func16 (by kernel_rfl) rfl #[.string (⟨#[49, 101, 51]⟩ : ByteArray), .int .i64 1000000000] rfl (by (try simp only [List.map_toArray, List.map_cons, List.map_nil]); first | done | rfl | (simp only [List.length_drop, List.length_take]; rfl)) ?_; (with_reducible refine (odometerlaw01_reads.calls (⟨#[49, 101, 51]⟩ : ByteArray) 1000000000 false _ A1.out).mono ?_); rintro e w116 ⟨rfl, hb⟩; refine ⟨_, rfl, ?_⟩; have n0_ := Aside0.mk (below_step (by repeat (first | (with_reducible first | exact HB.out | apply below_alloc | apply pw_below_drewN | apply below_drew1) | exact HB.out)) hb); clear HB; have HB := n0_; clear n0_; (try clear hb); (try clear hb2); (try clear hk); (try clear hi)))
    go_ret
    exact ⟨by first | rfl | (simp [errW_none, errW_some] <;> rfl) | (simp [*, errW_none, errW_some] <;> rfl), by repeat (first | (with_reducible first | exact HB.out | apply below_alloc | apply pw_below_drewN | apply below_drew1) | exact HB.out)⟩

/-! ### fix_size: function 31 -/
def fix_size.f (a0 : Int) : Option (Int) := if a0 < 0 then (some (IntKind.u64.wrap (-(IntKind.u64.wrap (a0))))) else (some (IntKind.u64.wrap (a0)))
set_option maxHeartbeats 8000000 in
set_option maxRecDepth 100000 in
theorem fix_size.calls (a0 : Int) (r : Int) (w : World) (h : fix_size.f a0 = some r) :
    Calls Tryd.prog 31 #[.int .i64 a0] w fun e w' => e = .returned (.int .u64 r) ∧ Drawn0 w w' := by
  have H : (if a0 < 0 then (some (IntKind.u64.wrap (-(IntKind.u64.wrap (a0))))) else (some (IntKind.u64.wrap (a0)))) = some r := h
  clear h
  by_cases c2 : a0 < 0
  · rw [if_pos c2] at H
    have c2b0 : decide (a0 < 0) = true := decide_eq_true c2
    clear c2
    obtain rfl := Option.some.inj H
    go_enter Tryd.func31, Tryd.ntmps31
    go_wp2
    go_ret
    exact ⟨by first | rfl | (simp; done) | (simp [*]; done), by repeat (first | exact Drawn0.refl _ | apply Drawn0.step)⟩
  · rw [if_neg c2] at H
    have c2b0 : decide (a0 < 0) = false := decide_eq_false c2
    clear c2
    obtain rfl := Option.some.inj H
    go_enter Tryd.func31, Tryd.ntmps31
    go_wp2
    go_ret
    exact ⟨by first | rfl | (simp; done) | (simp [*]; done), by repeat (first | exact Drawn0.refl _ | apply Drawn0.step)⟩

/-! ### bits_Mul64: function 33 -/
def bits_Mul64.f (a0 : Int) (a1 : Int) : Option (Int × Int) :=
  if (0 ≤ a0 ∧ a0 < 18446744073709551616) ∧ 0 ≤ a1 ∧ a1 < 18446744073709551616 then some (((a0.toNat * a1.toNat / 18446744073709551616 : Nat) : Int), ((a0.toNat * a1.toNat % 18446744073709551616 : Nat) : Int)) else none
theorem bits_Mul64.calls (a0 : Int) (a1 : Int) (r1 : Int) (r2 : Int) (w : World) (h : bits_Mul64.f a0 a1 = some (r1, r2)) :
    Calls Tryd.prog 33 #[.int .u64 a0, .int .u64 a1] w fun e w' => e = .returned (.tuple #[.int .u64 r1, .int .u64 r2]) ∧ Below w.heap.size w w' := by
  unfold bits_Mul64.f at h
  split at h
  case isFalse => cases h
  case isTrue hc =>
    obtain ⟨⟨h1, h2⟩, h3, h4⟩ := hc
    obtain ⟨x, rfl⟩ : ∃ x : Nat, a0 = x := ⟨a0.toNat, by omega⟩
    obtain ⟨y, rfl⟩ : ∃ y : Nat, a1 = y := ⟨a1.toNat, by omega⟩
    have h5 := Option.some.inj h
    have e1 : _ = r1 := congrArg Prod.fst h5
    have e2 : _ = r2 := congrArg Prod.snd h5
    simp only [Int.toNat_natCast, Int.toNat_natCast] at e1 e2
    refine (Tryd.bits_Mul64 x y (by omega) (by omega) w).mono ?_
    rintro e w' ⟨he, hw⟩
    subst hw
    refine ⟨he.trans ?_, Below.refl _ _⟩
    rw [← e1, ← e2]

/-! ### bits_Div64: function 34 -/
def bits_Div64.f (a0 : Int) (a1 : Int) (a2 : Int) : Option (Int × Int) :=
  if (0 ≤ a0 ∧ a0 < a2) ∧ (0 ≤ a1 ∧ a1 < 18446744073709551616) ∧ a2 < 18446744073709551616 then some ((((a0.toNat * 18446744073709551616 + a1.toNat) / a2.toNat : Nat) : Int), (((a0.toNat * 18446744073709551616 + a1.toNat) % a2.toNat : Nat) : Int)) else none
theorem bits_Div64.calls (a0 : Int) (a1 : Int) (a2 : Int) (r1 : Int) (r2 : Int) (w : World) (h : bits_Div64.f a0 a1 a2 = some (r1, r2)) :
    Calls Tryd.prog 34 #[.int .u64 a0, .int .u64 a1, .int .u64 a2] w fun e w' => e = .returned (.tuple #[.int .u64 r1, .int .u64 r2]) ∧ Below w.heap.size w w' := by
  unfold bits_Div64.f at h
  split at h
  case isFalse => cases h
  case isTrue hc =>
    obtain ⟨⟨h1, h2⟩, ⟨h3, h4⟩, h6⟩ := hc
    obtain ⟨x, rfl⟩ : ∃ x : Nat, a0 = x := ⟨a0.toNat, by omega⟩
    obtain ⟨z, rfl⟩ : ∃ z : Nat, a1 = z := ⟨a1.toNat, by omega⟩
    obtain ⟨y, rfl⟩ : ∃ y : Nat, a2 = y := ⟨a2.toNat, by omega⟩
    have h5 := Option.some.inj h
    have e1 : _ = r1 := congrArg Prod.fst h5
    have e2 : _ = r2 := congrArg Prod.snd h5
    simp only [Int.toNat_natCast, Int.toNat_natCast, Int.toNat_natCast] at e1 e2
    refine (div_calls x z y w (by omega) (by omega) (by omega)).mono ?_
    rintro e w' ⟨he, hb⟩
    refine ⟨he.trans ?_, hb⟩
    rw [← e1, ← e2]

/-! ### fix_Scale: function 17 -/
mutual
def fix_Scale.j0 : Nat → Bool → Int → Int → Option (Int × Bool)
  | 0, _, _, _ => none
  | k + 1, x9, x12, x13 => if x9 = true then (if x13 > 0 then (fix_Scale.j1 k x9 x12 (decide (x12 < 18446744073709551615))) else (fix_Scale.j1 k x9 x12 false)) else (fix_Scale.j1 k x9 x12 false)
def fix_Scale.j1 : Nat → Bool → Int → Bool → Option (Int × Bool)
  | 0, _, _, _ => none
  | k + 1, x9, x12, x48 => if x48 = true then (fix_Scale.j2 k x9 (IntKind.u64.wrap (x12 + 1))) else (fix_Scale.j2 k x9 x12)
def fix_Scale.j2 : Nat → Bool → Int → Option (Int × Bool)
  | 0, _, _ => none
  | k + 1, x9, x12 => if x9 = true then (fix_Scale.j3 k x9 x12 (decide (x12 > 9223372036854775808))) else (fix_Scale.j3 k x9 x12 false)
def fix_Scale.j3 : Nat → Bool → Int → Bool → Option (Int × Bool)
  | 0, _, _, _ => none
  | k + 1, x9, x12, x51 => if x51 = true then (some ((-9223372036854775808), true)) else (if x9 = true then (some (wrap64 (-(wrap64 (x12))), false)) else (if x12 > 9223372036854775807 then (some (9223372036854775807, true)) else (some (wrap64 (x12), false))))
end
def fix_Scale.f (k : Nat) (a0 : Int) (a1 : Int) (a2 : Int) : Option (Int × Bool) := (fix_size.f a0).bind fun t118 => ((fix_size.f a1).bind fun t119 => ((bits_Mul64.f t118 t119).bind fun bt120 => (if bt120.1 < (IntKind.u64.wrap (mx a2 1)) then ((bits_Div64.f bt120.1 bt120.2 (IntKind.u64.wrap (mx a2 1))).bind fun bt122 => (fix_Scale.j0 k ((decide (a0 < 0)) != (decide (a1 < 0))) bt122.1 bt122.2)) else (fix_Scale.j0 k ((decide (a0 < 0)) != (decide (a1 < 0))) 18446744073709551615 0))))
theorem fix_Scale.mono_l : ∀ k, (∀ y0 y1 y2, LeO (fix_Scale.j0 k y0 y1 y2) (fix_Scale.j0 (k + 1) y0 y1 y2)) ∧ (∀ y0 y1 y2, LeO (fix_Scale.j1 k y0 y1 y2) (fix_Scale.j1 (k + 1) y0 y1 y2)) ∧ (∀ y0 y1, LeO (fix_Scale.j2 k y0 y1) (fix_Scale.j2 (k + 1) y0 y1)) ∧ (∀ y0 y1 y2, LeO (fix_Scale.j3 k y0 y1 y2) (fix_Scale.j3 (k + 1) y0 y1 y2))
  | 0 => ⟨fun _ _ _ r h => by simp [fix_Scale.j0] at h, fun _ _ _ r h => by simp [fix_Scale.j1] at h, fun _ _ r h => by simp [fix_Scale.j2] at h, fun _ _ _ r h => by simp [fix_Scale.j3] at h⟩
  | k + 1 => by
    obtain ⟨ih0, ih1, ih2, ih3⟩ := fix_Scale.mono_l k
    refine ⟨?_, ?_, ?_, ?_⟩
    · intro y0 y1 y2
      unfold fix_Scale.j0
      repeat' first
      | (with_reducible exact ih0 _ _ _)
      | (with_reducible exact ih1 _ _ _)
      | (with_reducible exact ih2 _ _)
      | (with_reducible exact ih3 _ _ _)
      | (with_reducible exact LeO.refl _)
      | (with_reducible exact LeO.none _)
      | (with_reducible refine LeO.ite ?_ ?_)
      | (with_reducible refine LeO.bind ?_ (fun _ => ?_))
      | exact ih0 _ _ _
      | exact ih1 _ _ _
      | exact ih2 _ _
      | exact ih3 _ _ _
      | exact LeO.none _
      | refine LeO.ite ?_ ?_
      | refine LeO.bind ?_ (fun _ => ?_)
    · intro y0 y1 y2
      unfold fix_Scale.j1
      repeat' first
      | (with_reducible exact ih0 _ _ _)
      | (with_reducible exact ih1 _ _ _)
      | (with_reducible exact ih2 _ _)
      | (with_reducible exact ih3 _ _ _)
      | (with_reducible exact LeO.refl _)
      | (with_reducible exact LeO.none _)
      | (with_reducible refine LeO.ite ?_ ?_)
      | (with_reducible refine LeO.bind ?_ (fun _ => ?_))
      | exact ih0 _ _ _
      | exact ih1 _ _ _
      | exact ih2 _ _
      | exact ih3 _ _ _
      | exact LeO.none _
      | refine LeO.ite ?_ ?_
      | refine LeO.bind ?_ (fun _ => ?_)
    · intro y0 y1
      unfold fix_Scale.j2
      repeat' first
      | (with_reducible exact ih0 _ _ _)
      | (with_reducible exact ih1 _ _ _)
      | (with_reducible exact ih2 _ _)
      | (with_reducible exact ih3 _ _ _)
      | (with_reducible exact LeO.refl _)
      | (with_reducible exact LeO.none _)
      | (with_reducible refine LeO.ite ?_ ?_)
      | (with_reducible refine LeO.bind ?_ (fun _ => ?_))
      | exact ih0 _ _ _
      | exact ih1 _ _ _
      | exact ih2 _ _
      | exact ih3 _ _ _
      | exact LeO.none _
      | refine LeO.ite ?_ ?_
      | refine LeO.bind ?_ (fun _ => ?_)
    · intro y0 y1 y2
      unfold fix_Scale.j3
      repeat' first
      | (with_reducible exact ih0 _ _ _)
      | (with_reducible exact ih1 _ _ _)
      | (with_reducible exact ih2 _ _)
      | (with_reducible exact ih3 _ _ _)
      | (with_reducible exact LeO.refl _)
      | (with_reducible exact LeO.none _)
      | (with_reducible refine LeO.ite ?_ ?_)
      | (with_reducible refine LeO.bind ?_ (fun _ => ?_))
      | exact ih0 _ _ _
      | exact ih1 _ _ _
      | exact ih2 _ _
      | exact ih3 _ _ _
      | exact LeO.none _
      | refine LeO.ite ?_ ?_
      | refine LeO.bind ?_ (fun _ => ?_)
theorem fix_Scale.mono : ∀ a0 a1 a2 k, LeO (fix_Scale.f k a0 a1 a2) (fix_Scale.f (k + 1) a0 a1 a2) := by
  intro a0 a1 a2 k
  obtain ⟨ih0, ih1, ih2, ih3⟩ := fix_Scale.mono_l k
  unfold fix_Scale.f
  repeat' first
      | (with_reducible exact ih0 _ _ _)
      | (with_reducible exact ih1 _ _ _)
      | (with_reducible exact ih2 _ _)
      | (with_reducible exact ih3 _ _ _)
      | (with_reducible exact LeO.refl _)
      | (with_reducible exact LeO.none _)
      | (with_reducible refine LeO.ite ?_ ?_)
      | (with_reducible refine LeO.bind ?_ (fun _ => ?_))
      | exact ih0 _ _ _
      | exact ih1 _ _ _
      | exact ih2 _ _
      | exact ih3 _ _ _
      | exact LeO.none _
      | refine LeO.ite ?_ ?_
      | refine LeO.bind ?_ (fun _ => ?_)
set_option maxHeartbeats 8000000 in
set_option maxRecDepth 100000 in
theorem fix_Scale.calls_true (k : Nat) (a0 : Int) (a1 : Int) (a2 : Int) (r1 : Int) (r2 : Bool) (w : World) (hng0_ : ((decide (a0 < 0)) != (decide (a1 < 0))) = true) (h : fix_Scale.f k a0 a1 a2 = some (r1, r2)) :
    Calls Tryd.prog 17 #[.int .i64 a0, .int .i64 a1, .int .i64 a2] w fun e w' => e = .returned (.tuple #[.int .i64 r1, .bool r2]) ∧ Below w.heap.size w w' := by
  have HB := Aside0.mk (Below.refl w.heap.size w)
  have H : ((fix_size.f a0).bind fun t118 => ((fix_size.f a1).bind fun t119 => ((bits_Mul64.f t118 t119).bind fun bt120 => (if bt120.1 < (IntKind.u64.wrap (mx a2 1)) then ((bits_Div64.f bt120.1 bt120.2 (IntKind.u64.wrap (mx a2 1))).bind fun bt122 => (fix_Scale.j0 k ((decide (a0 < 0)) != (decide (a1 < 0))) bt122.1 bt122.2)) else (fix_Scale.j0 k ((decide (a0 < 0)) != (decide (a1 < 0))) 18446744073709551615 0))))) = some (r1, r2) := h
  clear h
  (try rw [hng0_] at H)
  have hng_ : (!(decide (a0 < 0) == decide (a1 < 0))) = true := hng0_
  have HNG_ := Aside0.mk hng0_
  clear hng0_
  obtain ⟨ji4, hji4⟩ : ∃ j_ : Int, (mx a2 1) = j_ := ⟨_, rfl⟩
  replace H : ((fix_size.f a0).bind fun t118 => ((fix_size.f a1).bind fun t119 => ((bits_Mul64.f t118 t119).bind fun bt120 => (if bt120.1 < (IntKind.u64.wrap (ji4)) then ((bits_Div64.f bt120.1 bt120.2 (IntKind.u64.wrap (ji4))).bind fun bt122 => (fix_Scale.j0 k true bt122.1 bt122.2)) else (fix_Scale.j0 k true 18446744073709551615 0))))) = some (r1, r2) := by first | (rw [hji4] at H; exact H) | (simp only [hji4] at H ⊢; exact H)
  (try (have hji4l : 1 ≤ ji4 := by (rw [← hji4]; unfold mx; (repeat' split) <;> omega)))
  (try (have hji4m : 0 ≤ ji4 := by omega))
  have hji4_ : (if a2 < 1 then 1 else a2) = ji4 := hji4
  replace H := Option.bind_eq_some_iff.mp H
  obtain ⟨t118, A50, H⟩ := H
  replace H : ((fix_size.f a1).bind fun t119 => ((bits_Mul64.f t118 t119).bind fun bt120 => (if bt120.1 < (IntKind.u64.wrap (ji4)) then ((bits_Div64.f bt120.1 bt120.2 (IntKind.u64.wrap (ji4))).bind fun bt122 => (fix_Scale.j0 k true bt122.1 bt122.2)) else (fix_Scale.j0 k true 18446744073709551615 0)))) = some (r1, r2) := H
  have A5 := Aside0.mk A50
  clear A50
  replace H := Option.bind_eq_some_iff.mp H
  obtain ⟨t119, A60, H⟩ := H
  replace H : ((bits_Mul64.f t118 t119).bind fun bt120 => (if bt120.1 < (IntKind.u64.wrap (ji4)) then ((bits_Div64.f bt120.1 bt120.2 (IntKind.u64.wrap (ji4))).bind fun bt122 => (fix_Scale.j0 k true bt122.1 bt122.2)) else (fix_Scale.j0 k true 18446744073709551615 0))) = some (r1, r2) := H
  have A6 := Aside0.mk A60
  clear A60
  replace H := Option.bind_eq_some_iff.mp H
  obtain ⟨⟨t120, t121⟩, A70, H⟩ := H
  replace H : (if t120 < (IntKind.u64.wrap (ji4)) then ((bits_Div64.f t120 t121 (IntKind.u64.wrap (ji4))).bind fun bt122 => (fix_Scale.j0 k true bt122.1 bt122.2)) else (fix_Scale.j0 k true 18446744073709551615 0)) = some (r1, r2) := H
  have A7 := Aside0.mk A70
  clear A70
  have HC8 := Aside0.mk H
  clear H
  go_enter Tryd.func17, Tryd.ntmps17
  go_upto_if 32 with (first | ((with_reducible refine gate_callee (f := 31) rfl ?_); refine goesL_ (some 24) rfl rfl Tryd.func31 (by kernel_rfl) rfl #[.int .i64 a0] rfl (by (try simp only [List.map_toArray, List.map_cons, List.map_nil]); first | done | rfl | (simp only [List.length_drop, List.length_take]; rfl)) ?_; (with_reducible refine (fix_size.calls a0 t118 _ A5.out).mono ?_); rintro e w' ⟨rfl, ⟨nd, rfl⟩⟩; refine ⟨_, rfl, ?_⟩) | ((with_reducible refine gate_callee (f := 31) rfl ?_); refine goesL_ (some 26) rfl rfl Tryd.func31 (by kernel_rfl) rfl #[.int .i64 a1] rfl (by (try simp only [List.map_toArray, List.map_cons, List.map_nil]); first | done | rfl | (simp only [List.length_drop, List.length_take]; rfl)) ?_; (with_reducible refine (fix_size.calls a1 t119 _ A6.out).mono ?_); rintro e w' ⟨rfl, ⟨nd, rfl⟩⟩; refine ⟨_, rfl, ?_⟩) | ((with_reducible refine gate_callee (f := 33) rfl ?_); refine goesL_ (some 27) rfl rfl Tryd.func33 (by kernel_rfl) rfl #[.int .u64 t118, .int .u64 t119] rfl (by (try simp only [List.map_toArray, List.map_cons, List.map_nil]); first | done | rfl | (simp only [List.length_drop, List.length_take]; rfl)) ?_; (with_reducible refine (bits_Mul64.calls t118 t119 t120 t121 _ A7.out).mono ?_); rintro e w9 ⟨rfl, hb⟩; refine ⟨_, rfl, ?_⟩; have n0_ := Aside0.mk (below_step (by repeat (first | (with_reducible first | exact HB.out | apply below_alloc | apply pw_below_drewN | apply below_drew1) | exact HB.out)) hb); clear HB; have HB := n0_; clear n0_; (try clear hb); (try clear hb2); (try clear hk); (try clear hi)))
  (try simp only [Act.put, List.setIfInBounds_toArray, List.set_cons_zero, List.set_cons_succ])
  go_cut [12, 13] (fun v12 v13 wc => ∃ (kq : Nat) (x12_7 : Int) (x13_7 : Int), v12 = .int .u64 x12_7 ∧ v13 = .int .u64 x13_7 ∧ Aside0 (fix_Scale.j0 kq true x12_7 x13_7 = some (r1, r2)) ∧ Aside0 (kq ≤ k) ∧ Aside0 (Below w.heap.size w wc))
  case first =>
    have H := HC8.out
    clear HC8
    by_cases c10 : t120 < (IntKind.u64.wrap (ji4))
    · rw [if_pos c10] at H
      have c10b0 : decide (t120 < (IntKind.u64.wrap (ji4))) = true := decide_eq_true c10
      clear c10
      (first | rw [c10b0] | (simp only [i64_w, i32_w]; rw [c10b0]) | skip)
      replace H := Option.bind_eq_some_iff.mp H
      obtain ⟨⟨t122, t123⟩, A110, H⟩ := H
      replace H : (fix_Scale.j0 k true t122 t123) = some (r1, r2) := H
      have A11 := Aside0.mk A110
      clear A110
      have H' := Aside0.mk H
      clear H
      go_wp2_with (first | ((with_reducible refine gate_callee (f := 34) rfl ?_); refine goesL_ (some 37) rfl rfl Tryd.func34 (by kernel_rfl) rfl #[.int .u64 t120, .int .u64 t121, .int .u64 (IntKind.u64.wrap (ji4))] rfl (by (try simp only [List.map_toArray, List.map_cons, List.map_nil]); first | done | (simp only [hji4]; rfl) | rfl | (simp only [List.length_drop, List.length_take]; rfl)) ?_; (with_reducible refine (bits_Div64.calls t120 t121 (IntKind.u64.wrap (ji4)) t122 t123 _ A11.out).mono ?_); rintro e w12 ⟨rfl, hb⟩; refine ⟨_, rfl, ?_⟩; have n0_ := Aside0.mk (below_step (by repeat (first | (with_reducible first | exact HB.out | apply below_alloc | apply pw_below_drewN | apply below_drew1) | exact HB.out)) hb); clear HB; have HB := n0_; clear n0_; (try clear hb); (try clear hb2); (try clear hk); (try clear hi)))
      go_meet
      case rel => exact ⟨_, (t122), (t123), (by first | rfl | (simp; done) | (simp [*]; done)), (by first | rfl | (simp; done) | (simp [*]; done)), H', ⟨by first | omega | exact Nat.le_refl _⟩, ⟨by repeat (first | (with_reducible first | exact HB.out | apply below_alloc | apply pw_below_drewN | apply below_drew1) | exact HB.out)⟩⟩
    · rw [if_neg c10] at H
      have c10b0 : decide (t120 < (IntKind.u64.wrap (ji4))) = false := decide_eq_false c10
      clear c10
      (first | rw [c10b0] | (simp only [i64_w, i32_w]; rw [c10b0]) | skip)
      have H' := Aside0.mk H
      clear H
      go_wp2
      go_meet
      case rel => exact ⟨_, (18446744073709551615), (0), (by first | rfl | (simp; done) | (simp [*]; done)), (by first | rfl | (simp; done) | (simp [*]; done)), H', ⟨by first | omega | exact Nat.le_refl _⟩, ⟨by repeat (first | (with_reducible first | exact HB.out | apply below_alloc | apply pw_below_drewN | apply below_drew1) | exact HB.out)⟩⟩
  case rest =>
    clear HC8
    try clear c1
    try clear p2
    try clear c3
    try clear c10
    try clear c10b0
    obtain ⟨kq, x12_7, x13_7, rfl, rfl, HA, HJ7, HB⟩ := hcut
    cases kq with
    | zero => exact absurd HA.out (by simp [fix_Scale.j0])
    | succ kj7 =>
      have H := HA.out
      clear HA
      simp only [fix_Scale.j0] at H
      (try rw [HNG_.out] at H)
      have HC13 := Aside0.mk H
      clear H
      go_upto_region 7 with (fail)
      go_cut [48] (fun v48 wc => ∃ (kq : Nat) (x48_12 : Bool), v48 = .bool x48_12 ∧ Aside0 (fix_Scale.j1 kq true x12_7 x48_12 = some (r1, r2)) ∧ Aside0 (kq ≤ kj7) ∧ Aside0 (Below w.heap.size w wc))
      case first =>
        have H := HC13.out
        clear HC13
        by_cases c14 : true = true
        · (first | rw [if_pos c14] at H | rw [if_pos trivial] at H | rw [if_neg not_false] at H)
          have c14b0 : true = true := rfl
          (try (have c14b1 : decide ((decide (a0 < 0)) = (decide (a1 < 0))) = false := by simpa using c14))
          (try (have c14b2 : ((decide (a0 < 0)) == (decide (a1 < 0))) = false := by simpa using c14))
          (try (have c14b3 : ¬ ((decide (a0 < 0)) = (decide (a1 < 0))) := by simpa using c14))
          clear c14
          (first | rw [c14b0] | (simp only [i64_w, i32_w]; rw [c14b0]) | rw [c14b1] | skip)
          by_cases c15 : x13_7 > 0
          · rw [if_pos c15] at H
            have c15b0 : decide (0 < x13_7) = true := decide_eq_true c15
            clear c15
            have H' := Aside0.mk H
            clear H
            go_wp2
            go_meet
            case rel => exact ⟨_, (decide (x12_7 < 18446744073709551615)), (by first | rfl | (simp; done) | (simp [*]; done)), H', ⟨by have := HJ7.out; first | omega | exact Nat.le_refl _⟩, ⟨by repeat (first | (with_reducible first | exact HB.out | apply below_alloc | apply pw_below_drewN | apply below_drew1) | exact HB.out)⟩⟩
          · rw [if_neg c15] at H
            have c15b0 : decide (0 < x13_7) = false := decide_eq_false c15
            clear c15
            have H' := Aside0.mk H
            clear H
            go_wp2
            go_meet
            case rel => exact ⟨_, (false), (by first | rfl | (simp; done) | (simp [*]; done)), H', ⟨by have := HJ7.out; first | omega | exact Nat.le_refl _⟩, ⟨by repeat (first | (with_reducible first | exact HB.out | apply below_alloc | apply pw_below_drewN | apply below_drew1) | exact HB.out)⟩⟩
        · exact absurd rfl c14
      case rest =>
        clear HC13
        try clear c1
        try clear p2
        try clear c3
        try clear c10
        try clear c10b0
        try clear c14
        try clear c14b0
        try clear c14b1
        try clear c14b2
        try clear c15
        try clear c15b0
        try clear p2
        obtain ⟨kq, x48_12, rfl, HA, HJ12, HB⟩ := hcut
        cases kq with
        | zero => exact absurd HA.out (by simp [fix_Scale.j1])
        | succ kj12 =>
          have H := HA.out
          clear HA
          simp only [fix_Scale.j1] at H
          (try rw [HNG_.out] at H)
          have HC16 := Aside0.mk H
          clear H
          go_upto_if 48 with (fail)
          go_cut [12] (fun v12 wc => ∃ (kq : Nat) (x12_15 : Int), v12 = .int .u64 x12_15 ∧ Aside0 (fix_Scale.j2 kq true x12_15 = some (r1, r2)) ∧ Aside0 (kq ≤ kj12) ∧ Aside0 (Below w.heap.size w wc))
          case first =>
            have H := HC16.out
            clear HC16
            by_cases c17 : x48_12 = true
            · subst c17
              have H1 : (fix_Scale.j2 kj12 true (IntKind.u64.wrap (x12_7 + 1))) = some (r1, r2) := by rw [if_pos rfl] at H; exact H
              clear H
              have H := H1
              clear H1
              have H' := Aside0.mk H
              clear H
              go_wp2
              go_meet
              case rel => exact ⟨_, (IntKind.u64.wrap (x12_7 + 1)), (by first | rfl | (simp; done) | (simp [*]; done)), H', ⟨by have := HJ7.out; have := HJ12.out; first | omega | exact Nat.le_refl _⟩, ⟨by repeat (first | (with_reducible first | exact HB.out | apply below_alloc | apply pw_below_drewN | apply below_drew1) | exact HB.out)⟩⟩
            · replace c17 := Bool.eq_false_iff.mpr c17
              subst c17
              have H1 : (fix_Scale.j2 kj12 true x12_7) = some (r1, r2) := by rw [if_neg (show ¬ (false = true) by decide)] at H; exact H
              clear H
              have H := H1
              clear H1
              have H' := Aside0.mk H
              clear H
              go_wp2
              go_meet
              case rel => exact ⟨_, (x12_7), (by first | rfl | (simp; done) | (simp [*]; done)), H', ⟨by have := HJ7.out; have := HJ12.out; first | omega | exact Nat.le_refl _⟩, ⟨by repeat (first | (with_reducible first | exact HB.out | apply below_alloc | apply pw_below_drewN | apply below_drew1) | exact HB.out)⟩⟩
          case rest =>
            clear HC16
            try clear c1
            try clear p2
            try clear c3
            try clear c10
            try clear c10b0
            try clear c14
            try clear c14b0
            try clear c14b1
            try clear c14b2
            try clear c15
            try clear c15b0
            try clear c17
            try clear p2
            obtain ⟨kq, x12_15, rfl, HA, HJ15, HB⟩ := hcut
            cases kq with
            | zero => exact absurd HA.out (by simp [fix_Scale.j2])
            | succ kj15 =>
              have H := HA.out
              clear HA
              simp only [fix_Scale.j2] at H
              (try rw [HNG_.out] at H)
              have HC18 := Aside0.mk H
              clear H
              go_upto_region 9 with (fail)
              go_cut [51] (fun v51 wc => ∃ (kq : Nat) (x51_17 : Bool), v51 = .bool x51_17 ∧ Aside0 (fix_Scale.j3 kq true x12_15 x51_17 = some (r1, r2)) ∧ Aside0 (kq ≤ kj15) ∧ Aside0 (Below w.heap.size w wc))
              case first =>
                have H := HC18.out
                clear HC18
                by_cases c19 : true = true
                · (first | rw [if_pos c19] at H | rw [if_pos trivial] at H | rw [if_neg not_false] at H)
                  have c19b0 : true = true := rfl
                  (try (have c19b1 : decide ((decide (a0 < 0)) = (decide (a1 < 0))) = false := by simpa using c19))
                  (try (have c19b2 : ((decide (a0 < 0)) == (decide (a1 < 0))) = false := by simpa using c19))
                  (try (have c19b3 : ¬ ((decide (a0 < 0)) = (decide (a1 < 0))) := by simpa using c19))
                  clear c19
                  (first | rw [c19b0] | (simp only [i64_w, i32_w]; rw [c19b0]) | rw [c19b1] | skip)
                  have H' := Aside0.mk H
                  clear H
                  go_wp2
                  go_meet
                  case rel => exact ⟨_, (decide (x12_15 > 9223372036854775808)), (by first | rfl | (simp; done) | (simp [*]; done)), H', ⟨by have := HJ7.out; have := HJ12.out; have := HJ15.out; first | omega | exact Nat.le_refl _⟩, ⟨by repeat (first | (with_reducible first | exact HB.out | apply below_alloc | apply pw_below_drewN | apply below_drew1) | exact HB.out)⟩⟩
                · exact absurd rfl c19
              case rest =>
                clear HC18
                try clear c1
                try clear p2
                try clear c3
                try clear c10
                try clear c10b0
                try clear c14
                try clear c14b0
                try clear c14b1
                try clear c14b2
                try clear c15
                try clear c15b0
                try clear c17
                try clear c19
                try clear c19b0
                try clear c19b1
                try clear c19b2
                try clear p2
                obtain ⟨kq, x51_17, rfl, HA, HJ17, HB⟩ := hcut
                cases kq with
                | zero => exact absurd HA.out (by simp [fix_Scale.j3])
                | succ kj17 =>
                  have H := HA.out
                  clear HA
                  simp only [fix_Scale.j3] at H
                  (try rw [HNG_.out] at H)
                  by_cases c20 : x51_17 = true
                  · subst c20
                    have H1 : (some ((-9223372036854775808), true)) = some (r1, r2) := by rw [if_pos rfl] at H; exact H
                    clear H
                    have H := H1
                    clear H1
                    simp only [Option.some.injEq, Prod.mk.injEq] at H
                    obtain ⟨rfl, rfl⟩ := H
                    go_wp2
                    go_ret2
                    exact ⟨by first | rfl | (simp [errW_none, errW_some] <;> rfl) | (simp only [← hji4]; first | rfl | (simp [errW_none, errW_some] <;> rfl)) | (simp [*, errW_none, errW_some] <;> rfl), by repeat (first | (with_reducible first | exact HB.out | apply below_alloc | apply pw_below_drewN | apply below_drew1) | exact HB.out)⟩
                  · replace c20 := Bool.eq_false_iff.mpr c20
                    subst c20
                    have H1 : (if true = true then (some (wrap64 (-(wrap64 (x12_15))), false)) else (if x12_15 > 9223372036854775807 then (some (9223372036854775807, true)) else (some (wrap64 (x12_15), false)))) = some (r1, r2) := by rw [if_neg (show ¬ (false = true) by decide)] at H; exact H
                    clear H
                    have H := H1
                    clear H1
                    by_cases c21 : true = true
                    · (first | rw [if_pos c21] at H | rw [if_pos trivial] at H | rw [if_neg not_false] at H)
                      have c21b0 : true = true := rfl
                      (try (have c21b1 : decide ((decide (a0 < 0)) = (decide (a1 < 0))) = false := by simpa using c21))
                      (try (have c21b2 : ((decide (a0 < 0)) == (decide (a1 < 0))) = false := by simpa using c21))
                      (try (have c21b3 : ¬ ((decide (a0 < 0)) = (decide (a1 < 0))) := by simpa using c21))
                      clear c21
                      simp only [Option.some.injEq, Prod.mk.injEq] at H
                      obtain ⟨rfl, rfl⟩ := H
                      go_wp2
                      go_ret2
                      exact ⟨by first | rfl | (simp [errW_none, errW_some] <;> rfl) | (simp only [← hji4]; first | rfl | (simp [errW_none, errW_some] <;> rfl)) | (simp [*, errW_none, errW_some] <;> rfl), by repeat (first | (with_reducible first | exact HB.out | apply below_alloc | apply pw_below_drewN | apply below_drew1) | exact HB.out)⟩
                    · exact absurd rfl c21
set_option maxHeartbeats 4000000 in
set_option maxRecDepth 100000 in
theorem fix_Scale.calls_false (k : Nat) (a0 : Int) (a1 : Int) (a2 : Int) (r1 : Int) (r2 : Bool) (w : World) (hng0_ : ((decide (a0 < 0)) != (decide (a1 < 0))) = false) (h : fix_Scale.f k a0 a1 a2 = some (r1, r2)) :
    Calls Tryd.prog 17 #[.int .i64 a0, .int .i64 a1, .int .i64 a2] w fun e w' => e = .returned (.tuple #[.int .i64 r1, .bool r2]) ∧ Below w.heap.size w w' := by
  have HB := Aside0.mk (Below.refl w.heap.size w)
  have H : ((fix_size.f a0).bind fun t118 => ((fix_size.f a1).bind fun t119 => ((bits_Mul64.f t118 t119).bind fun bt120 => (if bt120.1 < (IntKind.u64.wrap (mx a2 1)) then ((bits_Div64.f bt120.1 bt120.2 (IntKind.u64.wrap (mx a2 1))).bind fun bt122 => (fix_Scale.j0 k ((decide (a0 < 0)) != (decide (a1 < 0))) bt122.1 bt122.2)) else (fix_Scale.j0 k ((decide (a0 < 0)) != (decide (a1 < 0))) 18446744073709551615 0))))) = some (r1, r2) := h
  clear h
  (try rw [hng0_] at H)
  have hng_ : (!(decide (a0 < 0) == decide (a1 < 0))) = false := hng0_
  have HNG_ := Aside0.mk hng0_
  clear hng0_
  obtain ⟨ji4, hji4⟩ : ∃ j_ : Int, (mx a2 1) = j_ := ⟨_, rfl⟩
  replace H : ((fix_size.f a0).bind fun t118 => ((fix_size.f a1).bind fun t119 => ((bits_Mul64.f t118 t119).bind fun bt120 => (if bt120.1 < (IntKind.u64.wrap (ji4)) then ((bits_Div64.f bt120.1 bt120.2 (IntKind.u64.wrap (ji4))).bind fun bt122 => (fix_Scale.j0 k false bt122.1 bt122.2)) else (fix_Scale.j0 k false 18446744073709551615 0))))) = some (r1, r2) := by first | (rw [hji4] at H; exact H) | (simp only [hji4] at H ⊢; exact H)
  (try (have hji4l : 1 ≤ ji4 := by (rw [← hji4]; unfold mx; (repeat' split) <;> omega)))
  (try (have hji4m : 0 ≤ ji4 := by omega))
  have hji4_ : (if a2 < 1 then 1 else a2) = ji4 := hji4
  replace H := Option.bind_eq_some_iff.mp H
  obtain ⟨t118, A50, H⟩ := H
  replace H : ((fix_size.f a1).bind fun t119 => ((bits_Mul64.f t118 t119).bind fun bt120 => (if bt120.1 < (IntKind.u64.wrap (ji4)) then ((bits_Div64.f bt120.1 bt120.2 (IntKind.u64.wrap (ji4))).bind fun bt122 => (fix_Scale.j0 k false bt122.1 bt122.2)) else (fix_Scale.j0 k false 18446744073709551615 0)))) = some (r1, r2) := H
  have A5 := Aside0.mk A50
  clear A50
  replace H := Option.bind_eq_some_iff.mp H
  obtain ⟨t119, A60, H⟩ := H
  replace H : ((bits_Mul64.f t118 t119).bind fun bt120 => (if bt120.1 < (IntKind.u64.wrap (ji4)) then ((bits_Div64.f bt120.1 bt120.2 (IntKind.u64.wrap (ji4))).bind fun bt122 => (fix_Scale.j0 k false bt122.1 bt122.2)) else (fix_Scale.j0 k false 18446744073709551615 0))) = some (r1, r2) := H
  have A6 := Aside0.mk A60
  clear A60
  replace H := Option.bind_eq_some_iff.mp H
  obtain ⟨⟨t120, t121⟩, A70, H⟩ := H
  replace H : (if t120 < (IntKind.u64.wrap (ji4)) then ((bits_Div64.f t120 t121 (IntKind.u64.wrap (ji4))).bind fun bt122 => (fix_Scale.j0 k false bt122.1 bt122.2)) else (fix_Scale.j0 k false 18446744073709551615 0)) = some (r1, r2) := H
  have A7 := Aside0.mk A70
  clear A70
  have HC8 := Aside0.mk H
  clear H
  go_enter Tryd.func17, Tryd.ntmps17
  go_upto_if 32 with (first | ((with_reducible refine gate_callee (f := 31) rfl ?_); refine goesL_ (some 24) rfl rfl Tryd.func31 (by kernel_rfl) rfl #[.int .i64 a0] rfl (by (try simp only [List.map_toArray, List.map_cons, List.map_nil]); first | done | rfl | (simp only [List.length_drop, List.length_take]; rfl)) ?_; (with_reducible refine (fix_size.calls a0 t118 _ A5.out).mono ?_); rintro e w' ⟨rfl, ⟨nd, rfl⟩⟩; refine ⟨_, rfl, ?_⟩) | ((with_reducible refine gate_callee (f := 31) rfl ?_); refine goesL_ (some 26) rfl rfl Tryd.func31 (by kernel_rfl) rfl #[.int .i64 a1] rfl (by (try simp only [List.map_toArray, List.map_cons, List.map_nil]); first | done | rfl | (simp only [List.length_drop, List.length_take]; rfl)) ?_; (with_reducible refine (fix_size.calls a1 t119 _ A6.out).mono ?_); rintro e w' ⟨rfl, ⟨nd, rfl⟩⟩; refine ⟨_, rfl, ?_⟩) | ((with_reducible refine gate_callee (f := 33) rfl ?_); refine goesL_ (some 27) rfl rfl Tryd.func33 (by kernel_rfl) rfl #[.int .u64 t118, .int .u64 t119] rfl (by (try simp only [List.map_toArray, List.map_cons, List.map_nil]); first | done | rfl | (simp only [List.length_drop, List.length_take]; rfl)) ?_; (with_reducible refine (bits_Mul64.calls t118 t119 t120 t121 _ A7.out).mono ?_); rintro e w9 ⟨rfl, hb⟩; refine ⟨_, rfl, ?_⟩; have n0_ := Aside0.mk (below_step (by repeat (first | (with_reducible first | exact HB.out | apply below_alloc | apply pw_below_drewN | apply below_drew1) | exact HB.out)) hb); clear HB; have HB := n0_; clear n0_; (try clear hb); (try clear hb2); (try clear hk); (try clear hi)))
  (try simp only [Act.put, List.setIfInBounds_toArray, List.set_cons_zero, List.set_cons_succ])
  go_cut [12, 13] (fun v12 v13 wc => ∃ (kq : Nat) (x12_7 : Int) (x13_7 : Int), v12 = .int .u64 x12_7 ∧ v13 = .int .u64 x13_7 ∧ Aside0 (fix_Scale.j0 kq false x12_7 x13_7 = some (r1, r2)) ∧ Aside0 (kq ≤ k) ∧ Aside0 (Below w.heap.size w wc))
  case first =>
    have H := HC8.out
    clear HC8
    by_cases c10 : t120 < (IntKind.u64.wrap (ji4))
    · rw [if_pos c10] at H
      have c10b0 : decide (t120 < (IntKind.u64.wrap (ji4))) = true := decide_eq_true c10
      clear c10
      (first | rw [c10b0] | (simp only [i64_w, i32_w]; rw [c10b0]) | skip)
      replace H := Option.bind_eq_some_iff.mp H
      obtain ⟨⟨t122, t123⟩, A110, H⟩ := H
      replace H : (fix_Scale.j0 k false t122 t123) = some (r1, r2) := H
      have A11 := Aside0.mk A110
      clear A110
      have H' := Aside0.mk H
      clear H
      go_wp2_with (first | ((with_reducible refine gate_callee (f := 34) rfl ?_); refine goesL_ (some 37) rfl rfl Tryd.func34 (by kernel_rfl) rfl #[.int .u64 t120, .int .u64 t121, .int .u64 (IntKind.u64.wrap (ji4))] rfl (by (try simp only [List.map_toArray, List.map_cons, List.map_nil]); first | done | (simp only [hji4]; rfl) | rfl | (simp only [List.length_drop, List.length_take]; rfl)) ?_; (with_reducible refine (bits_Div64.calls t120 t121 (IntKind.u64.wrap (ji4)) t122 t123 _ A11.out).mono ?_); rintro e w12 ⟨rfl, hb⟩; refine ⟨_, rfl, ?_⟩; have n0_ := Aside0.mk (below_step (by repeat (first | (with_reducible first | exact HB.out | apply below_alloc | apply pw_below_drewN | apply below_drew1) | exact HB.out)) hb); clear HB; have HB := n0_; clear n0_; (try clear hb); (try clear hb2); (try clear hk); (try clear hi)))
      go_meet
      case rel => exact ⟨_, (t122), (t123), (by first | rfl | (simp; done) | (simp [*]; done)), (by first | rfl | (simp; done) | (simp [*]; done)), H', ⟨by first | omega | exact Nat.le_refl _⟩, ⟨by repeat (first | (with_reducible first | exact HB.out | apply below_alloc | apply pw_below_drewN | apply below_drew1) | exact HB.out)⟩⟩
    · rw [if_neg c10] at H
      have c10b0 : decide (t120 < (IntKind.u64.wrap (ji4))) = false := decide_eq_false c10
      clear c10
      (first | rw [c10b0] | (simp only [i64_w, i32_w]; rw [c10b0]) | skip)
      have H' := Aside0.mk H
      clear H
      go_wp2
      go_meet
      case rel => exact ⟨_, (18446744073709551615), (0), (by first | rfl | (simp; done) | (simp [*]; done)), (by first | rfl | (simp; done) | (simp [*]; done)), H', ⟨by first | omega | exact Nat.le_refl _⟩, ⟨by repeat (first | (with_reducible first | exact HB.out | apply below_alloc | apply pw_below_drewN | apply below_drew1) | exact HB.out)⟩⟩
  case rest =>
    clear HC8
    try clear c1
    try clear p2
    try clear c3
    try clear c10
    try clear c10b0
    obtain ⟨kq, x12_7, x13_7, rfl, rfl, HA, HJ7, HB⟩ := hcut
    cases kq with
    | zero => exact absurd HA.out (by simp [fix_Scale.j0])
    | succ kj7 =>
      have H := HA.out
      clear HA
      simp only [fix_Scale.j0] at H
      (try rw [HNG_.out] at H)
      have HC13 := Aside0.mk H
      clear H
      go_upto_region 7 with (fail)
      go_cut [48] (fun v48 wc => ∃ (kq : Nat) (x48_12 : Bool), v48 = .bool x48_12 ∧ Aside0 (fix_Scale.j1 kq false x12_7 x48_12 = some (r1, r2)) ∧ Aside0 (kq ≤ kj7) ∧ Aside0 (Below w.heap.size w wc))
      case first =>
        have H := HC13.out
        clear HC13
        by_cases c14 : false = true
        · exact absurd c14 Bool.false_ne_true
        · (first | rw [if_neg c14] at H | rw [if_pos trivial] at H | rw [if_neg not_false] at H)
          have c14b0 : false = false := rfl
          (try (have c14b1 : decide ((decide (a0 < 0)) = (decide (a1 < 0))) = true := by simpa using c14))
          (try (have c14b2 : ((decide (a0 < 0)) == (decide (a1 < 0))) = true := by simpa using c14))
          clear c14
          (first | rw [c14b0] | (simp only [i64_w, i32_w]; rw [c14b0]) | rw [c14b1] | skip)
          have H' := Aside0.mk H
          clear H
          go_wp2
          go_meet
          case rel => exact ⟨_, (false), (by first | rfl | (simp; done) | (simp [*]; done)), H', ⟨by have := HJ7.out; first | omega | exact Nat.le_refl _⟩, ⟨by repeat (first | (with_reducible first | exact HB.out | apply below_alloc | apply pw_below_drewN | apply below_drew1) | exact HB.out)⟩⟩
      case rest =>
        clear HC13
        try clear c1
        try clear p2
        try clear c3
        try clear c10
        try clear c10b0
        try clear c14
        try clear c14b0
        try clear c14b1
        try clear c14b2
        try clear c15
        try clear c15b0
        try clear p2
        obtain ⟨kq, x48_12, rfl, HA, HJ12, HB⟩ := hcut
        cases kq with
        | zero => exact absurd HA.out (by simp [fix_Scale.j1])
        | succ kj12 =>
          have H := HA.out
          clear HA
          simp only [fix_Scale.j1] at H
          (try rw [HNG_.out] at H)
          have HC16 := Aside0.mk H
          clear H
          go_upto_if 48 with (fail)
          go_cut [12] (fun v12 wc => ∃ (kq : Nat) (x12_15 : Int), v12 = .int .u64 x12_15 ∧ Aside0 (fix_Scale.j2 kq false x12_15 = some (r1, r2)) ∧ Aside0 (kq ≤ kj12) ∧ Aside0 (Below w.heap.size w wc))
          case first =>
            have H := HC16.out
            clear HC16
            by_cases c17 : x48_12 = true
            · subst c17
              have H1 : (fix_Scale.j2 kj12 false (IntKind.u64.wrap (x12_7 + 1))) = some (r1, r2) := by rw [if_pos rfl] at H; exact H
              clear H
              have H := H1
              clear H1
              have H' := Aside0.mk H
              clear H
              go_wp2
              go_meet
              case rel => exact ⟨_, (IntKind.u64.wrap (x12_7 + 1)), (by first | rfl | (simp; done) | (simp [*]; done)), H', ⟨by have := HJ7.out; have := HJ12.out; first | omega | exact Nat.le_refl _⟩, ⟨by repeat (first | (with_reducible first | exact HB.out | apply below_alloc | apply pw_below_drewN | apply below_drew1) | exact HB.out)⟩⟩
            · replace c17 := Bool.eq_false_iff.mpr c17
              subst c17
              have H1 : (fix_Scale.j2 kj12 false x12_7) = some (r1, r2) := by rw [if_neg (show ¬ (false = true) by decide)] at H; exact H
              clear H
              have H := H1
              clear H1
              have H' := Aside0.mk H
              clear H
              go_wp2
              go_meet
              case rel => exact ⟨_, (x12_7), (by first | rfl | (simp; done) | (simp [*]; done)), H', ⟨by have := HJ7.out; have := HJ12.out; first | omega | exact Nat.le_refl _⟩, ⟨by repeat (first | (with_reducible first | exact HB.out | apply below_alloc | apply pw_below_drewN | apply below_drew1) | exact HB.out)⟩⟩
          case rest =>
            clear HC16
            try clear c1
            try clear p2
            try clear c3
            try clear c10
            try clear c10b0
            try clear c14
            try clear c14b0
            try clear c14b1
            try clear c14b2
            try clear c15
            try clear c15b0
            try clear c17
            try clear p2
            obtain ⟨kq, x12_15, rfl, HA, HJ15, HB⟩ := hcut
            cases kq with
            | zero => exact absurd HA.out (by simp [fix_Scale.j2])
            | succ kj15 =>
              have H := HA.out
              clear HA
              simp only [fix_Scale.j2] at H
              (try rw [HNG_.out] at H)
              have HC18 := Aside0.mk H
              clear H
              go_upto_region 9 with (fail)
              go_cut [51] (fun v51 wc => ∃ (kq : Nat) (x51_17 : Bool), v51 = .bool x51_17 ∧ Aside0 (fix_Scale.j3 kq false x12_15 x51_17 = some (r1, r2)) ∧ Aside0 (kq ≤ kj15) ∧ Aside0 (Below w.heap.size w wc))
              case first =>
                have H := HC18.out
                clear HC18
                by_cases c19 : false = true
                · exact absurd c19 Bool.false_ne_true
                · (first | rw [if_neg c19] at H | rw [if_pos trivial] at H | rw [if_neg not_false] at H)
                  have c19b0 : false = false := rfl
                  (try (have c19b1 : decide ((decide (a0 < 0)) = (decide (a1 < 0))) = true := by simpa using c19))
                  (try (have c19b2 : ((decide (a0 < 0)) == (decide (a1 < 0))) = true := by simpa using c19))
                  clear c19
                  (first | rw [c19b0] | (simp only [i64_w, i32_w]; rw [c19b0]) | rw [c19b1] | skip)
                  have H' := Aside0.mk H
                  clear H
                  go_wp2
                  go_meet
                  case rel => exact ⟨_, (false), (by first | rfl | (simp; done) | (simp [*]; done)), H', ⟨by have := HJ7.out; have := HJ12.out; have := HJ15.out; first | omega | exact Nat.le_refl _⟩, ⟨by repeat (first | (with_reducible first | exact HB.out | apply below_alloc | apply pw_below_drewN | apply below_drew1) | exact HB.out)⟩⟩
              case rest =>
                clear HC18
                try clear c1
                try clear p2
                try clear c3
                try clear c10
                try clear c10b0
                try clear c14
                try clear c14b0
                try clear c14b1
                try clear c14b2
                try clear c15
                try clear c15b0
                try clear c17
                try clear c19
                try clear c19b0
                try clear c19b1
                try clear c19b2
                try clear p2
                obtain ⟨kq, x51_17, rfl, HA, HJ17, HB⟩ := hcut
                cases kq with
                | zero => exact absurd HA.out (by simp [fix_Scale.j3])
                | succ kj17 =>
                  have H := HA.out
                  clear HA
                  simp only [fix_Scale.j3] at H
                  (try rw [HNG_.out] at H)
                  by_cases c20 : x51_17 = true
                  · subst c20
                    have H1 : (some ((-9223372036854775808), true)) = some (r1, r2) := by rw [if_pos rfl] at H; exact H
                    clear H
                    have H := H1
                    clear H1
                    simp only [Option.some.injEq, Prod.mk.injEq] at H
                    obtain ⟨rfl, rfl⟩ := H
                    go_wp2
                    go_ret2
                    exact ⟨by first | rfl | (simp [errW_none, errW_some] <;> rfl) | (simp only [← hji4]; first | rfl | (simp [errW_none, errW_some] <;> rfl)) | (simp [*, errW_none, errW_some] <;> rfl), by repeat (first | (with_reducible first | exact HB.out | apply below_alloc | apply pw_below_drewN | apply below_drew1) | exact HB.out)⟩
                  · replace c20 := Bool.eq_false_iff.mpr c20
                    subst c20
                    have H1 : (if false = true then (some (wrap64 (-(wrap64 (x12_15))), false)) else (if x12_15 > 9223372036854775807 then (some (9223372036854775807, true)) else (some (wrap64 (x12_15), false)))) = some (r1, r2) := by rw [if_neg (show ¬ (false = true) by decide)] at H; exact H
                    clear H
                    have H := H1
                    clear H1
                    by_cases c21 : false = true
                    · exact absurd c21 Bool.false_ne_true
                    · (first | rw [if_neg c21] at H | rw [if_pos trivial] at H | rw [if_neg not_false] at H)
                      have c21b0 : false = false := rfl
                      (try (have c21b1 : decide ((decide (a0 < 0)) = (decide (a1 < 0))) = true := by simpa using c21))
                      (try (have c21b2 : ((decide (a0 < 0)) == (decide (a1 < 0))) = true := by simpa using c21))
                      clear c21
                      by_cases c22 : x12_15 > 9223372036854775807
                      · rw [if_pos c22] at H
                        have c22b0 : decide (9223372036854775807 < x12_15) = true := decide_eq_true c22
                        clear c22
                        simp only [Option.some.injEq, Prod.mk.injEq] at H
                        obtain ⟨rfl, rfl⟩ := H
                        go_wp2
                        go_ret2
                        exact ⟨by first | rfl | (simp [errW_none, errW_some] <;> rfl) | (simp only [← hji4]; first | rfl | (simp [errW_none, errW_some] <;> rfl)) | (simp [*, errW_none, errW_some] <;> rfl), by repeat (first | (with_reducible first | exact HB.out | apply below_alloc | apply pw_below_drewN | apply below_drew1) | exact HB.out)⟩
                      · rw [if_neg c22] at H
                        have c22b0 : decide (9223372036854775807 < x12_15) = false := decide_eq_false c22
                        clear c22
                        simp only [Option.some.injEq, Prod.mk.injEq] at H
                        obtain ⟨rfl, rfl⟩ := H
                        go_wp2
                        go_ret2
                        exact ⟨by first | rfl | (simp [errW_none, errW_some] <;> rfl) | (simp only [← hji4]; first | rfl | (simp [errW_none, errW_some] <;> rfl)) | (simp [*, errW_none, errW_some] <;> rfl), by repeat (first | (with_reducible first | exact HB.out | apply below_alloc | apply pw_below_drewN | apply below_drew1) | exact HB.out)⟩
theorem fix_Scale.calls (k : Nat) (a0 : Int) (a1 : Int) (a2 : Int) (r1 : Int) (r2 : Bool) (w : World) (h : fix_Scale.f k a0 a1 a2 = some (r1, r2)) :
    Calls Tryd.prog 17 #[.int .i64 a0, .int .i64 a1, .int .i64 a2] w fun e w' => e = .returned (.tuple #[.int .i64 r1, .bool r2]) ∧ Below w.heap.size w w' := by
  cases hng0_ : ((decide (a0 < 0)) != (decide (a1 < 0))) with
  | true => exact fix_Scale.calls_true k a0 a1 a2 r1 r2 w hng0_ h
  | false => exact fix_Scale.calls_false k a0 a1 a2 r1 r2 w hng0_ h

end Go.Proofs.YtdgmgbcjlmighaaDoor.PSca
