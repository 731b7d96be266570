-- Printed for this claim by a program of the session (print2.py), out of the translation; Lean checks it.
import Derived.Test.YtdgmgbcjlmighaaDoorPAddx0
namespace Go.Proofs.YtdgmgbcjlmighaaDoor.PAdd
open Go.RowKit Go.Proofs.YtdgmgbcjlmighaaDoorW.PrintWords Go.Proofs.YtdgmgbcjlmighaaDoorW.PrintLast Go.Proofs.YtdgmgbcjlmighaaDoorW.PrintMore
set_option linter.unusedVariables false
set_option linter.unusedSimpArgs false

/-! ### fix_Parse: function 8 -/
def fix_Parse.f (a0 : ByteArray) : Option (Int × Int) :=
  if a0.size ≤ 1000000 ∧ (a0.data.toList.all fun c => decide (c.toNat < 128)) = true then some (parseF a0.data.toList) else none
theorem fix_Parse.calls (a0 : ByteArray) (r1 : Int) (r2 : Int) (w : World) (h : fix_Parse.f a0 = some (r1, r2)) :
    Calls Tryd.prog 8 #[.string a0] w fun e w' => e = .returned (.tuple #[.int .i64 r1, .int .i64 r2]) ∧ Below w.heap.size w w' := by
  unfold fix_Parse.f at h
  split at h
  case isFalse => cases h
  case isTrue hc =>
    have h1 := Option.some.inj h
    have e1 : (parseF a0.data.toList).1 = r1 := congrArg Prod.fst h1
    have e2 : (parseF a0.data.toList).2 = r2 := congrArg Prod.snd h1
    refine (parse_calls a0 w hc.1 (fun j b hb => of_decide_eq_true (List.all_eq_true.1 hc.2 b (List.mem_of_getElem? hb)))).mono ?_
    rintro e w' ⟨he, hb⟩
    rw [e1, e2] at he
    exact ⟨he, hb⟩

/-! ### odometerlaw01_reads: function 16 -/
def odometerlaw01_reads.f (a0 : ByteArray) (a1 : Int) : Option (Bool) := (fix_Parse.f a0).bind fun bt101 => (if bt101.2 = 0 then (some (a1 == bt101.1)) else (some false))
set_option maxHeartbeats 8000000 in
set_option maxRecDepth 100000 in
theorem odometerlaw01_reads.calls (a0 : ByteArray) (a1 : Int) (r : Bool) (w : World) (h : odometerlaw01_reads.f a0 a1 = some r) :
    Calls Tryd.prog 16 #[.string a0, .int .i64 a1] w fun e w' => e = .returned (.bool r) ∧ Below w.heap.size w w' := by
  have HB := Aside0.mk (Below.refl w.heap.size w)
  have H : ((fix_Parse.f a0).bind fun bt101 => (if bt101.2 = 0 then (some (a1 == bt101.1)) else (some false))) = some r := h
  clear h
  replace H := Option.bind_eq_some_iff.mp H
  obtain ⟨⟨t101, t102⟩, A30, H⟩ := H
  replace H : (if t102 = 0 then (some (a1 == t101)) else (some false)) = some r := H
  have A3 := Aside0.mk A30
  clear A30
  by_cases c4 : t102 = 0
  · rw [if_pos c4] at H
    have c4b0 : (t102 == 0) = true := beq_iff_eq.mpr c4
    have c4b1 : (t102 != 0) = false := bne_eq_false_iff_eq.mpr c4
    clear c4
    obtain rfl := Option.some.inj H
    go_enter Tryd.func16, Tryd.ntmps16
    go_wp2_with (first | ((with_reducible refine gate_callee (f := 8) rfl ?_); refine goesL_ (some 9) rfl rfl Tryd.func8 (by kernel_rfl) rfl #[.string a0] rfl (by (try simp only [List.map_toArray, List.map_cons, List.map_nil]); first | done | rfl | (simp only [List.length_drop, List.length_take]; rfl)) ?_; (with_reducible refine (fix_Parse.calls a0 t101 t102 _ A3.out).mono ?_); rintro e w5 ⟨rfl, hb⟩; refine ⟨_, rfl, ?_⟩; have n0_ := Aside0.mk (below_step (by repeat (first | (with_reducible first | exact HB.out | apply below_alloc | apply pw_below_drewN | apply below_drew1) | exact HB.out)) hb); clear HB; have HB := n0_; clear n0_; (try clear hb); (try clear hb2); (try clear hk); (try clear hi)))
    go_ret
    exact ⟨by first | rfl | (simp [errW_none, errW_some] <;> rfl) | (simp [*, errW_none, errW_some] <;> rfl), by repeat (first | (with_reducible first | exact HB.out | apply below_alloc | apply pw_below_drewN | apply below_drew1) | exact HB.out)⟩
  · rw [if_neg c4] at H
    have c4b0 : (t102 == 0) = false := beq_eq_false_iff_ne.mpr c4
    have c4b1 : (t102 != 0) = true := bne_iff_ne.mpr c4
    obtain rfl := Option.some.inj H
    go_enter Tryd.func16, Tryd.ntmps16
    go_wp2_with (first | ((with_reducible refine gate_callee (f := 8) rfl ?_); refine goesL_ (some 9) rfl rfl Tryd.func8 (by kernel_rfl) rfl #[.string a0] rfl (by (try simp only [List.map_toArray, List.map_cons, List.map_nil]); first | done | rfl | (simp only [List.length_drop, List.length_take]; rfl)) ?_; (with_reducible refine (fix_Parse.calls a0 t101 t102 _ A3.out).mono ?_); rintro e w6 ⟨rfl, hb⟩; refine ⟨_, rfl, ?_⟩; have n0_ := Aside0.mk (below_step (by repeat (first | (with_reducible first | exact HB.out | apply below_alloc | apply pw_below_drewN | apply below_drew1) | exact HB.out)) hb); clear HB; have HB := n0_; clear n0_; (try clear hb); (try clear hb2); (try clear hk); (try clear hi)))
    go_ret
    exact ⟨by first | rfl | (simp [errW_none, errW_some] <;> rfl) | (simp [*, errW_none, errW_some] <;> rfl), by repeat (first | (with_reducible first | exact HB.out | apply below_alloc | apply pw_below_drewN | apply below_drew1) | exact HB.out)⟩

/-! ### odometerlaw01_fails: function 19 -/
def odometerlaw01_fails.f (a0 : ByteArray) (a1 : Int) : Option (Bool) := (fix_Parse.f a0).bind fun bt103 => (if bt103.2 = a1 then (some (bt103.1 == 0)) else (some false))
set_option maxHeartbeats 8000000 in
set_option maxRecDepth 100000 in
theorem odometerlaw01_fails.calls (a0 : ByteArray) (a1 : Int) (r : Bool) (w : World) (h : odometerlaw01_fails.f a0 a1 = some r) :
    Calls Tryd.prog 19 #[.string a0, .int .i64 a1] w fun e w' => e = .returned (.bool r) ∧ Below w.heap.size w w' := by
  have HB := Aside0.mk (Below.refl w.heap.size w)
  have H : ((fix_Parse.f a0).bind fun bt103 => (if bt103.2 = a1 then (some (bt103.1 == 0)) else (some false))) = some r := h
  clear h
  replace H := Option.bind_eq_some_iff.mp H
  obtain ⟨⟨t103, t104⟩, A30, H⟩ := H
  replace H : (if t104 = a1 then (some (t103 == 0)) else (some false)) = some r := H
  have A3 := Aside0.mk A30
  clear A30
  by_cases c4 : t104 = a1
  · rw [if_pos c4] at H
    have c4b0 : (t104 == a1) = true := beq_iff_eq.mpr c4
    have c4b1 : (t104 != a1) = false := bne_eq_false_iff_eq.mpr c4
    clear c4
    obtain rfl := Option.some.inj H
    go_enter Tryd.func19, Tryd.ntmps19
    go_wp2_with (first | ((with_reducible refine gate_callee (f := 8) rfl ?_); refine goesL_ (some 9) rfl rfl Tryd.func8 (by kernel_rfl) rfl #[.string a0] rfl (by (try simp only [List.map_toArray, List.map_cons, List.map_nil]); first | done | rfl | (simp only [List.length_drop, List.length_take]; rfl)) ?_; (with_reducible refine (fix_Parse.calls a0 t103 t104 _ A3.out).mono ?_); rintro e w5 ⟨rfl, hb⟩; refine ⟨_, rfl, ?_⟩; have n0_ := Aside0.mk (below_step (by repeat (first | (with_reducible first | exact HB.out | apply below_alloc | apply pw_below_drewN | apply below_drew1) | exact HB.out)) hb); clear HB; have HB := n0_; clear n0_; (try clear hb); (try clear hb2); (try clear hk); (try clear hi)))
    go_ret
    exact ⟨by first | rfl | (simp [errW_none, errW_some] <;> rfl) | (simp [*, errW_none, errW_some] <;> rfl), by repeat (first | (with_reducible first | exact HB.out | apply below_alloc | apply pw_below_drewN | apply below_drew1) | exact HB.out)⟩
  · rw [if_neg c4] at H
    have c4b0 : (t104 == a1) = false := beq_eq_false_iff_ne.mpr c4
    have c4b1 : (t104 != a1) = true := bne_iff_ne.mpr c4
    obtain rfl := Option.some.inj H
    go_enter Tryd.func19, Tryd.ntmps19
    go_wp2_with (first | ((with_reducible refine gate_callee (f := 8) rfl ?_); refine goesL_ (some 9) rfl rfl Tryd.func8 (by kernel_rfl) rfl #[.string a0] rfl (by (try simp only [List.map_toArray, List.map_cons, List.map_nil]); first | done | rfl | (simp only [List.length_drop, List.length_take]; rfl)) ?_; (with_reducible refine (fix_Parse.calls a0 t103 t104 _ A3.out).mono ?_); rintro e w6 ⟨rfl, hb⟩; refine ⟨_, rfl, ?_⟩; have n0_ := Aside0.mk (below_step (by repeat (first | (with_reducible first | exact HB.out | apply below_alloc | apply pw_below_drewN | apply below_drew1) | exact HB.out)) hb); clear HB; have HB := n0_; clear n0_; (try clear hb); (try clear hb2); (try clear hk); (try clear hi)))
    go_ret
    exact ⟨by first | rfl | (simp [errW_none, errW_some] <;> rfl) | (simp [*, errW_none, errW_some] <;> rfl), by repeat (first | (with_reducible first | exact HB.out | apply below_alloc | apply pw_below_drewN | apply below_drew1) | exact HB.out)⟩

/-! ### odometerlaw01_known: function 7 -/
def odometerlaw01_known.f  : Option (Bool) := (odometerlaw01_reads.f (⟨#[49, 101, 51]⟩ : ByteArray) 1000000000).bind fun t105 => (if t105 = true then ((odometerlaw01_reads.f (⟨#[46, 53]⟩ : ByteArray) 500000).bind fun t106 => (if t106 = true then ((odometerlaw01_reads.f (⟨#[45, 48, 46, 48, 48, 48, 48, 48, 49]⟩ : ByteArray) (-1)).bind fun t107 => (if t107 = true then ((odometerlaw01_reads.f (⟨#[50, 53, 101, 45, 54]⟩ : ByteArray) 25).bind fun t108 => (if t108 = true then ((odometerlaw01_reads.f (⟨#[48, 101, 57, 57]⟩ : ByteArray) 0).bind fun t109 => (if t109 = true then ((odometerlaw01_fails.f (⟨#[49, 101, 45, 55]⟩ : ByteArray) 4).bind fun t110 => (if t110 = true then ((odometerlaw01_fails.f (⟨#[57, 50, 50, 51, 51, 55, 50, 48, 51, 54, 56, 53, 52, 46, 55, 55, 53, 56, 48, 56]⟩ : ByteArray) 4).bind fun t111 => (if t111 = true then ((odometerlaw01_fails.f (⟨#[43, 73, 110, 102]⟩ : ByteArray) 4).bind fun t112 => (if t112 = true then ((odometerlaw01_fails.f (⟨#[46]⟩ : ByteArray) 3).bind fun t113 => (if t113 = true then ((odometerlaw01_fails.f (⟨#[101, 53]⟩ : ByteArray) 3).bind fun t114 => (if t114 = true then ((odometerlaw01_fails.f (⟨#[49, 101]⟩ : ByteArray) 3).bind fun t115 => (if t115 = true then ((odometerlaw01_fails.f (⟨#[49, 95, 48]⟩ : ByteArray) 3).bind fun t116 => (if t116 = true then ((odometerlaw01_fails.f (⟨#[]⟩ : ByteArray) 3).bind fun t117 => (some t117)) else (some false))) else (some false))) else (some false))) else (some false))) else (some false))) else (some false))) else (some false))) else (some false))) else (some false))) else (some false))) else (some false))) else (some false))
set_option maxHeartbeats 8000000 in
set_option maxRecDepth 100000 in
theorem odometerlaw01_known.calls  (r : Bool) (w : World) (h : odometerlaw01_known.f  = some r) :
    Calls Tryd.prog 7 #[] w fun e w' => e = .returned (.bool r) ∧ Below w.heap.size w w' := by
  have HB := Aside0.mk (Below.refl w.heap.size w)
  have H : ((odometerlaw01_reads.f (⟨#[49, 101, 51]⟩ : ByteArray) 1000000000).bind fun t105 => (if t105 = true then ((odometerlaw01_reads.f (⟨#[46, 53]⟩ : ByteArray) 500000).bind fun t106 => (if t106 = true then ((odometerlaw01_reads.f (⟨#[45, 48, 46, 48, 48, 48, 48, 48, 49]⟩ : ByteArray) (-1)).bind fun t107 => (if t107 = true then ((odometerlaw01_reads.f (⟨#[50, 53, 101, 45, 54]⟩ : ByteArray) 25).bind fun t108 => (if t108 = true then ((odometerlaw01_reads.f (⟨#[48, 101, 57, 57]⟩ : ByteArray) 0).bind fun t109 => (if t109 = true then ((odometerlaw01_fails.f (⟨#[49, 101, 45, 55]⟩ : ByteArray) 4).bind fun t110 => (if t110 = true then ((odometerlaw01_fails.f (⟨#[57, 50, 50, 51, 51, 55, 50, 48, 51, 54, 56, 53, 52, 46, 55, 55, 53, 56, 48, 56]⟩ : ByteArray) 4).bind fun t111 => (if t111 = true then ((odometerlaw01_fails.f (⟨#[43, 73, 110, 102]⟩ : ByteArray) 4).bind fun t112 => (if t112 = true then ((odometerlaw01_fails.f (⟨#[46]⟩ : ByteArray) 3).bind fun t113 => (if t113 = true then ((odometerlaw01_fails.f (⟨#[101, 53]⟩ : ByteArray) 3).bind fun t114 => (if t114 = true then ((odometerlaw01_fails.f (⟨#[49, 101]⟩ : ByteArray) 3).bind fun t115 => (if t115 = true then ((odometerlaw01_fails.f (⟨#[49, 95, 48]⟩ : ByteArray) 3).bind fun t116 => (if t116 = true then ((odometerlaw01_fails.f (⟨#[]⟩ : ByteArray) 3).bind fun t117 => (some t117)) else (some false))) else (some false))) else (some false))) else (some false))) else (some false))) else (some false))) else (some false))) else (some false))) else (some false))) else (some false))) else (some false))) else (some false))) = some r := h
  clear h
  replace H := Option.bind_eq_some_iff.mp H
  obtain ⟨t105, A10, H⟩ := H
  replace H : (if t105 = true then ((odometerlaw01_reads.f (⟨#[46, 53]⟩ : ByteArray) 500000).bind fun t106 => (if t106 = true then ((odometerlaw01_reads.f (⟨#[45, 48, 46, 48, 48, 48, 48, 48, 49]⟩ : ByteArray) (-1)).bind fun t107 => (if t107 = true then ((odometerlaw01_reads.f (⟨#[50, 53, 101, 45, 54]⟩ : ByteArray) 25).bind fun t108 => (if t108 = true then ((odometerlaw01_reads.f (⟨#[48, 101, 57, 57]⟩ : ByteArray) 0).bind fun t109 => (if t109 = true then ((odometerlaw01_fails.f (⟨#[49, 101, 45, 55]⟩ : ByteArray) 4).bind fun t110 => (if t110 = true then ((odometerlaw01_fails.f (⟨#[57, 50, 50, 51, 51, 55, 50, 48, 51, 54, 56, 53, 52, 46, 55, 55, 53, 56, 48, 56]⟩ : ByteArray) 4).bind fun t111 => (if t111 = true then ((odometerlaw01_fails.f (⟨#[43, 73, 110, 102]⟩ : ByteArray) 4).bind fun t112 => (if t112 = true then ((odometerlaw01_fails.f (⟨#[46]⟩ : ByteArray) 3).bind fun t113 => (if t113 = true then ((odometerlaw01_fails.f (⟨#[101, 53]⟩ : ByteArray) 3).bind fun t114 => (if t114 = true then ((odometerlaw01_fails.f (⟨#[49, 101]⟩ : ByteArray) 3).bind fun t115 => (if t115 = true then ((odometerlaw01_fails.f (⟨#[49, 95, 48]⟩ : ByteArray) 3).bind fun t116 => (if t116 = true then ((odometerlaw01_fails.f (⟨#[]⟩ : ByteArray) 3).bind fun t117 => (some t117)) else (some false))) else (some false))) else (some false))) else (some false))) else (some false))) else (some false))) else (some false))) else (some false))) else (some false))) else (some false))) else (some false))) else (some false)) = some r := H
  have A1 := Aside0.mk A10
  clear A10
  by_cases c2 : t105 = true
  · subst c2
    have H1 : ((odometerlaw01_reads.f (⟨#[46, 53]⟩ : ByteArray) 500000).bind fun t106 => (if t106 = true then ((odometerlaw01_reads.f (⟨#[45, 48, 46, 48, 48, 48, 48, 48, 49]⟩ : ByteArray) (-1)).bind fun t107 => (if t107 = true then ((odometerlaw01_reads.f (⟨#[50, 53, 101, 45, 54]⟩ : ByteArray) 25).bind fun t108 => (if t108 = true then ((odometerlaw01_reads.f (⟨#[48, 101, 57, 57]⟩ : ByteArray) 0).bind fun t109 => (if t109 = true then ((odometerlaw01_fails.f (⟨#[49, 101, 45, 55]⟩ : ByteArray) 4).bind fun t110 => (if t110 = true then ((odometerlaw01_fails.f (⟨#[57, 50, 50, 51, 51, 55, 50, 48, 51, 54, 56, 53, 52, 46, 55, 55, 53, 56, 48, 56]⟩ : ByteArray) 4).bind fun t111 => (if t111 = true then ((odometerlaw01_fails.f (⟨#[43, 73, 110, 102]⟩ : ByteArray) 4).bind fun t112 => (if t112 = true then ((odometerlaw01_fails.f (⟨#[46]⟩ : ByteArray) 3).bind fun t113 => (if t113 = true then ((odometerlaw01_fails.f (⟨#[101, 53]⟩ : ByteArray) 3).bind fun t114 => (if t114 = true then ((odometerlaw01_fails.f (⟨#[49, 101]⟩ : ByteArray) 3).bind fun t115 => (if t115 = true then ((odometerlaw01_fails.f (⟨#[49, 95, 48]⟩ : ByteArray) 3).bind fun t116 => (if t116 = true then ((odometerlaw01_fails.f (⟨#[]⟩ : ByteArray) 3).bind fun t117 => (some t117)) else (some false))) else (some false))) else (some false))) else (some false))) else (some false))) else (some false))) else (some false))) else (some false))) else (some false))) else (some false))) else (some false))) = some r := by rw [if_pos rfl] at H; exact H
    clear H
    have H := H1
    clear H1
    replace H := Option.bind_eq_some_iff.mp H
    obtain ⟨t106, A30, H⟩ := H
    replace H : (if t106 = true then ((odometerlaw01_reads.f (⟨#[45, 48, 46, 48, 48, 48, 48, 48, 49]⟩ : ByteArray) (-1)).bind fun t107 => (if t107 = true then ((odometerlaw01_reads.f (⟨#[50, 53, 101, 45, 54]⟩ : ByteArray) 25).bind fun t108 => (if t108 = true then ((odometerlaw01_reads.f (⟨#[48, 101, 57, 57]⟩ : ByteArray) 0).bind fun t109 => (if t109 = true then ((odometerlaw01_fails.f (⟨#[49, 101, 45, 55]⟩ : ByteArray) 4).bind fun t110 => (if t110 = true then ((odometerlaw01_fails.f (⟨#[57, 50, 50, 51, 51, 55, 50, 48, 51, 54, 56, 53, 52, 46, 55, 55, 53, 56, 48, 56]⟩ : ByteArray) 4).bind fun t111 => (if t111 = true then ((odometerlaw01_fails.f (⟨#[43, 73, 110, 102]⟩ : ByteArray) 4).bind fun t112 => (if t112 = true then ((odometerlaw01_fails.f (⟨#[46]⟩ : ByteArray) 3).bind fun t113 => (if t113 = true then ((odometerlaw01_fails.f (⟨#[101, 53]⟩ : ByteArray) 3).bind fun t114 => (if t114 = true then ((odometerlaw01_fails.f (⟨#[49, 101]⟩ : ByteArray) 3).bind fun t115 => (if t115 = true then ((odometerlaw01_fails.f (⟨#[49, 95, 48]⟩ : ByteArray) 3).bind fun t116 => (if t116 = true then ((odometerlaw01_fails.f (⟨#[]⟩ : ByteArray) 3).bind fun t117 => (some t117)) else (some false))) else (some false))) else (some false))) else (some false))) else (some false))) else (some false))) else (some false))) else (some false))) else (some false))) else (some false))) else (some false)) = some r := H
    have A3 := Aside0.mk A30
    clear A30
    by_cases c4 : t106 = true
    · subst c4
      have H1 : ((odometerlaw01_reads.f (⟨#[45, 48, 46, 48, 48, 48, 48, 48, 49]⟩ : ByteArray) (-1)).bind fun t107 => (if t107 = true then ((odometerlaw01_reads.f (⟨#[50, 53, 101, 45, 54]⟩ : ByteArray) 25).bind fun t108 => (if t108 = true then ((odometerlaw01_reads.f (⟨#[48, 101, 57, 57]⟩ : ByteArray) 0).bind fun t109 => (if t109 = true then ((odometerlaw01_fails.f (⟨#[49, 101, 45, 55]⟩ : ByteArray) 4).bind fun t110 => (if t110 = true then ((odometerlaw01_fails.f (⟨#[57, 50, 50, 51, 51, 55, 50, 48, 51, 54, 56, 53, 52, 46, 55, 55, 53, 56, 48, 56]⟩ : ByteArray) 4).bind fun t111 => (if t111 = true then ((odometerlaw01_fails.f (⟨#[43, 73, 110, 102]⟩ : ByteArray) 4).bind fun t112 => (if t112 = true then ((odometerlaw01_fails.f (⟨#[46]⟩ : ByteArray) 3).bind fun t113 => (if t113 = true then ((odometerlaw01_fails.f (⟨#[101, 53]⟩ : ByteArray) 3).bind fun t114 => (if t114 = true then ((odometerlaw01_fails.f (⟨#[49, 101]⟩ : ByteArray) 3).bind fun t115 => (if t115 = true then ((odometerlaw01_fails.f (⟨#[49, 95, 48]⟩ : ByteArray) 3).bind fun t116 => (if t116 = true then ((odometerlaw01_fails.f (⟨#[]⟩ : ByteArray) 3).bind fun t117 => (some t117)) else (some false))) else (some false))) else (some false))) else (some false))) else (some false))) else (some false))) else (some false))) else (some false))) else (some false))) else (some false))) = some r := by rw [if_pos rfl] at H; exact H
      clear H
      have H := H1
      clear H1
      replace H := Option.bind_eq_some_iff.mp H
      obtain ⟨t107, A50, H⟩ := H
      replace H : (if t107 = true then ((odometerlaw01_reads.f (⟨#[50, 53, 101, 45, 54]⟩ : ByteArray) 25).bind fun t108 => (if t108 = true then ((odometerlaw01_reads.f (⟨#[48, 101, 57, 57]⟩ : ByteArray) 0).bind fun t109 => (if t109 = true then ((odometerlaw01_fails.f (⟨#[49, 101, 45, 55]⟩ : ByteArray) 4).bind fun t110 => (if t110 = true then ((odometerlaw01_fails.f (⟨#[57, 50, 50, 51, 51, 55, 50, 48, 51, 54, 56, 53, 52, 46, 55, 55, 53, 56, 48, 56]⟩ : ByteArray) 4).bind fun t111 => (if t111 = true then ((odometerlaw01_fails.f (⟨#[43, 73, 110, 102]⟩ : ByteArray) 4).bind fun t112 => (if t112 = true then ((odometerlaw01_fails.f (⟨#[46]⟩ : ByteArray) 3).bind fun t113 => (if t113 = true then ((odometerlaw01_fails.f (⟨#[101, 53]⟩ : ByteArray) 3).bind fun t114 => (if t114 = true then ((odometerlaw01_fails.f (⟨#[49, 101]⟩ : ByteArray) 3).bind fun t115 => (if t115 = true then ((odometerlaw01_fails.f (⟨#[49, 95, 48]⟩ : ByteArray) 3).bind fun t116 => (if t116 = true then ((odometerlaw01_fails.f (⟨#[]⟩ : ByteArray) 3).bind fun t117 => (some t117)) else (some false))) else (some false))) else (some false))) else (some false))) else (some false))) else (some false))) else (some false))) else (some false))) else (some false))) else (some false)) = some r := H
      have A5 := Aside0.mk A50
      clear A50
      by_cases c6 : t107 = true
      · subst c6
        have H1 : ((odometerlaw01_reads.f (⟨#[50, 53, 101, 45, 54]⟩ : ByteArray) 25).bind fun t108 => (if t108 = true then ((odometerlaw01_reads.f (⟨#[48, 101, 57, 57]⟩ : ByteArray) 0).bind fun t109 => (if t109 = true then ((odometerlaw01_fails.f (⟨#[49, 101, 45, 55]⟩ : ByteArray) 4).bind fun t110 => (if t110 = true then ((odometerlaw01_fails.f (⟨#[57, 50, 50, 51, 51, 55, 50, 48, 51, 54, 56, 53, 52, 46, 55, 55, 53, 56, 48, 56]⟩ : ByteArray) 4).bind fun t111 => (if t111 = true then ((odometerlaw01_fails.f (⟨#[43, 73, 110, 102]⟩ : ByteArray) 4).bind fun t112 => (if t112 = true then ((odometerlaw01_fails.f (⟨#[46]⟩ : ByteArray) 3).bind fun t113 => (if t113 = true then ((odometerlaw01_fails.f (⟨#[101, 53]⟩ : ByteArray) 3).bind fun t114 => (if t114 = true then ((odometerlaw01_fails.f (⟨#[49, 101]⟩ : ByteArray) 3).bind fun t115 => (if t115 = true then ((odometerlaw01_fails.f (⟨#[49, 95, 48]⟩ : ByteArray) 3).bind fun t116 => (if t116 = true then ((odometerlaw01_fails.f (⟨#[]⟩ : ByteArray) 3).bind fun t117 => (some t117)) else (some false))) else (some false))) else (some false))) else (some false))) else (some false))) else (some false))) else (some false))) else (some false))) else (some false))) = some r := by rw [if_pos rfl] at H; exact H
        clear H
        have H := H1
        clear H1
        replace H := Option.bind_eq_some_iff.mp H
        obtain ⟨t108, A70, H⟩ := H
        replace H : (if t108 = true then ((odometerlaw01_reads.f (⟨#[48, 101, 57, 57]⟩ : ByteArray) 0).bind fun t109 => (if t109 = true then ((odometerlaw01_fails.f (⟨#[49, 101, 45, 55]⟩ : ByteArray) 4).bind fun t110 => (if t110 = true then ((odometerlaw01_fails.f (⟨#[57, 50, 50, 51, 51, 55, 50, 48, 51, 54, 56, 53, 52, 46, 55, 55, 53, 56, 48, 56]⟩ : ByteArray) 4).bind fun t111 => (if t111 = true then ((odometerlaw01_fails.f (⟨#[43, 73, 110, 102]⟩ : ByteArray) 4).bind fun t112 => (if t112 = true then ((odometerlaw01_fails.f (⟨#[46]⟩ : ByteArray) 3).bind fun t113 => (if t113 = true then ((odometerlaw01_fails.f (⟨#[101, 53]⟩ : ByteArray) 3).bind fun t114 => (if t114 = true then ((odometerlaw01_fails.f (⟨#[49, 101]⟩ : ByteArray) 3).bind fun t115 => (if t115 = true then ((odometerlaw01_fails.f (⟨#[49, 95, 48]⟩ : ByteArray) 3).bind fun t116 => (if t116 = true then ((odometerlaw01_fails.f (⟨#[]⟩ : ByteArray) 3).bind fun t117 => (some t117)) else (some false))) else (some false))) else (some false))) else (some false))) else (some false))) else (some false))) else (some false))) else (some false))) else (some false)) = some r := H
        have A7 := Aside0.mk A70
        clear A70
        by_cases c8 : t108 = true
        · subst c8
          have H1 : ((odometerlaw01_reads.f (⟨#[48, 101, 57, 57]⟩ : ByteArray) 0).bind fun t109 => (if t109 = true then ((odometerlaw01_fails.f (⟨#[49, 101, 45, 55]⟩ : ByteArray) 4).bind fun t110 => (if t110 = true then ((odometerlaw01_fails.f (⟨#[57, 50, 50, 51, 51, 55, 50, 48, 51, 54, 56, 53, 52, 46, 55, 55, 53, 56, 48, 56]⟩ : ByteArray) 4).bind fun t111 => (if t111 = true then ((odometerlaw01_fails.f (⟨#[43, 73, 110, 102]⟩ : ByteArray) 4).bind fun t112 => (if t112 = true then ((odometerlaw01_fails.f (⟨#[46]⟩ : ByteArray) 3).bind fun t113 => (if t113 = true then ((odometerlaw01_fails.f (⟨#[101, 53]⟩ : ByteArray) 3).bind fun t114 => (if t114 = true then ((odometerlaw01_fails.f (⟨#[49, 101]⟩ : ByteArray) 3).bind fun t115 => (if t115 = true then ((odometerlaw01_fails.f (⟨#[49, 95, 48]⟩ : ByteArray) 3).bind fun t116 => (if t116 = true then ((odometerlaw01_fails.f (⟨#[]⟩ : ByteArray) 3).bind fun t117 => (some t117)) else (some false))) else (some false))) else (some false))) else (some false))) else (some false))) else (some false))) else (some false))) else (some false))) = some r := by rw [if_pos rfl] at H; exact H
          clear H
          have H := H1
          clear H1
          replace H := Option.bind_eq_some_iff.mp H
          obtain ⟨t109, A90, H⟩ := H
          replace H : (if t109 = true then ((odometerlaw01_fails.f (⟨#[49, 101, 45, 55]⟩ : ByteArray) 4).bind fun t110 => (if t110 = true then ((odometerlaw01_fails.f (⟨#[57, 50, 50, 51, 51, 55, 50, 48, 51, 54, 56, 53, 52, 46, 55, 55, 53, 56, 48, 56]⟩ : ByteArray) 4).bind fun t111 => (if t111 = true then ((odometerlaw01_fails.f (⟨#[43, 73, 110, 102]⟩ : ByteArray) 4).bind fun t112 => (if t112 = true then ((odometerlaw01_fails.f (⟨#[46]⟩ : ByteArray) 3).bind fun t113 => (if t113 = true then ((odometerlaw01_fails.f (⟨#[101, 53]⟩ : ByteArray) 3).bind fun t114 => (if t114 = true then ((odometerlaw01_fails.f (⟨#[49, 101]⟩ : ByteArray) 3).bind fun t115 => (if t115 = true then ((odometerlaw01_fails.f (⟨#[49, 95, 48]⟩ : ByteArray) 3).bind fun t116 => (if t116 = true then ((odometerlaw01_fails.f (⟨#[]⟩ : ByteArray) 3).bind fun t117 => (some t117)) else (some false))) else (some false))) else (some false))) else (some false))) else (some false))) else (some false))) else (some false))) else (some false)) = some r := H
          have A9 := Aside0.mk A90
          clear A90
          by_cases c10 : t109 = true
          · subst c10
            have H1 : ((odometerlaw01_fails.f (⟨#[49, 101, 45, 55]⟩ : ByteArray) 4).bind fun t110 => (if t110 = true then ((odometerlaw01_fails.f (⟨#[57, 50, 50, 51, 51, 55, 50, 48, 51, 54, 56, 53, 52, 46, 55, 55, 53, 56, 48, 56]⟩ : ByteArray) 4).bind fun t111 => (if t111 = true then ((odometerlaw01_fails.f (⟨#[43, 73, 110, 102]⟩ : ByteArray) 4).bind fun t112 => (if t112 = true then ((odometerlaw01_fails.f (⟨#[46]⟩ : ByteArray) 3).bind fun t113 => (if t113 = true then ((odometerlaw01_fails.f (⟨#[101, 53]⟩ : ByteArray) 3).bind fun t114 => (if t114 = true then ((odometerlaw01_fails.f (⟨#[49, 101]⟩ : ByteArray) 3).bind fun t115 => (if t115 = true then ((odometerlaw01_fails.f (⟨#[49, 95, 48]⟩ : ByteArray) 3).bind fun t116 => (if t116 = true then ((odometerlaw01_fails.f (⟨#[]⟩ : ByteArray) 3).bind fun t117 => (some t117)) else (some false))) else (some false))) else (some false))) else (some false))) else (some false))) else (some false))) else (some false))) = some r := by rw [if_pos rfl] at H; exact H
            clear H
            have H := H1
            clear H1
            replace H := Option.bind_eq_some_iff.mp H
            obtain ⟨t110, A110, H⟩ := H
            replace H : (if t110 = true then ((odometerlaw01_fails.f (⟨#[57, 50, 50, 51, 51, 55, 50, 48, 51, 54, 56, 53, 52, 46, 55, 55, 53, 56, 48, 56]⟩ : ByteArray) 4).bind fun t111 => (if t111 = true then ((odometerlaw01_fails.f (⟨#[43, 73, 110, 102]⟩ : ByteArray) 4).bind fun t112 => (if t112 = true then ((odometerlaw01_fails.f (⟨#[46]⟩ : ByteArray) 3).bind fun t113 => (if t113 = true then ((odometerlaw01_fails.f (⟨#[101, 53]⟩ : ByteArray) 3).bind fun t114 => (if t114 = true then ((odometerlaw01_fails.f (⟨#[49, 101]⟩ : ByteArray) 3).bind fun t115 => (if t115 = true then ((odometerlaw01_fails.f (⟨#[49, 95, 48]⟩ : ByteArray) 3).bind fun t116 => (if t116 = true then ((odometerlaw01_fails.f (⟨#[]⟩ : ByteArray) 3).bind fun t117 => (some t117)) else (some false))) else (some false))) else (some false))) else (some false))) else (some false))) else (some false))) else (some false)) = some r := H
            have A11 := Aside0.mk A110
            clear A110
            by_cases c12 : t110 = true
            · subst c12
              have H1 : ((odometerlaw01_fails.f (⟨#[57, 50, 50, 51, 51, 55, 50, 48, 51, 54, 56, 53, 52, 46, 55, 55, 53, 56, 48, 56]⟩ : ByteArray) 4).bind fun t111 => (if t111 = true then ((odometerlaw01_fails.f (⟨#[43, 73, 110, 102]⟩ : ByteArray) 4).bind fun t112 => (if t112 = true then ((odometerlaw01_fails.f (⟨#[46]⟩ : ByteArray) 3).bind fun t113 => (if t113 = true then ((odometerlaw01_fails.f (⟨#[101, 53]⟩ : ByteArray) 3).bind fun t114 => (if t114 = true then ((odometerlaw01_fails.f (⟨#[49, 101]⟩ : ByteArray) 3).bind fun t115 => (if t115 = true then ((odometerlaw01_fails.f (⟨#[49, 95, 48]⟩ : ByteArray) 3).bind fun t116 => (if t116 = true then ((odometerlaw01_fails.f (⟨#[]⟩ : ByteArray) 3).bind fun t117 => (some t117)) else (some false))) else (some false))) else (some false))) else (some false))) else (some false))) else (some false))) = some r := by rw [if_pos rfl] at H; exact H
              clear H
              have H := H1
              clear H1
              replace H := Option.bind_eq_some_iff.mp H
              obtain ⟨t111, A130, H⟩ := H
              replace H : (if t111 = true then ((odometerlaw01_fails.f (⟨#[43, 73, 110, 102]⟩ : ByteArray) 4).bind fun t112 => (if t112 = true then ((odometerlaw01_fails.f (⟨#[46]⟩ : ByteArray) 3).bind fun t113 => (if t113 = true then ((odometerlaw01_fails.f (⟨#[101, 53]⟩ : ByteArray) 3).bind fun t114 => (if t114 = true then ((odometerlaw01_fails.f (⟨#[49, 101]⟩ : ByteArray) 3).bind fun t115 => (if t115 = true then ((odometerlaw01_fails.f (⟨#[49, 95, 48]⟩ : ByteArray) 3).bind fun t116 => (if t116 = true then ((odometerlaw01_fails.f (⟨#[]⟩ : ByteArray) 3).bind fun t117 => (some t117)) else (some false))) else (some false))) else (some false))) else (some false))) else (some false))) else (some false)) = some r := H
              have A13 := Aside0.mk A130
              clear A130
              by_cases c14 : t111 = true
              · subst c14
                have H1 : ((odometerlaw01_fails.f (⟨#[43, 73, 110, 102]⟩ : ByteArray) 4).bind fun t112 => (if t112 = true then ((odometerlaw01_fails.f (⟨#[46]⟩ : ByteArray) 3).bind fun t113 => (if t113 = true then ((odometerlaw01_fails.f (⟨#[101, 53]⟩ : ByteArray) 3).bind fun t114 => (if t114 = true then ((odometerlaw01_fails.f (⟨#[49, 101]⟩ : ByteArray) 3).bind fun t115 => (if t115 = true then ((odometerlaw01_fails.f (⟨#[49, 95, 48]⟩ : ByteArray) 3).bind fun t116 => (if t116 = true then ((odometerlaw01_fails.f (⟨#[]⟩ : ByteArray) 3).bind fun t117 => (some t117)) else (some false))) else (some false))) else (some false))) else (some false))) else (some false))) = some r := by rw [if_pos rfl] at H; exact H
                clear H
                have H := H1
                clear H1
                replace H := Option.bind_eq_some_iff.mp H
                obtain ⟨t112, A150, H⟩ := H
                replace H : (if t112 = true then ((odometerlaw01_fails.f (⟨#[46]⟩ : ByteArray) 3).bind fun t113 => (if t113 = true then ((odometerlaw01_fails.f (⟨#[101, 53]⟩ : ByteArray) 3).bind fun t114 => (if t114 = true then ((odometerlaw01_fails.f (⟨#[49, 101]⟩ : ByteArray) 3).bind fun t115 => (if t115 = true then ((odometerlaw01_fails.f (⟨#[49, 95, 48]⟩ : ByteArray) 3).bind fun t116 => (if t116 = true then ((odometerlaw01_fails.f (⟨#[]⟩ : ByteArray) 3).bind fun t117 => (some t117)) else (some false))) else (some false))) else (some false))) else (some false))) else (some false)) = some r := H
                have A15 := Aside0.mk A150
                clear A150
                by_cases c16 : t112 = true
                · subst c16
                  have H1 : ((odometerlaw01_fails.f (⟨#[46]⟩ : ByteArray) 3).bind fun t113 => (if t113 = true then ((odometerlaw01_fails.f (⟨#[101, 53]⟩ : ByteArray) 3).bind fun t114 => (if t114 = true then ((odometerlaw01_fails.f (⟨#[49, 101]⟩ : ByteArray) 3).bind fun t115 => (if t115 = true then ((odometerlaw01_fails.f (⟨#[49, 95, 48]⟩ : ByteArray) 3).bind fun t116 => (if t116 = true then ((odometerlaw01_fails.f (⟨#[]⟩ : ByteArray) 3).bind fun t117 => (some t117)) else (some false))) else (some false))) else (some false))) else (some false))) = some r := by rw [if_pos rfl] at H; exact H
                  clear H
                  have H := H1
                  clear H1
                  replace H := Option.bind_eq_some_iff.mp H
                  obtain ⟨t113, A170, H⟩ := H
                  replace H : (if t113 = true then ((odometerlaw01_fails.f (⟨#[101, 53]⟩ : ByteArray) 3).bind fun t114 => (if t114 = true then ((odometerlaw01_fails.f (⟨#[49, 101]⟩ : ByteArray) 3).bind fun t115 => (if t115 = true then ((odometerlaw01_fails.f (⟨#[49, 95, 48]⟩ : ByteArray) 3).bind fun t116 => (if t116 = true then ((odometerlaw01_fails.f (⟨#[]⟩ : ByteArray) 3).bind fun t117 => (some t117)) else (some false))) else (some false))) else (some false))) else (some false)) = some r := H
                  have A17 := Aside0.mk A170
                  clear A170
                  by_cases c18 : t113 = true
                  · subst c18
                    have H1 : ((odometerlaw01_fails.f (⟨#[101, 53]⟩ : ByteArray) 3).bind fun t114 => (if t114 = true then ((odometerlaw01_fails.f (⟨#[49, 101]⟩ : ByteArray) 3).bind fun t115 => (if t115 = true then ((odometerlaw01_fails.f (⟨#[49, 95, 48]⟩ : ByteArray) 3).bind fun t116 => (if t116 = true then ((odometerlaw01_fails.f (⟨#[]⟩ : ByteArray) 3).bind fun t117 => (some t117)) else (some false))) else (some false))) else (some false))) = some r := by rw [if_pos rfl] at H; exact H
                    clear H
                    have H := H1
                    clear H1
                    replace H := Option.bind_eq_some_iff.mp H
                    obtain ⟨t114, A190, H⟩ := H
                    replace H : (if t114 = true then ((odometerlaw01_fails.f (⟨#[49, 101]⟩ : ByteArray) 3).bind fun t115 => (if t115 = true then ((odometerlaw01_fails.f (⟨#[49, 95, 48]⟩ : ByteArray) 3).bind fun t116 => (if t116 = true then ((odometerlaw01_fails.f (⟨#[]⟩ : ByteArray) 3).bind fun t117 => (some t117)) else (some false))) else (some false))) else (some false)) = some r := H
                    have A19 := Aside0.mk A190
                    clear A190
                    by_cases c20 : t114 = true
                    · subst c20
                      have H1 : ((odometerlaw01_fails.f (⟨#[49, 101]⟩ : ByteArray) 3).bind fun t115 => (if t115 = true then ((odometerlaw01_fails.f (⟨#[49, 95, 48]⟩ : ByteArray) 3).bind fun t116 => (if t116 = true then ((odometerlaw01_fails.f (⟨#[]⟩ : ByteArray) 3).bind fun t117 => (some t117)) else (some false))) else (some false))) = some r := by rw [if_pos rfl] at H; exact H
                      clear H
                      have H := H1
                      clear H1
                      replace H := Option.bind_eq_some_iff.mp H
                      obtain ⟨t115, A210, H⟩ := H
                      replace H : (if t115 = true then ((odometerlaw01_fails.f (⟨#[49, 95, 48]⟩ : ByteArray) 3).bind fun t116 => (if t116 = true then ((odometerlaw01_fails.f (⟨#[]⟩ : ByteArray) 3).bind fun t117 => (some t117)) else (some false))) else (some false)) = some r := H
                      have A21 := Aside0.mk A210
                      clear A210
                      by_cases c22 : t115 = true
                      · subst c22
                        have H1 : ((odometerlaw01_fails.f (⟨#[49, 95, 48]⟩ : ByteArray) 3).bind fun t116 => (if t116 = true then ((odometerlaw01_fails.f (⟨#[]⟩ : ByteArray) 3).bind fun t117 => (some t117)) else (some false))) = some r := by rw [if_pos rfl] at H; exact H
                        clear H
                        have H := H1
                        clear H1
                        replace H := Option.bind_eq_some_iff.mp H
                        obtain ⟨t116, A230, H⟩ := H
                        replace H : (if t116 = true then ((odometerlaw01_fails.f (⟨#[]⟩ : ByteArray) 3).bind fun t117 => (some t117)) else (some false)) = some r := H
                        have A23 := Aside0.mk A230
                        clear A230
                        by_cases c24 : t116 = true
                        · subst c24
                          have H1 : ((odometerlaw01_fails.f (⟨#[]⟩ : ByteArray) 3).bind fun t117 => (some t117)) = some r := by rw [if_pos rfl] at H; exact H
                          clear H
                          have H := H1
                          clear H1
                          replace H := Option.bind_eq_some_iff.mp H
                          obtain ⟨t117, A250, H⟩ := H
                          replace H : (some t117) = some r := H
                          have A25 := Aside0.mk A250
                          clear A250
                          obtain rfl := Option.some.inj H
                          go_enter Tryd.func7, Tryd.ntmps7
                          go_wp2_with (first | ((with_reducible refine gate_callee (f := 16) rfl ?_); refine goesL_ (some 1) rfl rfl Tryd.func16 (by kernel_rfl) rfl #[.string (⟨#[49, 101, 51]⟩ : ByteArray), .int .i64 1000000000] rfl (by (try simp only [List.map_toArray, List.map_cons, List.map_nil]); first | done | rfl | (simp only [List.length_drop, List.length_take]; rfl)) ?_; (with_reducible refine (odometerlaw01_reads.calls (⟨#[49, 101, 51]⟩ : ByteArray) 1000000000 true _ A1.out).mono ?_); rintro e w26 ⟨rfl, hb⟩; refine ⟨_, rfl, ?_⟩; have n0_ := Aside0.mk (below_step (by repeat (first | (with_reducible first | exact HB.out | apply below_alloc | apply pw_below_drewN | apply below_drew1) | exact HB.out)) hb); clear HB; have HB := n0_; clear n0_; (try clear hb); (try clear hb2); (try clear hk); (try clear hi)) | (go_at_call 16; (with_reducible refine (odometerlaw01_reads.calls (⟨#[46, 53]⟩ : ByteArray) 500000 true _ A3.out).mono ?_); rintro e w27 ⟨rfl, hb⟩; have n0_ := Aside0.mk (below_step (by repeat (first | (with_reducible first | exact HB.out | apply below_alloc | apply pw_below_drewN | apply below_drew1) | exact HB.out)) hb); clear HB; have HB := n0_; clear n0_; (try clear hb); (try clear hb2); (try clear hk); (try clear hi)) | (go_at_call 16; (with_reducible refine (odometerlaw01_reads.calls (⟨#[45, 48, 46, 48, 48, 48, 48, 48, 49]⟩ : ByteArray) (-1) true _ A5.out).mono ?_); rintro e w28 ⟨rfl, hb⟩; have n0_ := Aside0.mk (below_step (by repeat (first | (with_reducible first | exact HB.out | apply below_alloc | apply pw_below_drewN | apply below_drew1) | exact HB.out)) hb); clear HB; have HB := n0_; clear n0_; (try clear hb); (try clear hb2); (try clear hk); (try clear hi)) | (go_at_call 16; (with_reducible refine (odometerlaw01_reads.calls (⟨#[50, 53, 101, 45, 54]⟩ : ByteArray) 25 true _ A7.out).mono ?_); rintro e w29 ⟨rfl, hb⟩; have n0_ := Aside0.mk (below_step (by repeat (first | (with_reducible first | exact HB.out | apply below_alloc | apply pw_below_drewN | apply below_drew1) | exact HB.out)) hb); clear HB; have HB := n0_; clear n0_; (try clear hb); (try clear hb2); (try clear hk); (try clear hi)) | (go_at_call 16; (with_reducible refine (odometerlaw01_reads.calls (⟨#[48, 101, 57, 57]⟩ : ByteArray) 0 true _ A9.out).mono ?_); rintro e w30 ⟨rfl, hb⟩; have n0_ := Aside0.mk (below_step (by repeat (first | (with_reducible first | exact HB.out | apply below_alloc | apply pw_below_drewN | apply below_drew1) | exact HB.out)) hb); clear HB; have HB := n0_; clear n0_; (try clear hb); (try clear hb2); (try clear hk); (try clear hi)) | (go_at_call 19; (with_reducible refine (odometerlaw01_fails.calls (⟨#[49, 101, 45, 55]⟩ : ByteArray) 4 true _ A11.out).mono ?_); rintro e w31 ⟨rfl, hb⟩; have n0_ := Aside0.mk (below_step (by repeat (first | (with_reducible first | exact HB.out | apply below_alloc | apply pw_below_drewN | apply below_drew1) | exact HB.out)) hb); clear HB; have HB := n0_; clear n0_; (try clear hb); (try clear hb2); (try clear hk); (try clear hi)) | (go_at_call 19; (with_reducible refine (odometerlaw01_fails.calls (⟨#[57, 50, 50, 51, 51, 55, 50, 48, 51, 54, 56, 53, 52, 46, 55, 55, 53, 56, 48, 56]⟩ : ByteArray) 4 true _ A13.out).mono ?_); rintro e w32 ⟨rfl, hb⟩; have n0_ := Aside0.mk (below_step (by repeat (first | (with_reducible first | exact HB.out | apply below_alloc | apply pw_below_drewN | apply below_drew1) | exact HB.out)) hb); clear HB; have HB := n0_; clear n0_; (try clear hb); (try clear hb2); (try clear hk); (try clear hi)) | (go_at_call 19; (with_reducible refine (odometerlaw01_fails.calls (⟨#[43, 73, 110, 102]⟩ : ByteArray) 4 true _ A15.out).mono ?_); rintro e w33 ⟨rfl, hb⟩; have n0_ := Aside0.mk (below_step (by repeat (first | (with_reducible first | exact HB.out | apply below_alloc | apply pw_below_drewN | apply below_drew1) | exact HB.out)) hb); clear HB; have HB := n0_; clear n0_; (try clear hb); (try clear hb2); (try clear hk); (try clear hi)) | (go_at_call 19; (with_reducible refine (odometerlaw01_fails.calls (⟨#[46]⟩ : ByteArray) 3 true _ A17.out).mono ?_); rintro e w34 ⟨rfl, hb⟩; have n0_ := Aside0.mk (below_step (by repeat (first | (with_reducible first | exact HB.out | apply below_alloc | apply pw_below_drewN | apply below_drew1) | exact HB.out)) hb); clear HB; have HB := n0_; clear n0_; (try clear hb); (try clear hb2); (try clear hk); (try clear hi)) | (go_at_call 19; (with_reducible refine (odometerlaw01_fails.calls (⟨#[101, 53]⟩ : ByteArray) 3 true _ A19.out).mono ?_); rintro e w35 ⟨rfl, hb⟩; have n0_ := Aside0.mk (below_step (by repeat (first | (with_reducible first | exact HB.out | apply below_alloc | apply pw_below_drewN | apply below_drew1) | exact HB.out)) hb); clear HB; have HB := n0_; clear n0_; (try clear hb); (try clear hb2); (try clear hk); (try clear hi)) | (go_at_call 19; (with_reducible refine (odometerlaw01_fails.calls (⟨#[49, 101]⟩ : ByteArray) 3 true _ A21.out).mono ?_); rintro e w36 ⟨rfl, hb⟩; have n0_ := Aside0.mk (below_step (by repeat (first | (with_reducible first | exact HB.out | apply below_alloc | apply pw_below_drewN | apply below_drew1) | exact HB.out)) hb); clear HB; have HB := n0_; clear n0_; (try clear hb); (try clear hb2); (try clear hk); (try clear hi)) | (go_at_call 19; (with_reducible refine (odometerlaw01_fails.calls (⟨#[49, 95, 48]⟩ : ByteArray) 3 true _ A23.out).mono ?_); rintro e w37 ⟨rfl, hb⟩; have n0_ := Aside0.mk (below_step (by repeat (first | (with_reducible first | exact HB.out | apply below_alloc | apply pw_below_drewN | apply below_drew1) | exact HB.out)) hb); clear HB; have HB := n0_; clear n0_; (try clear hb); (try clear hb2); (try clear hk); (try clear hi)) | (go_at_call 19; (with_reducible refine (odometerlaw01_fails.calls (⟨#[]⟩ : ByteArray) 3 t117 _ A25.out).mono ?_); rintro e w38 ⟨rfl, hb⟩; have n0_ := Aside0.mk (below_step (by repeat (first | (with_reducible first | exact HB.out | apply below_alloc | apply pw_below_drewN | apply below_drew1) | exact HB.out)) hb); clear HB; have HB := n0_; clear n0_; (try clear hb); (try clear hb2); (try clear hk); (try clear hi)))
                          go_ret
                          exact ⟨by first | rfl | (simp [errW_none, errW_some] <;> rfl) | (simp [*, errW_none, errW_some] <;> rfl), by repeat (first | (with_reducible first | exact HB.out | apply below_alloc | apply pw_below_drewN | apply below_drew1) | exact HB.out)⟩
                        · replace c24 := Bool.eq_false_iff.mpr c24
                          subst c24
                          have H1 : (some false) = some r := by rw [if_neg (show ¬ (false = true) by decide)] at H; exact H
                          clear H
                          have H := H1
                          clear H1
                          obtain rfl := Option.some.inj H
                          go_enter Tryd.func7, Tryd.ntmps7
                          go_wp2_with (first | ((with_reducible refine gate_callee (f := 16) rfl ?_); refine goesL_ (some 1) rfl rfl Tryd.func16 (by kernel_rfl) rfl #[.string (⟨#[49, 101, 51]⟩ : ByteArray), .int .i64 1000000000] rfl (by (try simp only [List.map_toArray, List.map_cons, List.map_nil]); first | done | rfl | (simp only [List.length_drop, List.length_take]; rfl)) ?_; (with_reducible refine (odometerlaw01_reads.calls (⟨#[49, 101, 51]⟩ : ByteArray) 1000000000 true _ A1.out).mono ?_); rintro e w39 ⟨rfl, hb⟩; refine ⟨_, rfl, ?_⟩; have n0_ := Aside0.mk (below_step (by repeat (first | (with_reducible first | exact HB.out | apply below_alloc | apply pw_below_drewN | apply below_drew1) | exact HB.out)) hb); clear HB; have HB := n0_; clear n0_; (try clear hb); (try clear hb2); (try clear hk); (try clear hi)) | (go_at_call 16; (with_reducible refine (odometerlaw01_reads.calls (⟨#[46, 53]⟩ : ByteArray) 500000 true _ A3.out).mono ?_); rintro e w40 ⟨rfl, hb⟩; have n0_ := Aside0.mk (below_step (by repeat (first | (with_reducible first | exact HB.out | apply below_alloc | apply pw_below_drewN | apply below_drew1) | exact HB.out)) hb); clear HB; have HB := n0_; clear n0_; (try clear hb); (try clear hb2); (try clear hk); (try clear hi)) | (go_at_call 16; (with_reducible refine (odometerlaw01_reads.calls (⟨#[45, 48, 46, 48, 48, 48, 48, 48, 49]⟩ : ByteArray) (-1) true _ A5.out).mono ?_); rintro e w41 ⟨rfl, hb⟩; have n0_ := Aside0.mk (below_step (by repeat (first | (with_reducible first | exact HB.out | apply below_alloc | apply pw_below_drewN | apply below_drew1) | exact HB.out)) hb); clear HB; have HB := n0_; clear n0_; (try clear hb); (try clear hb2); (try clear hk); (try clear hi)) | (go_at_call 16; (with_reducible refine (odometerlaw01_reads.calls (⟨#[50, 53, 101, 45, 54]⟩ : ByteArray) 25 true _ A7.out).mono ?_); rintro e w42 ⟨rfl, hb⟩; have n0_ := Aside0.mk (below_step (by repeat (first | (with_reducible first | exact HB.out | apply below_alloc | apply pw_below_drewN | apply below_drew1) | exact HB.out)) hb); clear HB; have HB := n0_; clear n0_; (try clear hb); (try clear hb2); (try clear hk); (try clear hi)) | (go_at_call 16; (with_reducible refine (odometerlaw01_reads.calls (⟨#[48, 101, 57, 57]⟩ : ByteArray) 0 true _ A9.out).mono ?_); rintro e w43 ⟨rfl, hb⟩; have n0_ := Aside0.mk (below_step (by repeat (first | (with_reducible first | exact HB.out | apply below_alloc | apply pw_below_drewN | apply below_drew1) | exact HB.out)) hb); clear HB; have HB := n0_; clear n0_; (try clear hb); (try clear hb2); (try clear hk); (try clear hi)) | (go_at_call 19; (with_reducible refine (odometerlaw01_fails.calls (⟨#[49, 101, 45, 55]⟩ : ByteArray) 4 true _ A11.out).mono ?_); rintro e w44 ⟨rfl, hb⟩; have n0_ := Aside0.mk (below_step (by repeat (first | (with_reducible first | exact HB.out | apply below_alloc | apply pw_below_drewN | apply below_drew1) | exact HB.out)) hb); clear HB; have HB := n0_; clear n0_; (try clear hb); (try clear hb2); (try clear hk); (try clear hi)) | (go_at_call 19; (with_reducible refine (odometerlaw01_fails.calls (⟨#[57, 50, 50, 51, 51, 55, 50, 48, 51, 54, 56, 53, 52, 46, 55, 55, 53, 56, 48, 56]⟩ : ByteArray) 4 true _ A13.out).mono ?_); rintro e w45 ⟨rfl, hb⟩; have n0_ := Aside0.mk (below_step (by repeat (first | (with_reducible first | exact HB.out | apply below_alloc | apply pw_below_drewN | apply below_drew1) | exact HB.out)) hb); clear HB; have HB := n0_; clear n0_; (try clear hb); (try clear hb2); (try clear hk); (try clear hi)) | (go_at_call 19; (with_reducible refine (odometerlaw01_fails.calls (⟨#[43, 73, 110, 102]⟩ : ByteArray) 4 true _ A15.out).mono ?_); rintro e w46 ⟨rfl, hb⟩; have n0_ := Aside0.mk (below_step (by repeat (first | (with_reducible first | exact HB.out | apply below_alloc | apply pw_below_drewN | apply below_drew1) | exact HB.out)) hb); clear HB; have HB := n0_; clear n0_; (try clear hb); (try clear hb2); (try clear hk); (try clear hi)) | (go_at_call 19; (with_reducible refine (odometerlaw01_fails.calls (⟨#[46]⟩ : ByteArray) 3 true _ A17.out).mono ?_); rintro e w47 ⟨rfl, hb⟩; have n0_ := Aside0.mk (below_step (by repeat (first | (with_reducible first | exact HB.out | apply below_alloc | apply pw_below_drewN | apply below_drew1) | exact HB.out)) hb); clear HB; have HB := n0_; clear n0_; (try clear hb); (try clear hb2); (try clear hk); (try clear hi)) | (go_at_call 19; (with_reducible refine (odometerlaw01_fails.calls (⟨#[101, 53]⟩ : ByteArray) 3 true _ A19.out).mono ?_); rintro e w48 ⟨rfl, hb⟩; have n0_ := Aside0.mk (below_step (by repeat (first | (with_reducible first | exact HB.out | apply below_alloc | apply pw_below_drewN | apply below_drew1) | exact HB.out)) hb); clear HB; have HB := n0_; clear n0_; (try clear hb); (try clear hb2); (try clear hk); (try clear hi)) | (go_at_call 19; (with_reducible refine (odometerlaw01_fails.calls (⟨#[49, 101]⟩ : ByteArray) 3 true _ A21.out).mono ?_); rintro e w49 ⟨rfl, hb⟩; have n0_ := Aside0.mk (below_step (by repeat (first | (with_reducible first | exact HB.out | apply below_alloc | apply pw_below_drewN | apply below_drew1) | exact HB.out)) hb); clear HB; have HB := n0_; clear n0_; (try clear hb); (try clear hb2); (try clear hk); (try clear hi)) | (go_at_call 19; (with_reducible refine (odometerlaw01_fails.calls (⟨#[49, 95, 48]⟩ : ByteArray) 3 false _ A23.out).mono ?_); rintro e w50 ⟨rfl, hb⟩; have n0_ := Aside0.mk (below_step (by repeat (first | (with_reducible first | exact HB.out | apply below_alloc | apply pw_below_drewN | apply below_drew1) | exact HB.out)) hb); clear HB; have HB := n0_; clear n0_; (try clear hb); (try clear hb2); (try clear hk); (try clear hi)))
                          go_ret
                          exact ⟨by first | rfl | (simp [errW_none, errW_some] <;> rfl) | (simp [*, errW_none, errW_some] <;> rfl), by repeat (first | (with_reducible first | exact HB.out | apply below_alloc | apply pw_below_drewN | apply below_drew1) | exact HB.out)⟩
                      · replace c22 := Bool.eq_false_iff.mpr c22
                        subst c22
                        have H1 : (some false) = some r := by rw [if_neg (show ¬ (false = true) by decide)] at H; exact H
                        clear H
                        have H := H1
                        clear H1
                        obtain rfl := Option.some.inj H
                        go_enter Tryd.func7, Tryd.ntmps7
                        go_wp2_with (first | ((with_reducible refine gate_callee (f := 16) rfl ?_); refine goesL_ (some 1) rfl rfl Tryd.func16 (by kernel_rfl) rfl #[.string (⟨#[49, 101, 51]⟩ : ByteArray), .int .i64 1000000000] rfl (by (try simp only [List.map_toArray, List.map_cons, List.map_nil]); first | done | rfl | (simp only [List.length_drop, List.length_take]; rfl)) ?_; (with_reducible refine (odometerlaw01_reads.calls (⟨#[49, 101, 51]⟩ : ByteArray) 1000000000 true _ A1.out).mono ?_); rintro e w51 ⟨rfl, hb⟩; refine ⟨_, rfl, ?_⟩; have n0_ := Aside0.mk (below_step (by repeat (first | (with_reducible first | exact HB.out | apply below_alloc | apply pw_below_drewN | apply below_drew1) | exact HB.out)) hb); clear HB; have HB := n0_; clear n0_; (try clear hb); (try clear hb2); (try clear hk); (try clear hi)) | (go_at_call 16; (with_reducible refine (odometerlaw01_reads.calls (⟨#[46, 53]⟩ : ByteArray) 500000 true _ A3.out).mono ?_); rintro e w52 ⟨rfl, hb⟩; have n0_ := Aside0.mk (below_step (by repeat (first | (with_reducible first | exact HB.out | apply below_alloc | apply pw_below_drewN | apply below_drew1) | exact HB.out)) hb); clear HB; have HB := n0_; clear n0_; (try clear hb); (try clear hb2); (try clear hk); (try clear hi)) | (go_at_call 16; (with_reducible refine (odometerlaw01_reads.calls (⟨#[45, 48, 46, 48, 48, 48, 48, 48, 49]⟩ : ByteArray) (-1) true _ A5.out).mono ?_); rintro e w53 ⟨rfl, hb⟩; have n0_ := Aside0.mk (below_step (by repeat (first | (with_reducible first | exact HB.out | apply below_alloc | apply pw_below_drewN | apply below_drew1) | exact HB.out)) hb); clear HB; have HB := n0_; clear n0_; (try clear hb); (try clear hb2); (try clear hk); (try clear hi)) | (go_at_call 16; (with_reducible refine (odometerlaw01_reads.calls (⟨#[50, 53, 101, 45, 54]⟩ : ByteArray) 25 true _ A7.out).mono ?_); rintro e w54 ⟨rfl, hb⟩; have n0_ := Aside0.mk (below_step (by repeat (first | (with_reducible first | exact HB.out | apply below_alloc | apply pw_below_drewN | apply below_drew1) | exact HB.out)) hb); clear HB; have HB := n0_; clear n0_; (try clear hb); (try clear hb2); (try clear hk); (try clear hi)) | (go_at_call 16; (with_reducible refine (odometerlaw01_reads.calls (⟨#[48, 101, 57, 57]⟩ : ByteArray) 0 true _ A9.out).mono ?_); rintro e w55 ⟨rfl, hb⟩; have n0_ := Aside0.mk (below_step (by repeat (first | (with_reducible first | exact HB.out | apply below_alloc | apply pw_below_drewN | apply below_drew1) | exact HB.out)) hb); clear HB; have HB := n0_; clear n0_; (try clear hb); (try clear hb2); (try clear hk); (try clear hi)) | (go_at_call 19; (with_reducible refine (odometerlaw01_fails.calls (⟨#[49, 101, 45, 55]⟩ : ByteArray) 4 true _ A11.out).mono ?_); rintro e w56 ⟨rfl, hb⟩; have n0_ := Aside0.mk (below_step (by repeat (first | (with_reducible first | exact HB.out | apply below_alloc | apply pw_below_drewN | apply below_drew1) | exact HB.out)) hb); clear HB; have HB := n0_; clear n0_; (try clear hb); (try clear hb2); (try clear hk); (try clear hi)) | (go_at_call 19; (with_reducible refine (odometerlaw01_fails.calls (⟨#[57, 50, 50, 51, 51, 55, 50, 48, 51, 54, 56, 53, 52, 46, 55, 55, 53, 56, 48, 56]⟩ : ByteArray) 4 true _ A13.out).mono ?_); rintro e w57 ⟨rfl, hb⟩; have n0_ := Aside0.mk (below_step (by repeat (first | (with_reducible first | exact HB.out | apply below_alloc | apply pw_below_drewN | apply below_drew1) | exact HB.out)) hb); clear HB; have HB := n0_; clear n0_; (try clear hb); (try clear hb2); (try clear hk); (try clear hi)) | (go_at_call 19; (with_reducible refine (odometerlaw01_fails.calls (⟨#[43, 73, 110, 102]⟩ : ByteArray) 4 true _ A15.out).mono ?_); rintro e w58 ⟨rfl, hb⟩; have n0_ := Aside0.mk (below_step (by repeat (first | (with_reducible first | exact HB.out | apply below_alloc | apply pw_below_drewN | apply below_drew1) | exact HB.out)) hb); clear HB; have HB := n0_; clear n0_; (try clear hb); (try clear hb2); (try clear hk); (try clear hi)) | (go_at_call 19; (with_reducible refine (odometerlaw01_fails.calls (⟨#[46]⟩ : ByteArray) 3 true _ A17.out).mono ?_); rintro e w59 ⟨rfl, hb⟩; have n0_ := Aside0.mk (below_step (by repeat (first | (with_reducible first | exact HB.out | apply below_alloc | apply pw_below_drewN | apply below_drew1) | exact HB.out)) hb); clear HB; have HB := n0_; clear n0_; (try clear hb); (try clear hb2); (try clear hk); (try clear hi)) | (go_at_call 19; (with_reducible refine (odometerlaw01_fails.calls (⟨#[101, 53]⟩ : ByteArray) 3 true _ A19.out).mono ?_); rintro e w60 ⟨rfl, hb⟩; have n0_ := Aside0.mk (below_step (by repeat (first | (with_reducible first | exact HB.out | apply below_alloc | apply pw_below_drewN | apply below_drew1) | exact HB.out)) hb); clear HB; have HB := n0_; clear n0_; (try clear hb); (try clear hb2); (try clear hk); (try clear hi)) | (go_at_call 19; (with_reducible refine (odometerlaw01_fails.calls (⟨#[49, 101]⟩ : ByteArray) 3 false _ A21.out).mono ?_); rintro e w61 ⟨rfl, hb⟩; have n0_ := Aside0.mk (below_step (by repeat (first | (with_reducible first | exact HB.out | apply below_alloc | apply pw_below_drewN | apply below_drew1) | exact HB.out)) hb); clear HB; have HB := n0_; clear n0_; (try clear hb); (try clear hb2); (try clear hk); (try clear hi)))
                        go_ret
                        exact ⟨by first | rfl | (simp [errW_none, errW_some] <;> rfl) | (simp [*, errW_none, errW_some] <;> rfl), by repeat (first | (with_reducible first | exact HB.out | apply below_alloc | apply pw_below_drewN | apply below_drew1) | exact HB.out)⟩
                    · replace c20 := Bool.eq_false_iff.mpr c20
                      subst c20
                      have H1 : (some false) = some r := by rw [if_neg (show ¬ (false = true) by decide)] at H; exact H
                      clear H
                      have H := H1
                      clear H1
                      obtain rfl := Option.some.inj H
                      go_enter Tryd.func7, Tryd.ntmps7
                      go_wp2_with (first | ((with_reducible refine gate_callee (f := 16) rfl ?_); refine goesL_ (some 1) rfl rfl Tryd.func16 (by kernel_rfl) rfl #[.string (⟨#[49, 101, 51]⟩ : ByteArray), .int .i64 1000000000] rfl (by (try simp only [List.map_toArray, List.map_cons, List.map_nil]); first | done | rfl | (simp only [List.length_drop, List.length_take]; rfl)) ?_; (with_reducible refine (odometerlaw01_reads.calls (⟨#[49, 101, 51]⟩ : ByteArray) 1000000000 true _ A1.out).mono ?_); rintro e w62 ⟨rfl, hb⟩; refine ⟨_, rfl, ?_⟩; have n0_ := Aside0.mk (below_step (by repeat (first | (with_reducible first | exact HB.out | apply below_alloc | apply pw_below_drewN | apply below_drew1) | exact HB.out)) hb); clear HB; have HB := n0_; clear n0_; (try clear hb); (try clear hb2); (try clear hk); (try clear hi)) | (go_at_call 16; (with_reducible refine (odometerlaw01_reads.calls (⟨#[46, 53]⟩ : ByteArray) 500000 true _ A3.out).mono ?_); rintro e w63 ⟨rfl, hb⟩; have n0_ := Aside0.mk (below_step (by repeat (first | (with_reducible first | exact HB.out | apply below_alloc | apply pw_below_drewN | apply below_drew1) | exact HB.out)) hb); clear HB; have HB := n0_; clear n0_; (try clear hb); (try clear hb2); (try clear hk); (try clear hi)) | (go_at_call 16; (with_reducible refine (odometerlaw01_reads.calls (⟨#[45, 48, 46, 48, 48, 48, 48, 48, 49]⟩ : ByteArray) (-1) true _ A5.out).mono ?_); rintro e w64 ⟨rfl, hb⟩; have n0_ := Aside0.mk (below_step (by repeat (first | (with_reducible first | exact HB.out | apply below_alloc | apply pw_below_drewN | apply below_drew1) | exact HB.out)) hb); clear HB; have HB := n0_; clear n0_; (try clear hb); (try clear hb2); (try clear hk); (try clear hi)) | (go_at_call 16; (with_reducible refine (odometerlaw01_reads.calls (⟨#[50, 53, 101, 45, 54]⟩ : ByteArray) 25 true _ A7.out).mono ?_); rintro e w65 ⟨rfl, hb⟩; have n0_ := Aside0.mk (below_step (by repeat (first | (with_reducible first | exact HB.out | apply below_alloc | apply pw_below_drewN | apply below_drew1) | exact HB.out)) hb); clear HB; have HB := n0_; clear n0_; (try clear hb); (try clear hb2); (try clear hk); (try clear hi)) | (go_at_call 16; (with_reducible refine (odometerlaw01_reads.calls (⟨#[48, 101, 57, 57]⟩ : ByteArray) 0 true _ A9.out).mono ?_); rintro e w66 ⟨rfl, hb⟩; have n0_ := Aside0.mk (below_step (by repeat (first | (with_reducible first | exact HB.out | apply below_alloc | apply pw_below_drewN | apply below_drew1) | exact HB.out)) hb); clear HB; have HB := n0_; clear n0_; (try clear hb); (try clear hb2); (try clear hk); (try clear hi)) | (go_at_call 19; (with_reducible refine (odometerlaw01_fails.calls (⟨#[49, 101, 45, 55]⟩ : ByteArray) 4 true _ A11.out).mono ?_); rintro e w67 ⟨rfl, hb⟩; have n0_ := Aside0.mk (below_step (by repeat (first | (with_reducible first | exact HB.out | apply below_alloc | apply pw_below_drewN | apply below_drew1) | exact HB.out)) hb); clear HB; have HB := n0_; clear n0_; (try clear hb); (try clear hb2); (try clear hk); (try clear hi)) | (go_at_call 19; (with_reducible refine (odometerlaw01_fails.calls (⟨#[57, 50, 50, 51, 51, 55, 50, 48, 51, 54, 56, 53, 52, 46, 55, 55, 53, 56, 48, 56]⟩ : ByteArray) 4 true _ A13.out).mono ?_); rintro e w68 ⟨rfl, hb⟩; have n0_ := Aside0.mk (below_step (by repeat (first | (with_reducible first | exact HB.out | apply below_alloc | apply pw_below_drewN | apply below_drew1) | exact HB.out)) hb); clear HB; have HB := n0_; clear n0_; (try clear hb); (try clear hb2); (try clear hk); (try clear hi)) | (go_at_call 19; (with_reducible refine (odometerlaw01_fails.calls (⟨#[43, 73, 110, 102]⟩ : ByteArray) 4 true _ A15.out).mono ?_); rintro e w69 ⟨rfl, hb⟩; have n0_ := Aside0.mk (below_step (by repeat (first | (with_reducible first | exact HB.out | apply below_alloc | apply pw_below_drewN | apply below_drew1) | exact HB.out)) hb); clear HB; have HB := n0_; clear n0_; (try clear hb); (try clear hb2); (try clear hk); (try clear hi)) | (go_at_call 19; (with_reducible refine (odometerlaw01_fails.calls (⟨#[46]⟩ : ByteArray) 3 true _ A17.out).mono ?_); rintro e w70 ⟨rfl, hb⟩; have n0_ := Aside0.mk (below_step (by repeat (first | (with_reducible first | exact HB.out | apply below_alloc | apply pw_below_drewN | apply below_drew1) | exact HB.out)) hb); clear HB; have HB := n0_; clear n0_; (try clear hb); (try clear hb2); (try clear hk); (try clear hi)) | (go_at_call 19; (with_reducible refine (odometerlaw01_fails.calls (⟨#[101, 53]⟩ : ByteArray) 3 false _ A19.out).mono ?_); rintro e w71 ⟨rfl, hb⟩; have n0_ := Aside0.mk (below_step (by repeat (first | (with_reducible first | exact HB.out | apply below_alloc | apply pw_below_drewN | apply below_drew1) | exact HB.out)) hb); clear HB; have HB := n0_; clear n0_; (try clear hb); (try clear hb2); (try clear hk); (try clear hi)))
                      go_ret
                      exact ⟨by first | rfl | (simp [errW_none, errW_some] <;> rfl) | (simp [*, errW_none, errW_some] <;> rfl), by repeat (first | (with_reducible first | exact HB.out | apply below_alloc | apply pw_below_drewN | apply below_drew1) | exact HB.out)⟩
                  · replace c18 := Bool.eq_false_iff.mpr c18
                    subst c18
                    have H1 : (some false) = some r := by rw [if_neg (show ¬ (false = true) by decide)] at H; exact H
                    clear H
                    have H := H1
                    clear H1
                    obtain rfl := Option.some.inj H
                    go_enter Tryd.func7, Tryd.ntmps7
                    go_wp2_with (first | ((with_reducible refine gate_callee (f := 16) rfl ?_); refine goesL_ (some 1) rfl rfl Tryd.func16 (by kernel_rfl) rfl #[.string (⟨#[49, 101, 51]⟩ : ByteArray), .int .i64 1000000000] rfl (by (try simp only [List.map_toArray, List.map_cons, List.map_nil]); first | done | rfl | (simp only [List.length_drop, List.length_take]; rfl)) ?_; (with_reducible refine (odometerlaw01_reads.calls (⟨#[49, 101, 51]⟩ : ByteArray) 1000000000 true _ A1.out).mono ?_); rintro e w72 ⟨rfl, hb⟩; refine ⟨_, rfl, ?_⟩; have n0_ := Aside0.mk (below_step (by repeat (first | (with_reducible first | exact HB.out | apply below_alloc | apply pw_below_drewN | apply below_drew1) | exact HB.out)) hb); clear HB; have HB := n0_; clear n0_; (try clear hb); (try clear hb2); (try clear hk); (try clear hi)) | (go_at_call 16; (with_reducible refine (odometerlaw01_reads.calls (⟨#[46, 53]⟩ : ByteArray) 500000 true _ A3.out).mono ?_); rintro e w73 ⟨rfl, hb⟩; have n0_ := Aside0.mk (below_step (by repeat (first | (with_reducible first | exact HB.out | apply below_alloc | apply pw_below_drewN | apply below_drew1) | exact HB.out)) hb); clear HB; have HB := n0_; clear n0_; (try clear hb); (try clear hb2); (try clear hk); (try clear hi)) | (go_at_call 16; (with_reducible refine (odometerlaw01_reads.calls (⟨#[45, 48, 46, 48, 48, 48, 48, 48, 49]⟩ : ByteArray) (-1) true _ A5.out).mono ?_); rintro e w74 ⟨rfl, hb⟩; have n0_ := Aside0.mk (below_step (by repeat (first | (with_reducible first | exact HB.out | apply below_alloc | apply pw_below_drewN | apply below_drew1) | exact HB.out)) hb); clear HB; have HB := n0_; clear n0_; (try clear hb); (try clear hb2); (try clear hk); (try clear hi)) | (go_at_call 16; (with_reducible refine (odometerlaw01_reads.calls (⟨#[50, 53, 101, 45, 54]⟩ : ByteArray) 25 true _ A7.out).mono ?_); rintro e w75 ⟨rfl, hb⟩; have n0_ := Aside0.mk (below_step (by repeat (first | (with_reducible first | exact HB.out | apply below_alloc | apply pw_below_drewN | apply below_drew1) | exact HB.out)) hb); clear HB; have HB := n0_; clear n0_; (try clear hb); (try clear hb2); (try clear hk); (try clear hi)) | (go_at_call 16; (with_reducible refine (odometerlaw01_reads.calls (⟨#[48, 101, 57, 57]⟩ : ByteArray) 0 true _ A9.out).mono ?_); rintro e w76 ⟨rfl, hb⟩; have n0_ := Aside0.mk (below_step (by repeat (first | (with_reducible first | exact HB.out | apply below_alloc | apply pw_below_drewN | apply below_drew1) | exact HB.out)) hb); clear HB; have HB := n0_; clear n0_; (try clear hb); (try clear hb2); (try clear hk); (try clear hi)) | (go_at_call 19; (with_reducible refine (odometerlaw01_fails.calls (⟨#[49, 101, 45, 55]⟩ : ByteArray) 4 true _ A11.out).mono ?_); rintro e w77 ⟨rfl, hb⟩; have n0_ := Aside0.mk (below_step (by repeat (first | (with_reducible first | exact HB.out | apply below_alloc | apply pw_below_drewN | apply below_drew1) | exact HB.out)) hb); clear HB; have HB := n0_; clear n0_; (try clear hb); (try clear hb2); (try clear hk); (try clear hi)) | (go_at_call 19; (with_reducible refine (odometerlaw01_fails.calls (⟨#[57, 50, 50, 51, 51, 55, 50, 48, 51, 54, 56, 53, 52, 46, 55, 55, 53, 56, 48, 56]⟩ : ByteArray) 4 true _ A13.out).mono ?_); rintro e w78 ⟨rfl, hb⟩; have n0_ := Aside0.mk (below_step (by repeat (first | (with_reducible first | exact HB.out | apply below_alloc | apply pw_below_drewN | apply below_drew1) | exact HB.out)) hb); clear HB; have HB := n0_; clear n0_; (try clear hb); (try clear hb2); (try clear hk); (try clear hi)) | (go_at_call 19; (with_reducible refine (odometerlaw01_fails.calls (⟨#[43, 73, 110, 102]⟩ : ByteArray) 4 true _ A15.out).mono ?_); rintro e w79 ⟨rfl, hb⟩; have n0_ := Aside0.mk (below_step (by repeat (first | (with_reducible first | exact HB.out | apply below_alloc | apply pw_below_drewN | apply below_drew1) | exact HB.out)) hb); clear HB; have HB := n0_; clear n0_; (try clear hb); (try clear hb2); (try clear hk); (try clear hi)) | (go_at_call 19; (with_reducible refine (odometerlaw01_fails.calls (⟨#[46]⟩ : ByteArray) 3 false _ A17.out).mono ?_); rintro e w80 ⟨rfl, hb⟩; have n0_ := Aside0.mk (below_step (by repeat (first | (with_reducible first | exact HB.out | apply below_alloc | apply pw_below_drewN | apply below_drew1) | exact HB.out)) hb); clear HB; have HB := n0_; clear n0_; (try clear hb); (try clear hb2); (try clear hk); (try clear hi)))
                    go_ret
                    exact ⟨by first | rfl | (simp [errW_none, errW_some] <;> rfl) | (simp [*, errW_none, errW_some] <;> rfl), by repeat (first | (with_reducible first | exact HB.out | apply below_alloc | apply pw_below_drewN | apply below_drew1) | exact HB.out)⟩
                · replace c16 := Bool.eq_false_iff.mpr c16
                  subst c16
                  have H1 : (some false) = some r := by rw [if_neg (show ¬ (false = true) by decide)] at H; exact H
                  clear H
                  have H := H1
                  clear H1
                  obtain rfl := Option.some.inj H
                  go_enter Tryd.func7, Tryd.ntmps7
                  go_wp2_with (first | ((with_reducible refine gate_callee (f := 16) rfl ?_); refine goesL_ (some 1) rfl rfl Tryd.func16 (by kernel_rfl) rfl #[.string (⟨#[49, 101, 51]⟩ : ByteArray), .int .i64 1000000000] rfl (by (try simp only [List.map_toArray, List.map_cons, List.map_nil]); first | done | rfl | (simp only [List.length_drop, List.length_take]; rfl)) ?_; (with_reducible refine (odometerlaw01_reads.calls (⟨#[49, 101, 51]⟩ : ByteArray) 1000000000 true _ A1.out).mono ?_); rintro e w81 ⟨rfl, hb⟩; refine ⟨_, rfl, ?_⟩; have n0_ := Aside0.mk (below_step (by repeat (first | (with_reducible first | exact HB.out | apply below_alloc | apply pw_below_drewN | apply below_drew1) | exact HB.out)) hb); clear HB; have HB := n0_; clear n0_; (try clear hb); (try clear hb2); (try clear hk); (try clear hi)) | (go_at_call 16; (with_reducible refine (odometerlaw01_reads.calls (⟨#[46, 53]⟩ : ByteArray) 500000 true _ A3.out).mono ?_); rintro e w82 ⟨rfl, hb⟩; have n0_ := Aside0.mk (below_step (by repeat (first | (with_reducible first | exact HB.out | apply below_alloc | apply pw_below_drewN | apply below_drew1) | exact HB.out)) hb); clear HB; have HB := n0_; clear n0_; (try clear hb); (try clear hb2); (try clear hk); (try clear hi)) | (go_at_call 16; (with_reducible refine (odometerlaw01_reads.calls (⟨#[45, 48, 46, 48, 48, 48, 48, 48, 49]⟩ : ByteArray) (-1) true _ A5.out).mono ?_); rintro e w83 ⟨rfl, hb⟩; have n0_ := Aside0.mk (below_step (by repeat (first | (with_reducible first | exact HB.out | apply below_alloc | apply pw_below_drewN | apply below_drew1) | exact HB.out)) hb); clear HB; have HB := n0_; clear n0_; (try clear hb); (try clear hb2); (try clear hk); (try clear hi)) | (go_at_call 16; (with_reducible refine (odometerlaw01_reads.calls (⟨#[50, 53, 101, 45, 54]⟩ : ByteArray) 25 true _ A7.out).mono ?_); rintro e w84 ⟨rfl, hb⟩; have n0_ := Aside0.mk (below_step (by repeat (first | (with_reducible first | exact HB.out | apply below_alloc | apply pw_below_drewN | apply below_drew1) | exact HB.out)) hb); clear HB; have HB := n0_; clear n0_; (try clear hb); (try clear hb2); (try clear hk); (try clear hi)) | (go_at_call 16; (with_reducible refine (odometerlaw01_reads.calls (⟨#[48, 101, 57, 57]⟩ : ByteArray) 0 true _ A9.out).mono ?_); rintro e w85 ⟨rfl, hb⟩; have n0_ := Aside0.mk (below_step (by repeat (first | (with_reducible first | exact HB.out | apply below_alloc | apply pw_below_drewN | apply below_drew1) | exact HB.out)) hb); clear HB; have HB := n0_; clear n0_; (try clear hb); (try clear hb2); (try clear hk); (try clear hi)) | (go_at_call 19; (with_reducible refine (odometerlaw01_fails.calls (⟨#[49, 101, 45, 55]⟩ : ByteArray) 4 true _ A11.out).mono ?_); rintro e w86 ⟨rfl, hb⟩; have n0_ := Aside0.mk (below_step (by repeat (first | (with_reducible first | exact HB.out | apply below_alloc | apply pw_below_drewN | apply below_drew1) | exact HB.out)) hb); clear HB; have HB := n0_; clear n0_; (try clear hb); (try clear hb2); (try clear hk); (try clear hi)) | (go_at_call 19; (with_reducible refine (odometerlaw01_fails.calls (⟨#[57, 50, 50, 51, 51, 55, 50, 48, 51, 54, 56, 53, 52, 46, 55, 55, 53, 56, 48, 56]⟩ : ByteArray) 4 true _ A13.out).mono ?_); rintro e w87 ⟨rfl, hb⟩; have n0_ := Aside0.mk (below_step (by repeat (first | (with_reducible first | exact HB.out | apply below_alloc | apply pw_below_drewN | apply below_drew1) | exact HB.out)) hb); clear HB; have HB := n0_; clear n0_; (try clear hb); (try clear hb2); (try clear hk); (try clear hi)) | (go_at_call 19; (with_reducible refine (odometerlaw01_fails.calls (⟨#[43, 73, 110, 102]⟩ : ByteArray) 4 false _ A15.out).mono ?_); rintro e w88 ⟨rfl, hb⟩; have n0_ := Aside0.mk (below_step (by repeat (first | (with_reducible first | exact HB.out | apply below_alloc | apply pw_below_drewN | apply below_drew1) | exact HB.out)) hb); clear HB; have HB := n0_; clear n0_; (try clear hb); (try clear hb2); (try clear hk); (try clear hi)))
                  go_ret
                  exact ⟨by first | rfl | (simp [errW_none, errW_some] <;> rfl) | (simp [*, errW_none, errW_some] <;> rfl), by repeat (first | (with_reducible first | exact HB.out | apply below_alloc | apply pw_below_drewN | apply below_drew1) | exact HB.out)⟩
              · replace c14 := Bool.eq_false_iff.mpr c14
                subst c14
                have H1 : (some false) = some r := by rw [if_neg (show ¬ (false = true) by decide)] at H; exact H
                clear H
                have H := H1
                clear H1
                obtain rfl := Option.some.inj H
                go_enter Tryd.func7, Tryd.ntmps7
                go_wp2_with (first | ((with_reducible refine gate_callee (f := 16) rfl ?_); refine goesL_ (some 1) rfl rfl Tryd.func16 (by kernel_rfl) rfl #[.string (⟨#[49, 101, 51]⟩ : ByteArray), .int .i64 1000000000] rfl (by (try simp only [List.map_toArray, List.map_cons, List.map_nil]); first | done | rfl | (simp only [List.length_drop, List.length_take]; rfl)) ?_; (with_reducible refine (odometerlaw01_reads.calls (⟨#[49, 101, 51]⟩ : ByteArray) 1000000000 true _ A1.out).mono ?_); rintro e w89 ⟨rfl, hb⟩; refine ⟨_, rfl, ?_⟩; have n0_ := Aside0.mk (below_step (by repeat (first | (with_reducible first | exact HB.out | apply below_alloc | apply pw_below_drewN | apply below_drew1) | exact HB.out)) hb); clear HB; have HB := n0_; clear n0_; (try clear hb); (try clear hb2); (try clear hk); (try clear hi)) | (go_at_call 16; (with_reducible refine (odometerlaw01_reads.calls (⟨#[46, 53]⟩ : ByteArray) 500000 true _ A3.out).mono ?_); rintro e w90 ⟨rfl, hb⟩; have n0_ := Aside0.mk (below_step (by repeat (first | (with_reducible first | exact HB.out | apply below_alloc | apply pw_below_drewN | apply below_drew1) | exact HB.out)) hb); clear HB; have HB := n0_; clear n0_; (try clear hb); (try clear hb2); (try clear hk); (try clear hi)) | (go_at_call 16; (with_reducible refine (odometerlaw01_reads.calls (⟨#[45, 48, 46, 48, 48, 48, 48, 48, 49]⟩ : ByteArray) (-1) true _ A5.out).mono ?_); rintro e w91 ⟨rfl, hb⟩; have n0_ := Aside0.mk (below_step (by repeat (first | (with_reducible first | exact HB.out | apply below_alloc | apply pw_below_drewN | apply below_drew1) | exact HB.out)) hb); clear HB; have HB := n0_; clear n0_; (try clear hb); (try clear hb2); (try clear hk); (try clear hi)) | (go_at_call 16; (with_reducible refine (odometerlaw01_reads.calls (⟨#[50, 53, 101, 45, 54]⟩ : ByteArray) 25 true _ A7.out).mono ?_); rintro e w92 ⟨rfl, hb⟩; have n0_ := Aside0.mk (below_step (by repeat (first | (with_reducible first | exact HB.out | apply below_alloc | apply pw_below_drewN | apply below_drew1) | exact HB.out)) hb); clear HB; have HB := n0_; clear n0_; (try clear hb); (try clear hb2); (try clear hk); (try clear hi)) | (go_at_call 16; (with_reducible refine (odometerlaw01_reads.calls (⟨#[48, 101, 57, 57]⟩ : ByteArray) 0 true _ A9.out).mono ?_); rintro e w93 ⟨rfl, hb⟩; have n0_ := Aside0.mk (below_step (by repeat (first | (with_reducible first | exact HB.out | apply below_alloc | apply pw_below_drewN | apply below_drew1) | exact HB.out)) hb); clear HB; have HB := n0_; clear n0_; (try clear hb); (try clear hb2); (try clear hk); (try clear hi)) | (go_at_call 19; (with_reducible refine (odometerlaw01_fails.calls (⟨#[49, 101, 45, 55]⟩ : ByteArray) 4 true _ A11.out).mono ?_); rintro e w94 ⟨rfl, hb⟩; have n0_ := Aside0.mk (below_step (by repeat (first | (with_reducible first | exact HB.out | apply below_alloc | apply pw_below_drewN | apply below_drew1) | exact HB.out)) hb); clear HB; have HB := n0_; clear n0_; (try clear hb); (try clear hb2); (try clear hk); (try clear hi)) | (go_at_call 19; (with_reducible refine (odometerlaw01_fails.calls (⟨#[57, 50, 50, 51, 51, 55, 50, 48, 51, 54, 56, 53, 52, 46, 55, 55, 53, 56, 48, 56]⟩ : ByteArray) 4 false _ A13.out).mono ?_); rintro e w95 ⟨rfl, hb⟩; have n0_ := Aside0.mk (below_step (by repeat (first | (with_reducible first | exact HB.out | apply below_alloc | apply pw_below_drewN | apply below_drew1) | exact HB.out)) hb); clear HB; have HB := n0_; clear n0_; (try clear hb); (try clear hb2); (try clear hk); (try clear hi)))
                go_ret
                exact ⟨by first | rfl | (simp [errW_none, errW_some] <;> rfl) | (simp [*, errW_none, errW_some] <;> rfl), by repeat (first | (with_reducible first | exact HB.out | apply below_alloc | apply pw_below_drewN | apply below_drew1) | exact HB.out)⟩
            · replace c12 := Bool.eq_false_iff.mpr c12
              subst c12
              have H1 : (some false) = some r := by rw [if_neg (show ¬ (false = true) by decide)] at H; exact H
              clear H
              have H := H1
              clear H1
              obtain rfl := Option.some.inj H
              go_enter Tryd.func7, Tryd.ntmps7
              go_wp2_with (first | ((with_reducible refine gate_callee (f := 16) rfl ?_); refine goesL_ (some 1) rfl rfl Tryd.func16 (by kernel_rfl) rfl #[.string (⟨#[49, 101, 51]⟩ : ByteArray), .int .i64 1000000000] rfl (by (try simp only [List.map_toArray, List.map_cons, List.map_nil]); first | done | rfl | (simp only [List.length_drop, List.length_take]; rfl)) ?_; (with_reducible refine (odometerlaw01_reads.calls (⟨#[49, 101, 51]⟩ : ByteArray) 1000000000 true _ A1.out).mono ?_); rintro e w96 ⟨rfl, hb⟩; refine ⟨_, rfl, ?_⟩; have n0_ := Aside0.mk (below_step (by repeat (first | (with_reducible first | exact HB.out | apply below_alloc | apply pw_below_drewN | apply below_drew1) | exact HB.out)) hb); clear HB; have HB := n0_; clear n0_; (try clear hb); (try clear hb2); (try clear hk); (try clear hi)) | (go_at_call 16; (with_reducible refine (odometerlaw01_reads.calls (⟨#[46, 53]⟩ : ByteArray) 500000 true _ A3.out).mono ?_); rintro e w97 ⟨rfl, hb⟩; have n0_ := Aside0.mk (below_step (by repeat (first | (with_reducible first | exact HB.out | apply below_alloc | apply pw_below_drewN | apply below_drew1) | exact HB.out)) hb); clear HB; have HB := n0_; clear n0_; (try clear hb); (try clear hb2); (try clear hk); (try clear hi)) | (go_at_call 16; (with_reducible refine (odometerlaw01_reads.calls (⟨#[45, 48, 46, 48, 48, 48, 48, 48, 49]⟩ : ByteArray) (-1) true _ A5.out).mono ?_); rintro e w98 ⟨rfl, hb⟩; have n0_ := Aside0.mk (below_step (by repeat (first | (with_reducible first | exact HB.out | apply below_alloc | apply pw_below_drewN | apply below_drew1) | exact HB.out)) hb); clear HB; have HB := n0_; clear n0_; (try clear hb); (try clear hb2); (try clear hk); (try clear hi)) | (go_at_call 16; (with_reducible refine (odometerlaw01_reads.calls (⟨#[50, 53, 101, 45, 54]⟩ : ByteArray) 25 true _ A7.out).mono ?_); rintro e w99 ⟨rfl, hb⟩; have n0_ := Aside0.mk (below_step (by repeat (first | (with_reducible first | exact HB.out | apply below_alloc | apply pw_below_drewN | apply below_drew1) | exact HB.out)) hb); clear HB; have HB := n0_; clear n0_; (try clear hb); (try clear hb2); (try clear hk); (try clear hi)) | (go_at_call 16; (with_reducible refine (odometerlaw01_reads.calls (⟨#[48, 101, 57, 57]⟩ : ByteArray) 0 true _ A9.out).mono ?_); rintro e w100 ⟨rfl, hb⟩; have n0_ := Aside0.mk (below_step (by repeat (first | (with_reducible first | exact HB.out | apply below_alloc | apply pw_below_drewN | apply below_drew1) | exact HB.out)) hb); clear HB; have HB := n0_; clear n0_; (try clear hb); (try clear hb2); (try clear hk); (try clear hi)) | (go_at_call 19; (with_reducible refine (odometerlaw01_fails.calls (⟨#[49, 101, 45, 55]⟩ : ByteArray) 4 false _ A11.out).mono ?_); rintro e w101 ⟨rfl, hb⟩; have n0_ := Aside0.mk (below_step (by repeat (first | (with_reducible first | exact HB.out | apply below_alloc | apply pw_below_drewN | apply below_drew1) | exact HB.out)) hb); clear HB; have HB := n0_; clear n0_; (try clear hb); (try clear hb2); (try clear hk); (try clear hi)))
              go_ret
              exact ⟨by first | rfl | (simp [errW_none, errW_some] <;> rfl) | (simp [*, errW_none, errW_some] <;> rfl), by repeat (first | (with_reducible first | exact HB.out | apply below_alloc | apply pw_below_drewN | apply below_drew1) | exact HB.out)⟩
          · replace c10 := Bool.eq_false_iff.mpr c10
            subst c10
            have H1 : (some false) = some r := by rw [if_neg (show ¬ (false = true) by decide)] at H; exact H
            clear H
            have H := H1
            clear H1
            obtain rfl := Option.some.inj H
            go_enter Tryd.func7, Tryd.ntmps7
            go_wp2_with (first | ((with_reducible refine gate_callee (f := 16) rfl ?_); refine goesL_ (some 1) rfl rfl Tryd.func16 (by kernel_rfl) rfl #[.string (⟨#[49, 101, 51]⟩ : ByteArray), .int .i64 1000000000] rfl (by (try simp only [List.map_toArray, List.map_cons, List.map_nil]); first | done | rfl | (simp only [List.length_drop, List.length_take]; rfl)) ?_; (with_reducible refine (odometerlaw01_reads.calls (⟨#[49, 101, 51]⟩ : ByteArray) 1000000000 true _ A1.out).mono ?_); rintro e w102 ⟨rfl, hb⟩; refine ⟨_, rfl, ?_⟩; have n0_ := Aside0.mk (below_step (by repeat (first | (with_reducible first | exact HB.out | apply below_alloc | apply pw_below_drewN | apply below_drew1) | exact HB.out)) hb); clear HB; have HB := n0_; clear n0_; (try clear hb); (try clear hb2); (try clear hk); (try clear hi)) | (go_at_call 16; (with_reducible refine (odometerlaw01_reads.calls (⟨#[46, 53]⟩ : ByteArray) 500000 true _ A3.out).mono ?_); rintro e w103 ⟨rfl, hb⟩; have n0_ := Aside0.mk (below_step (by repeat (first | (with_reducible first | exact HB.out | apply below_alloc | apply pw_below_drewN | apply below_drew1) | exact HB.out)) hb); clear HB; have HB := n0_; clear n0_; (try clear hb); (try clear hb2); (try clear hk); (try clear hi)) | (go_at_call 16; (with_reducible refine (odometerlaw01_reads.calls (⟨#[45, 48, 46, 48, 48, 48, 48, 48, 49]⟩ : ByteArray) (-1) true _ A5.out).mono ?_); rintro e w104 ⟨rfl, hb⟩; have n0_ := Aside0.mk (below_step (by repeat (first | (with_reducible first | exact HB.out | apply below_alloc | apply pw_below_drewN | apply below_drew1) | exact HB.out)) hb); clear HB; have HB := n0_; clear n0_; (try clear hb); (try clear hb2); (try clear hk); (try clear hi)) | (go_at_call 16; (with_reducible refine (odometerlaw01_reads.calls (⟨#[50, 53, 101, 45, 54]⟩ : ByteArray) 25 true _ A7.out).mono ?_); rintro e w105 ⟨rfl, hb⟩; have n0_ := Aside0.mk (below_step (by repeat (first | (with_reducible first | exact HB.out | apply below_alloc | apply pw_below_drewN | apply below_drew1) | exact HB.out)) hb); clear HB; have HB := n0_; clear n0_; (try clear hb); (try clear hb2); (try clear hk); (try clear hi)) | (go_at_call 16; (with_reducible refine (odometerlaw01_reads.calls (⟨#[48, 101, 57, 57]⟩ : ByteArray) 0 false _ A9.out).mono ?_); rintro e w106 ⟨rfl, hb⟩; have n0_ := Aside0.mk (below_step (by repeat (first | (with_reducible first | exact HB.out | apply below_alloc | apply pw_below_drewN | apply below_drew1) | exact HB.out)) hb); clear HB; have HB := n0_; clear n0_; (try clear hb); (try clear hb2); (try clear hk); (try clear hi)))
            go_ret
            exact ⟨by first | rfl | (simp [errW_none, errW_some] <;> rfl) | (simp [*, errW_none, errW_some] <;> rfl), by repeat (first | (with_reducible first | exact HB.out | apply below_alloc | apply pw_below_drewN | apply below_drew1) | exact HB.out)⟩
        · replace c8 := Bool.eq_false_iff.mpr c8
          subst c8
          have H1 : (some false) = some r := by rw [if_neg (show ¬ (false = true) by decide)] at H; exact H
          clear H
          have H := H1
          clear H1
          obtain rfl := Option.some.inj H
          go_enter Tryd.func7, Tryd.ntmps7
          go_wp2_with (first | ((with_reducible refine gate_callee (f := 16) rfl ?_); refine goesL_ (some 1) rfl rfl Tryd.func16 (by kernel_rfl) rfl #[.string (⟨#[49, 101, 51]⟩ : ByteArray), .int .i64 1000000000] rfl (by (try simp only [List.map_toArray, List.map_cons, List.map_nil]); first | done | rfl | (simp only [List.length_drop, List.length_take]; rfl)) ?_; (with_reducible refine (odometerlaw01_reads.calls (⟨#[49, 101, 51]⟩ : ByteArray) 1000000000 true _ A1.out).mono ?_); rintro e w107 ⟨rfl, hb⟩; refine ⟨_, rfl, ?_⟩; have n0_ := Aside0.mk (below_step (by repeat (first | (with_reducible first | exact HB.out | apply below_alloc | apply pw_below_drewN | apply below_drew1) | exact HB.out)) hb); clear HB; have HB := n0_; clear n0_; (try clear hb); (try clear hb2); (try clear hk); (try clear hi)) | (go_at_call 16; (with_reducible refine (odometerlaw01_reads.calls (⟨#[46, 53]⟩ : ByteArray) 500000 true _ A3.out).mono ?_); rintro e w108 ⟨rfl, hb⟩; have n0_ := Aside0.mk (below_step (by repeat (first | (with_reducible first | exact HB.out | apply below_alloc | apply pw_below_drewN | apply below_drew1) | exact HB.out)) hb); clear HB; have HB := n0_; clear n0_; (try clear hb); (try clear hb2); (try clear hk); (try clear hi)) | (go_at_call 16; (with_reducible refine (odometerlaw01_reads.calls (⟨#[45, 48, 46, 48, 48, 48, 48, 48, 49]⟩ : ByteArray) (-1) true _ A5.out).mono ?_); rintro e w109 ⟨rfl, hb⟩; have n0_ := Aside0.mk (below_step (by repeat (first | (with_reducible first | exact HB.out | apply below_alloc | apply pw_below_drewN | apply below_drew1) | exact HB.out)) hb); clear HB; have HB := n0_; clear n0_; (try clear hb); (try clear hb2); (try clear hk); (try clear hi)) | (go_at_call 16; (with_reducible refine (odometerlaw01_reads.calls (⟨#[50, 53, 101, 45, 54]⟩ : ByteArray) 25 false _ A7.out).mono ?_); rintro e w110 ⟨rfl, hb⟩; have n0_ := Aside0.mk (below_step (by repeat (first | (with_reducible first | exact HB.out | apply below_alloc | apply pw_below_drewN | apply below_drew1) | exact HB.out)) hb); clear HB; have HB := n0_; clear n0_; (try clear hb); (try clear hb2); (try clear hk); (try clear hi)))
          go_ret
          exact ⟨by first | rfl | (simp [errW_none, errW_some] <;> rfl) | (simp [*, errW_none, errW_some] <;> rfl), by repeat (first | (with_reducible first | exact HB.out | apply below_alloc | apply pw_below_drewN | apply below_drew1) | exact HB.out)⟩
      · replace c6 := Bool.eq_false_iff.mpr c6
        subst c6
        have H1 : (some false) = some r := by rw [if_neg (show ¬ (false = true) by decide)] at H; exact H
        clear H
        have H := H1
        clear H1
        obtain rfl := Option.some.inj H
        go_enter Tryd.func7, Tryd.ntmps7
        go_wp2_with (first | ((with_reducible refine gate_callee (f := 16) rfl ?_); refine goesL_ (some 1) rfl rfl Tryd.func16 (by kernel_rfl) rfl #[.string (⟨#[49, 101, 51]⟩ : ByteArray), .int .i64 1000000000] rfl (by (try simp only [List.map_toArray, List.map_cons, List.map_nil]); first | done | rfl | (simp only [List.length_drop, List.length_take]; rfl)) ?_; (with_reducible refine (odometerlaw01_reads.calls (⟨#[49, 101, 51]⟩ : ByteArray) 1000000000 true _ A1.out).mono ?_); rintro e w111 ⟨rfl, hb⟩; refine ⟨_, rfl, ?_⟩; have n0_ := Aside0.mk (below_step (by repeat (first | (with_reducible first | exact HB.out | apply below_alloc | apply pw_below_drewN | apply below_drew1) | exact HB.out)) hb); clear HB; have HB := n0_; clear n0_; (try clear hb); (try clear hb2); (try clear hk); (try clear hi)) | (go_at_call 16; (with_reducible refine (odometerlaw01_reads.calls (⟨#[46, 53]⟩ : ByteArray) 500000 true _ A3.out).mono ?_); rintro e w112 ⟨rfl, hb⟩; have n0_ := Aside0.mk (below_step (by repeat (first | (with_reducible first | exact HB.out | apply below_alloc | apply pw_below_drewN | apply below_drew1) | exact HB.out)) hb); clear HB; have HB := n0_; clear n0_; (try clear hb); (try clear hb2); (try clear hk); (try clear hi)) | (go_at_call 16; (with_reducible refine (odometerlaw01_reads.calls (⟨#[45, 48, 46, 48, 48, 48, 48, 48, 49]⟩ : ByteArray) (-1) false _ A5.out).mono ?_); rintro e w113 ⟨rfl, hb⟩; have n0_ := Aside0.mk (below_step (by repeat (first | (with_reducible first | exact HB.out | apply below_alloc | apply pw_below_drewN | apply below_drew1) | exact HB.out)) hb); clear HB; have HB := n0_; clear n0_; (try clear hb); (try clear hb2); (try clear hk); (try clear hi)))
        go_ret
        exact ⟨by first | rfl | (simp [errW_none, errW_some] <;> rfl) | (simp [*, errW_none, errW_some] <;> rfl), by repeat (first | (with_reducible first | exact HB.out | apply below_alloc | apply pw_below_drewN | apply below_drew1) | exact HB.out)⟩
    · replace c4 := Bool.eq_false_iff.mpr c4
      subst c4
      have H1 : (some false) = some r := by rw [if_neg (show ¬ (false = true) by decide)] at H; exact H
      clear H
      have H := H1
      clear H1
      obtain rfl := Option.some.inj H
      go_enter Tryd.func7, Tryd.ntmps7
      go_wp2_with (first | ((with_reducible refine gate_callee (f := 16) rfl ?_); refine goesL_ (some 1) rfl rfl Tryd.func16 (by kernel_rfl) rfl #[.string (⟨#[49, 101, 51]⟩ : ByteArray), .int .i64 1000000000] rfl (by (try simp only [List.map_toArray, List.map_cons, List.map_nil]); first | done | rfl | (simp only [List.length_drop, List.length_take]; rfl)) ?_; (with_reducible refine (odometerlaw01_reads.calls (⟨#[49, 101, 51]⟩ : ByteArray) 1000000000 true _ A1.out).mono ?_); rintro e w114 ⟨rfl, hb⟩; refine ⟨_, rfl, ?_⟩; have n0_ := Aside0.mk (below_step (by repeat (first | (with_reducible first | exact HB.out | apply below_alloc | apply pw_below_drewN | apply below_drew1) | exact HB.out)) hb); clear HB; have HB := n0_; clear n0_; (try clear hb); (try clear hb2); (try clear hk); (try clear hi)) | (go_at_call 16; (with_reducible refine (odometerlaw01_reads.calls (⟨#[46, 53]⟩ : ByteArray) 500000 false _ A3.out).mono ?_); rintro e w115 ⟨rfl, hb⟩; have n0_ := Aside0.mk (below_step (by repeat (first | (with_reducible first | exact HB.out | apply below_alloc | apply pw_below_drewN | apply below_drew1) | exact HB.out)) hb); clear HB; have HB := n0_; clear n0_; (try clear hb); (try clear hb2); (try clear hk); (try clear hi)))
      go_ret
      exact ⟨by first | rfl | (simp [errW_none, errW_some] <;> rfl) | (simp [*, errW_none, errW_some] <;> rfl), by repeat (first | (with_reducible first | exact HB.out | apply below_alloc | apply pw_below_drewN | apply below_drew1) | exact HB.out)⟩
  · replace c2 := Bool.eq_false_iff.mpr c2
    subst c2
    have H1 : (some false) = some r := by rw [if_neg (show ¬ (false = true) by decide)] at H; exact H
    clear H
    have H := H1
    clear H1
    obtain rfl := Option.some.inj H
    go_enter Tryd.func7, Tryd.ntmps7
    go_wp2_with (first | ((with_reducible refine gate_callee (f := 16) rfl ?_); refine goesL_ (some 1) rfl rfl Tryd.func16 (by kernel_rfl) rfl #[.string (⟨#[49, 101, 51]⟩ : ByteArray), .int .i64 1000000000] rfl (by (try simp only [List.map_toArray, List.map_cons, List.map_nil]); first | done | rfl | (simp only [List.length_drop, List.length_take]; rfl)) ?_; (with_reducible refine (odometerlaw01_reads.calls (⟨#[49, 101, 51]⟩ : ByteArray) 1000000000 false _ A1.out).mono ?_); rintro e w116 ⟨rfl, hb⟩; refine ⟨_, rfl, ?_⟩; have n0_ := Aside0.mk (below_step (by repeat (first | (with_reducible first | exact HB.out | apply below_alloc | apply pw_below_drewN | apply below_drew1) | exact HB.out)) hb); clear HB; have HB := n0_; clear n0_; (try clear hb); (try clear hb2); (try clear hk); (try clear hi)))
    go_ret
    exact ⟨by first | rfl | (simp [errW_none, errW_some] <;> rfl) | (simp [*, errW_none, errW_some] <;> rfl), by repeat (first | (with_reducible first | exact HB.out | apply below_alloc | apply pw_below_drewN | apply below_drew1) | exact HB.out)⟩

/-! ### fix_Add: function 10 -/
def fix_Add.j0 : Nat → Int → Int → Int → Bool → Option (Int × Bool)
  | 0, _, _, _, _ => none
  | k + 1, x0, x1, x6, x10 => if x10 = true then (some (9223372036854775807, true)) else (if x0 < 0 then (if x1 < 0 then (if x6 ≥ 0 then (some ((-9223372036854775808), true)) else (some (x6, false))) else (some (x6, false))) else (some (x6, false)))
def fix_Add.f (k : Nat) (a0 : Int) (a1 : Int) : Option (Int × Bool) := if a0 > 0 then (if a1 > 0 then (fix_Add.j0 k a0 a1 (wrap64 (a0 + a1)) (decide ((wrap64 (a0 + a1)) ≤ 0))) else (fix_Add.j0 k a0 a1 (wrap64 (a0 + a1)) false)) else (fix_Add.j0 k a0 a1 (wrap64 (a0 + a1)) false)
theorem fix_Add.mono_l : ∀ k, (∀ y0 y1 y2 y3, LeO (fix_Add.j0 k y0 y1 y2 y3) (fix_Add.j0 (k + 1) y0 y1 y2 y3))
  | 0 => fun _ _ _ _ r h => by simp [fix_Add.j0] at h
  | k + 1 => by
    have ih0 := fix_Add.mono_l k
    · intro y0 y1 y2 y3
      unfold fix_Add.j0
      repeat' first
      | (with_reducible exact ih0 _ _ _ _)
      | (with_reducible exact LeO.refl _)
      | (with_reducible exact LeO.none _)
      | (with_reducible refine LeO.ite ?_ ?_)
      | (with_reducible refine LeO.bind ?_ (fun _ => ?_))
      | exact ih0 _ _ _ _
      | exact LeO.none _
      | refine LeO.ite ?_ ?_
      | refine LeO.bind ?_ (fun _ => ?_)
theorem fix_Add.mono : ∀ a0 a1 k, LeO (fix_Add.f k a0 a1) (fix_Add.f (k + 1) a0 a1) := by
  intro a0 a1 k
  have ih0 := fix_Add.mono_l k
  unfold fix_Add.f
  repeat' first
      | (with_reducible exact ih0 _ _ _ _)
      | (with_reducible exact LeO.refl _)
      | (with_reducible exact LeO.none _)
      | (with_reducible refine LeO.ite ?_ ?_)
      | (with_reducible refine LeO.bind ?_ (fun _ => ?_))
      | exact ih0 _ _ _ _
      | exact LeO.none _
      | refine LeO.ite ?_ ?_
      | refine LeO.bind ?_ (fun _ => ?_)
set_option maxHeartbeats 8000000 in
set_option maxRecDepth 100000 in
theorem fix_Add.calls (k : Nat) (a0 : Int) (a1 : Int) (r1 : Int) (r2 : Bool) (w : World) (h : fix_Add.f k a0 a1 = some (r1, r2)) :
    Calls Tryd.prog 10 #[.int .i64 a0, .int .i64 a1] w fun e w' => e = .returned (.tuple #[.int .i64 r1, .bool r2]) ∧ Drawn0 w w' := by
  have H : (if a0 > 0 then (if a1 > 0 then (fix_Add.j0 k a0 a1 (wrap64 (a0 + a1)) (decide ((wrap64 (a0 + a1)) ≤ 0))) else (fix_Add.j0 k a0 a1 (wrap64 (a0 + a1)) false)) else (fix_Add.j0 k a0 a1 (wrap64 (a0 + a1)) false)) = some (r1, r2) := h
  clear h
  have HC3 := Aside0.mk H
  clear H
  go_enter Tryd.func10, Tryd.ntmps10
  go_upto_region 2 with (fail)
  go_cut [10] (fun v10 wc => ∃ (kq : Nat) (x10_2 : Bool), v10 = .bool x10_2 ∧ Aside0 (fix_Add.j0 kq a0 a1 (wrap64 (a0 + a1)) x10_2 = some (r1, r2)) ∧ Aside0 (kq ≤ k) ∧ Drawn0 w wc)
  case first =>
    have H := HC3.out
    clear HC3
    by_cases c4 : a0 > 0
    · rw [if_pos c4] at H
      have c4b0 : decide (0 < a0) = true := decide_eq_true c4
      clear c4
      (first | rw [c4b0] | (simp only [i64_w, i32_w]; rw [c4b0]) | skip)
      by_cases c5 : a1 > 0
      · rw [if_pos c5] at H
        have c5b0 : decide (0 < a1) = true := decide_eq_true c5
        clear c5
        have H' := Aside0.mk H
        clear H
        go_wp2
        go_meet
        case rel => exact ⟨_, (decide ((wrap64 (a0 + a1)) ≤ 0)), (by first | rfl | (simp; done) | (simp [*]; done)), H', ⟨by first | omega | exact Nat.le_refl _⟩, by repeat (first | exact Drawn0.refl _ | apply Drawn0.step)⟩
      · rw [if_neg c5] at H
        have c5b0 : decide (0 < a1) = false := decide_eq_false c5
        clear c5
        have H' := Aside0.mk H
        clear H
        go_wp2
        go_meet
        case rel => exact ⟨_, (false), (by first | rfl | (simp; done) | (simp [*]; done)), H', ⟨by first | omega | exact Nat.le_refl _⟩, by repeat (first | exact Drawn0.refl _ | apply Drawn0.step)⟩
    · rw [if_neg c4] at H
      have c4b0 : decide (0 < a0) = false := decide_eq_false c4
      clear c4
      (first | rw [c4b0] | (simp only [i64_w, i32_w]; rw [c4b0]) | skip)
      have H' := Aside0.mk H
      clear H
      go_wp2
      go_meet
      case rel => exact ⟨_, (false), (by first | rfl | (simp; done) | (simp [*]; done)), H', ⟨by first | omega | exact Nat.le_refl _⟩, by repeat (first | exact Drawn0.refl _ | apply Drawn0.step)⟩
  case rest =>
    clear HC3
    try clear c1
    try clear p2
    try clear c4
    try clear c4b0
    try clear c5
    try clear c5b0
    obtain ⟨kq, x10_2, rfl, HA, HJ2, ⟨mc2, rfl⟩⟩ := hcut
    cases kq with
    | zero => exact absurd HA.out (by simp [fix_Add.j0])
    | succ kj2 =>
      have H := HA.out
      clear HA
      simp only [fix_Add.j0] at H
      by_cases c6 : x10_2 = true
      · subst c6
        have H1 : (some (9223372036854775807, true)) = some (r1, r2) := by rw [if_pos rfl] at H; exact H
        clear H
        have H := H1
        clear H1
        simp only [Option.some.injEq, Prod.mk.injEq] at H
        obtain ⟨rfl, rfl⟩ := H
        go_wp2
        go_ret2
        exact ⟨by first | rfl | (simp; done) | (simp [*]; done), by repeat (first | exact Drawn0.refl _ | apply Drawn0.step)⟩
      · replace c6 := Bool.eq_false_iff.mpr c6
        subst c6
        have H1 : (if a0 < 0 then (if a1 < 0 then (if (wrap64 (a0 + a1)) ≥ 0 then (some ((-9223372036854775808), true)) else (some ((wrap64 (a0 + a1)), false))) else (some ((wrap64 (a0 + a1)), false))) else (some ((wrap64 (a0 + a1)), false))) = some (r1, r2) := by rw [if_neg (show ¬ (false = true) by decide)] at H; exact H
        clear H
        have H := H1
        clear H1
        by_cases c7 : a0 < 0
        · rw [if_pos c7] at H
          have c7b0 : decide (a0 < 0) = true := decide_eq_true c7
          clear c7
          by_cases c8 : a1 < 0
          · rw [if_pos c8] at H
            have c8b0 : decide (a1 < 0) = true := decide_eq_true c8
            clear c8
            by_cases c9 : (wrap64 (a0 + a1)) ≥ 0
            · rw [if_pos c9] at H
              have c9b0 : decide (0 ≤ (wrap64 (a0 + a1))) = true := decide_eq_true c9
              clear c9
              simp only [Option.some.injEq, Prod.mk.injEq] at H
              obtain ⟨rfl, rfl⟩ := H
              go_wp2
              go_ret2
              exact ⟨by first | rfl | (simp; done) | (simp [*]; done), by repeat (first | exact Drawn0.refl _ | apply Drawn0.step)⟩
            · rw [if_neg c9] at H
              have c9b0 : decide (0 ≤ (wrap64 (a0 + a1))) = false := decide_eq_false c9
              clear c9
              simp only [Option.some.injEq, Prod.mk.injEq] at H
              obtain ⟨rfl, rfl⟩ := H
              go_wp2
              go_ret2
              exact ⟨by first | rfl | (simp; done) | (simp [*]; done), by repeat (first | exact Drawn0.refl _ | apply Drawn0.step)⟩
          · rw [if_neg c8] at H
            have c8b0 : decide (a1 < 0) = false := decide_eq_false c8
            clear c8
            simp only [Option.some.injEq, Prod.mk.injEq] at H
            obtain ⟨rfl, rfl⟩ := H
            go_wp2
            go_ret2
            exact ⟨by first | rfl | (simp; done) | (simp [*]; done), by repeat (first | exact Drawn0.refl _ | apply Drawn0.step)⟩
        · rw [if_neg c7] at H
          have c7b0 : decide (a0 < 0) = false := decide_eq_false c7
          clear c7
          simp only [Option.some.injEq, Prod.mk.injEq] at H
          obtain ⟨rfl, rfl⟩ := H
          go_wp2
          go_ret2
          exact ⟨by first | rfl | (simp; done) | (simp [*]; done), by repeat (first | exact Drawn0.refl _ | apply Drawn0.step)⟩

/-! ### odometerref01_Add: function 11 -/
def odometerref01_Add.j0 : Nat → Int → Int → Bool → Option (Int × Bool)
  | 0, _, _, _ => none
  | k + 1, x0, x1, x13 => if x13 = true then (some (9223372036854775807, true)) else (if x1 < 0 then (if x0 < (wrap64 ((-9223372036854775808) - x1)) then (some ((-9223372036854775808), true)) else (some (wrap64 (x0 + x1), false))) else (some (wrap64 (x0 + x1), false)))
def odometerref01_Add.f (k : Nat) (a0 : Int) (a1 : Int) : Option (Int × Bool) := if a1 > 0 then (odometerref01_Add.j0 k a0 a1 (decide (a0 > (wrap64 (9223372036854775807 - a1))))) else (odometerref01_Add.j0 k a0 a1 false)
theorem odometerref01_Add.mono_l : ∀ k, (∀ y0 y1 y2, LeO (odometerref01_Add.j0 k y0 y1 y2) (odometerref01_Add.j0 (k + 1) y0 y1 y2))
  | 0 => fun _ _ _ r h => by simp [odometerref01_Add.j0] at h
  | k + 1 => by
    have ih0 := odometerref01_Add.mono_l k
    · intro y0 y1 y2
      unfold odometerref01_Add.j0
      repeat' first
      | (with_reducible exact ih0 _ _ _)
      | (with_reducible exact LeO.refl _)
      | (with_reducible exact LeO.none _)
      | (with_reducible refine LeO.ite ?_ ?_)
      | (with_reducible refine LeO.bind ?_ (fun _ => ?_))
      | exact ih0 _ _ _
      | exact LeO.none _
      | refine LeO.ite ?_ ?_
      | refine LeO.bind ?_ (fun _ => ?_)
theorem odometerref01_Add.mono : ∀ a0 a1 k, LeO (odometerref01_Add.f k a0 a1) (odometerref01_Add.f (k + 1) a0 a1) := by
  intro a0 a1 k
  have ih0 := odometerref01_Add.mono_l k
  unfold odometerref01_Add.f
  repeat' first
      | (with_reducible exact ih0 _ _ _)
      | (with_reducible exact LeO.refl _)
      | (with_reducible exact LeO.none _)
      | (with_reducible refine LeO.ite ?_ ?_)
      | (with_reducible refine LeO.bind ?_ (fun _ => ?_))
      | exact ih0 _ _ _
      | exact LeO.none _
      | refine LeO.ite ?_ ?_
      | refine LeO.bind ?_ (fun _ => ?_)
set_option maxHeartbeats 8000000 in
set_option maxRecDepth 100000 in
theorem odometerref01_Add.calls (k : Nat) (a0 : Int) (a1 : Int) (r1 : Int) (r2 : Bool) (w : World) (h : odometerref01_Add.f k a0 a1 = some (r1, r2)) :
    Calls Tryd.prog 11 #[.int .i64 a0, .int .i64 a1] w fun e w' => e = .returned (.tuple #[.int .i64 r1, .bool r2]) ∧ Drawn0 w w' := by
  have H : (if a1 > 0 then (odometerref01_Add.j0 k a0 a1 (decide (a0 > (wrap64 (9223372036854775807 - a1))))) else (odometerref01_Add.j0 k a0 a1 false)) = some (r1, r2) := h
  clear h
  have HC3 := Aside0.mk H
  clear H
  go_enter Tryd.func11, Tryd.ntmps11
  go_upto_region 1 with (fail)
  go_cut [13] (fun v13 wc => ∃ (kq : Nat) (x13_2 : Bool), v13 = .bool x13_2 ∧ Aside0 (odometerref01_Add.j0 kq a0 a1 x13_2 = some (r1, r2)) ∧ Aside0 (kq ≤ k) ∧ Drawn0 w wc)
  case first =>
    have H := HC3.out
    clear HC3
    by_cases c4 : a1 > 0
    · rw [if_pos c4] at H
      have c4b0 : decide (0 < a1) = true := decide_eq_true c4
      clear c4
      (first | rw [c4b0] | (simp only [i64_w, i32_w]; rw [c4b0]) | skip)
      have H' := Aside0.mk H
      clear H
      go_wp2
      go_meet
      case rel => exact ⟨_, (decide (a0 > (wrap64 (9223372036854775807 - a1)))), (by first | rfl | (simp; done) | (simp [*]; done)), H', ⟨by first | omega | exact Nat.le_refl _⟩, by repeat (first | exact Drawn0.refl _ | apply Drawn0.step)⟩
    · rw [if_neg c4] at H
      have c4b0 : decide (0 < a1) = false := decide_eq_false c4
      clear c4
      (first | rw [c4b0] | (simp only [i64_w, i32_w]; rw [c4b0]) | skip)
      have H' := Aside0.mk H
      clear H
      go_wp2
      go_meet
      case rel => exact ⟨_, (false), (by first | rfl | (simp; done) | (simp [*]; done)), H', ⟨by first | omega | exact Nat.le_refl _⟩, by repeat (first | exact Drawn0.refl _ | apply Drawn0.step)⟩
  case rest =>
    clear HC3
    try clear c1
    try clear p2
    try clear c4
    try clear c4b0
    obtain ⟨kq, x13_2, rfl, HA, HJ2, ⟨mc2, rfl⟩⟩ := hcut
    cases kq with
    | zero => exact absurd HA.out (by simp [odometerref01_Add.j0])
    | succ kj2 =>
      have H := HA.out
      clear HA
      simp only [odometerref01_Add.j0] at H
      by_cases c5 : x13_2 = true
      · subst c5
        have H1 : (some (9223372036854775807, true)) = some (r1, r2) := by rw [if_pos rfl] at H; exact H
        clear H
        have H := H1
        clear H1
        simp only [Option.some.injEq, Prod.mk.injEq] at H
        obtain ⟨rfl, rfl⟩ := H
        go_wp2
        go_ret2
        exact ⟨by first | rfl | (simp; done) | (simp [*]; done), by repeat (first | exact Drawn0.refl _ | apply Drawn0.step)⟩
      · replace c5 := Bool.eq_false_iff.mpr c5
        subst c5
        have H1 : (if a1 < 0 then (if a0 < (wrap64 ((-9223372036854775808) - a1)) then (some ((-9223372036854775808), true)) else (some (wrap64 (a0 + a1), false))) else (some (wrap64 (a0 + a1), false))) = some (r1, r2) := by rw [if_neg (show ¬ (false = true) by decide)] at H; exact H
        clear H
        have H := H1
        clear H1
        by_cases c6 : a1 < 0
        · rw [if_pos c6] at H
          have c6b0 : decide (a1 < 0) = true := decide_eq_true c6
          clear c6
          by_cases c7 : a0 < (wrap64 ((-9223372036854775808) - a1))
          · rw [if_pos c7] at H
            have c7b0 : decide (a0 < (wrap64 ((-9223372036854775808) - a1))) = true := decide_eq_true c7
            clear c7
            simp only [Option.some.injEq, Prod.mk.injEq] at H
            obtain ⟨rfl, rfl⟩ := H
            go_wp2
            go_ret2
            exact ⟨by first | rfl | (simp; done) | (simp [*]; done), by repeat (first | exact Drawn0.refl _ | apply Drawn0.step)⟩
          · rw [if_neg c7] at H
            have c7b0 : decide (a0 < (wrap64 ((-9223372036854775808) - a1))) = false := decide_eq_false c7
            clear c7
            simp only [Option.some.injEq, Prod.mk.injEq] at H
            obtain ⟨rfl, rfl⟩ := H
            go_wp2
            go_ret2
            exact ⟨by first | rfl | (simp; done) | (simp [*]; done), by repeat (first | exact Drawn0.refl _ | apply Drawn0.step)⟩
        · rw [if_neg c6] at H
          have c6b0 : decide (a1 < 0) = false := decide_eq_false c6
          clear c6
          simp only [Option.some.injEq, Prod.mk.injEq] at H
          obtain ⟨rfl, rfl⟩ := H
          go_wp2
          go_ret2
          exact ⟨by first | rfl | (simp; done) | (simp [*]; done), by repeat (first | exact Drawn0.refl _ | apply Drawn0.step)⟩

/-! ### fix_Sub: function 12 -/
def fix_Sub.j0 : Nat → Int → Int → Int → Bool → Option (Int × Bool)
  | 0, _, _, _, _ => none
  | k + 1, x0, x1, x6, x10 => if x10 = true then (some (9223372036854775807, true)) else (if x0 < 0 then (if x1 > 0 then (if x6 ≥ 0 then (some ((-9223372036854775808), true)) else (some (x6, false))) else (some (x6, false))) else (some (x6, false)))
def fix_Sub.f (k : Nat) (a0 : Int) (a1 : Int) : Option (Int × Bool) := if a0 ≥ 0 then (if a1 < 0 then (fix_Sub.j0 k a0 a1 (wrap64 (a0 - a1)) (decide ((wrap64 (a0 - a1)) < 0))) else (fix_Sub.j0 k a0 a1 (wrap64 (a0 - a1)) false)) else (fix_Sub.j0 k a0 a1 (wrap64 (a0 - a1)) false)
theorem fix_Sub.mono_l : ∀ k, (∀ y0 y1 y2 y3, LeO (fix_Sub.j0 k y0 y1 y2 y3) (fix_Sub.j0 (k + 1) y0 y1 y2 y3))
  | 0 => fun _ _ _ _ r h => by simp [fix_Sub.j0] at h
  | k + 1 => by
    have ih0 := fix_Sub.mono_l k
    · intro y0 y1 y2 y3
      unfold fix_Sub.j0
      repeat' first
      | (with_reducible exact ih0 _ _ _ _)
      | (with_reducible exact LeO.refl _)
      | (with_reducible exact LeO.none _)
      | (with_reducible refine LeO.ite ?_ ?_)
      | (with_reducible refine LeO.bind ?_ (fun _ => ?_))
      | exact ih0 _ _ _ _
      | exact LeO.none _
      | refine LeO.ite ?_ ?_
      | refine LeO.bind ?_ (fun _ => ?_)
theorem fix_Sub.mono : ∀ a0 a1 k, LeO (fix_Sub.f k a0 a1) (fix_Sub.f (k + 1) a0 a1) := by
  intro a0 a1 k
  have ih0 := fix_Sub.mono_l k
  unfold fix_Sub.f
  repeat' first
      | (with_reducible exact ih0 _ _ _ _)
      | (with_reducible exact LeO.refl _)
      | (with_reducible exact LeO.none _)
      | (with_reducible refine LeO.ite ?_ ?_)
      | (with_reducible refine LeO.bind ?_ (fun _ => ?_))
      | exact ih0 _ _ _ _
      | exact LeO.none _
      | refine LeO.ite ?_ ?_
      | refine LeO.bind ?_ (fun _ => ?_)
set_option maxHeartbeats 8000000 in
set_option maxRecDepth 100000 in
theorem fix_Sub.calls (k : Nat) (a0 : Int) (a1 : Int) (r1 : Int) (r2 : Bool) (w : World) (h : fix_Sub.f k a0 a1 = some (r1, r2)) :
    Calls Tryd.prog 12 #[.int .i64 a0, .int .i64 a1] w fun e w' => e = .returned (.tuple #[.int .i64 r1, .bool r2]) ∧ Drawn0 w w' := by
  have H : (if a0 ≥ 0 then (if a1 < 0 then (fix_Sub.j0 k a0 a1 (wrap64 (a0 - a1)) (decide ((wrap64 (a0 - a1)) < 0))) else (fix_Sub.j0 k a0 a1 (wrap64 (a0 - a1)) false)) else (fix_Sub.j0 k a0 a1 (wrap64 (a0 - a1)) false)) = some (r1, r2) := h
  clear h
  have HC3 := Aside0.mk H
  clear H
  go_enter Tryd.func12, Tryd.ntmps12
  go_upto_region 2 with (fail)
  go_cut [10] (fun v10 wc => ∃ (kq : Nat) (x10_2 : Bool), v10 = .bool x10_2 ∧ Aside0 (fix_Sub.j0 kq a0 a1 (wrap64 (a0 - a1)) x10_2 = some (r1, r2)) ∧ Aside0 (kq ≤ k) ∧ Drawn0 w wc)
  case first =>
    have H := HC3.out
    clear HC3
    by_cases c4 : a0 ≥ 0
    · rw [if_pos c4] at H
      have c4b0 : decide (0 ≤ a0) = true := decide_eq_true c4
      clear c4
      (first | rw [c4b0] | (simp only [i64_w, i32_w]; rw [c4b0]) | skip)
      by_cases c5 : a1 < 0
      · rw [if_pos c5] at H
        have c5b0 : decide (a1 < 0) = true := decide_eq_true c5
        clear c5
        have H' := Aside0.mk H
        clear H
        go_wp2
        go_meet
        case rel => exact ⟨_, (decide ((wrap64 (a0 - a1)) < 0)), (by first | rfl | (simp; done) | (simp [*]; done)), H', ⟨by first | omega | exact Nat.le_refl _⟩, by repeat (first | exact Drawn0.refl _ | apply Drawn0.step)⟩
      · rw [if_neg c5] at H
        have c5b0 : decide (a1 < 0) = false := decide_eq_false c5
        clear c5
        have H' := Aside0.mk H
        clear H
        go_wp2
        go_meet
        case rel => exact ⟨_, (false), (by first | rfl | (simp; done) | (simp [*]; done)), H', ⟨by first | omega | exact Nat.le_refl _⟩, by repeat (first | exact Drawn0.refl _ | apply Drawn0.step)⟩
    · rw [if_neg c4] at H
      have c4b0 : decide (0 ≤ a0) = false := decide_eq_false c4
      clear c4
      (first | rw [c4b0] | (simp only [i64_w, i32_w]; rw [c4b0]) | skip)
      have H' := Aside0.mk H
      clear H
      go_wp2
      go_meet
      case rel => exact ⟨_, (false), (by first | rfl | (simp; done) | (simp [*]; done)), H', ⟨by first | omega | exact Nat.le_refl _⟩, by repeat (first | exact Drawn0.refl _ | apply Drawn0.step)⟩
  case rest =>
    clear HC3
    try clear c1
    try clear p2
    try clear c4
    try clear c4b0
    try clear c5
    try clear c5b0
    obtain ⟨kq, x10_2, rfl, HA, HJ2, ⟨mc2, rfl⟩⟩ := hcut
    cases kq with
    | zero => exact absurd HA.out (by simp [fix_Sub.j0])
    | succ kj2 =>
      have H := HA.out
      clear HA
      simp only [fix_Sub.j0] at H
      by_cases c6 : x10_2 = true
      · subst c6
        have H1 : (some (9223372036854775807, true)) = some (r1, r2) := by rw [if_pos rfl] at H; exact H
        clear H
        have H := H1
        clear H1
        simp only [Option.some.injEq, Prod.mk.injEq] at H
        obtain ⟨rfl, rfl⟩ := H
        go_wp2
        go_ret2
        exact ⟨by first | rfl | (simp; done) | (simp [*]; done), by repeat (first | exact Drawn0.refl _ | apply Drawn0.step)⟩
      · replace c6 := Bool.eq_false_iff.mpr c6
        subst c6
        have H1 : (if a0 < 0 then (if a1 > 0 then (if (wrap64 (a0 - a1)) ≥ 0 then (some ((-9223372036854775808), true)) else (some ((wrap64 (a0 - a1)), false))) else (some ((wrap64 (a0 - a1)), false))) else (some ((wrap64 (a0 - a1)), false))) = some (r1, r2) := by rw [if_neg (show ¬ (false = true) by decide)] at H; exact H
        clear H
        have H := H1
        clear H1
        by_cases c7 : a0 < 0
        · rw [if_pos c7] at H
          have c7b0 : decide (a0 < 0) = true := decide_eq_true c7
          clear c7
          by_cases c8 : a1 > 0
          · rw [if_pos c8] at H
            have c8b0 : decide (0 < a1) = true := decide_eq_true c8
            clear c8
            by_cases c9 : (wrap64 (a0 - a1)) ≥ 0
            · rw [if_pos c9] at H
              have c9b0 : decide (0 ≤ (wrap64 (a0 - a1))) = true := decide_eq_true c9
              clear c9
              simp only [Option.some.injEq, Prod.mk.injEq] at H
              obtain ⟨rfl, rfl⟩ := H
              go_wp2
              go_ret2
              exact ⟨by first | rfl | (simp; done) | (simp [*]; done), by repeat (first | exact Drawn0.refl _ | apply Drawn0.step)⟩
            · rw [if_neg c9] at H
              have c9b0 : decide (0 ≤ (wrap64 (a0 - a1))) = false := decide_eq_false c9
              clear c9
              simp only [Option.some.injEq, Prod.mk.injEq] at H
              obtain ⟨rfl, rfl⟩ := H
              go_wp2
              go_ret2
              exact ⟨by first | rfl | (simp; done) | (simp [*]; done), by repeat (first | exact Drawn0.refl _ | apply Drawn0.step)⟩
          · rw [if_neg c8] at H
            have c8b0 : decide (0 < a1) = false := decide_eq_false c8
            clear c8
            simp only [Option.some.injEq, Prod.mk.injEq] at H
            obtain ⟨rfl, rfl⟩ := H
            go_wp2
            go_ret2
            exact ⟨by first | rfl | (simp; done) | (simp [*]; done), by repeat (first | exact Drawn0.refl _ | apply Drawn0.step)⟩
        · rw [if_neg c7] at H
          have c7b0 : decide (a0 < 0) = false := decide_eq_false c7
          clear c7
          simp only [Option.some.injEq, Prod.mk.injEq] at H
          obtain ⟨rfl, rfl⟩ := H
          go_wp2
          go_ret2
          exact ⟨by first | rfl | (simp; done) | (simp [*]; done), by repeat (first | exact Drawn0.refl _ | apply Drawn0.step)⟩

end Go.Proofs.YtdgmgbcjlmighaaDoor.PAdd
