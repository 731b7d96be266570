/- Pruned. -/
import Derived.Test.YtcikjeiebpmmcaaGreatQyPMchx0
import Derived.Test.YtcikjeiebpmmcaaGreatQyPMchx6
namespace Go.Proofs.YtcikjeiebpmmcaaGreat.PMch
open Go.RowKit Go.Proofs.YtcikjeiebpmmcaaGreatW.PrintWords Go.Proofs.YtcikjeiebpmmcaaGreatW.PrintLast Go.Proofs.YtcikjeiebpmmcaaGreatW.PrintMore
attribute [local go_sem] max2_int max_two
set_option linter.unusedVariables false
set_option linter.unusedSimpArgs false
def errors_Is.f (a0 : Option Int) (a1 : Option Int) : Option (Bool) := if a1 = some 5 ∧ a0 ≠ some 5 then some a0.isSome else none
theorem errors_Is.calls (a0 : Option Int) (a1 : Option Int) (r : Bool) (w : World) (h : errors_Is.f a0 a1 = some r) :
 Calls Tryz.prog 65 #[errW a0, errW a1] w fun e w' => e = .returned (.bool r) ∧ Below w.heap.size w w' := by
 unfold errors_Is.f at h
 split at h
 case isTrue hs =>
  obtain ⟨rfl, h5⟩ := hs
  cases h
  cases a0 with
  | none => exact is_nil w
  | some c =>
   have hc : c ≠ 5 := fun e => h5 (by rw [e])
   have he : ∃ why, errW (some c) = .iface 133 (.agg #[.string why]) := ⟨_, by simp only [errW, if_neg hc]; rfl⟩
   obtain ⟨why, he⟩ := he
   rw [he]
   exact is_refused why w
 case isFalse => cases h
def label_Escape.f (a0 : ByteArray) : Option (ByteArray) := if a0.size ≤ 1099511627776 then some (⟨(a0.data.toList.flatMap escByte).toArray⟩ : ByteArray) else none
theorem label_Escape.calls (a0 : ByteArray) (r : ByteArray) (w : World) (h : label_Escape.f a0 = some r) :
 Calls Tryz.prog 66 #[.string a0] w fun e w' => e = .returned (.string r) ∧ Below w.heap.size w w' := by
 unfold label_Escape.f at h
 split at h
 case isTrue hs =>
  cases h
  exact escape_calls a0 w hs
 case isFalse => cases h
def strings_Join.f (l0 : List ByteArray) (a1 : ByteArray) : Option (ByteArray) :=
 if l0.length ≤ 140737488355328 ∧ (Lib.join (l0.map (·.data.toList)) a1.data.toList).length ≤ 140737488355328 then some ⟨(Lib.join (l0.map (·.data.toList)) a1.data.toList).toArray⟩ else none
theorem strings_Join.calls (A0 : Option Addr) (c0 : Nat) (l0 : List ByteArray) (a1 : ByteArray) (r : ByteArray) (w : World) (hr0 : Kd.C Kd.string w A0 l0.length l0) (hc0 : l0.length ≤ c0) (h : strings_Join.f l0 a1 = some r) :
 Calls Tryz.prog 67 #[.slice A0 l0.length c0, .string a1] w fun e w' => e = .returned (.string r) ∧ Below w.heap.size w w' := by
 unfold strings_Join.f at h
 split at h
 case isTrue hs =>
  cases h
  exact join_calls A0 c0 l0 a1 w hr0 hc0 hs.1 hs.2
 case isFalse => cases h
def label_Name.l0 : Nat → ByteArray → List ByteArray → List (S96) → Int → Int → Option (ByteArray × Int)
 | 0, _, _, _, _, _ => none
 | k + 1, x0, x8, x24, x25, x26 => if x26 < x25 then (if 0 ≤ x26 then (if x26 < (x24.length : Int) then (if ((rd_T96 x24 x26).f0).size + 2 ≤ 9223372036854775807 then ((label_Escape.f ((rd_T96 x24 x26).f1)).bind fun t149 => (if (((rd_T96 x24 x26).f0) ++ (⟨#[61, 34]⟩ : ByteArray)).size + t149.size ≤ 9223372036854775807 then (if ((((rd_T96 x24 x26).f0) ++ (⟨#[61, 34]⟩ : ByteArray)) ++ t149).size + 1 ≤ 9223372036854775807 then (if x8.length < 8796093022208 then (label_Name.l0 k x0 (x8 ++ [((((rd_T96 x24 x26).f0) ++ (⟨#[61, 34]⟩ : ByteArray)) ++ t149) ++ (⟨#[34]⟩ : ByteArray)]) x24 x25 (wrap64 (x26 + 1))) else (none)) else (none)) else (none))) else (none)) else (none)) else (none)) else (if x0.size + 1 ≤ 9223372036854775807 then ((strings_Join.f x8 (⟨#[44]⟩ : ByteArray)).bind fun t153 => (if (x0 ++ (⟨#[123]⟩ : ByteArray)).size + t153.size ≤ 9223372036854775807 then (if ((x0 ++ (⟨#[123]⟩ : ByteArray)) ++ t153).size + 1 ≤ 9223372036854775807 then (some (((x0 ++ (⟨#[123]⟩ : ByteArray)) ++ t153) ++ (⟨#[125]⟩ : ByteArray), 0)) else (none)) else (none))) else (none))
def label_Name.f (k : Nat) (a0 : ByteArray) (l1 : List (S96)) : Option (ByteArray × Int) := (label_series.f a0 l1).bind fun bt142 => ((errors_Is.f bt142.2 (some 5)).bind fun t146 => (if t146 = true then (some ((⟨#[]⟩ : ByteArray), 5)) else (if (bt142.1.length : Int) = 0 then (some (a0, 0)) else (label_Name.l0 k a0 ([] : List ByteArray) bt142.1 (bt142.1.length : Int) 0))))
theorem label_Name.mono_l : ∀ k, (∀ y0 y1 y2 y3 y4, LeO (label_Name.l0 k y0 y1 y2 y3 y4) (label_Name.l0 (k + 1) y0 y1 y2 y3 y4))
 | 0 => fun _ _ _ _ _ r h => by simp [label_Name.l0] at h
 | k + 1 => by
  have ih0 := label_Name.mono_l k
  ·intro y0 y1 y2 y3 y4
   unfold label_Name.l0
   repeat' first
   | (with_reducible first | exact ih0 _ _ _ _ _ | exact LeO.refl _ | exact LeO.none _ | refine LeO.ite ?_ ?_ | refine LeO.bind ?_ (fun _ => ?_))
theorem label_Name.mono : ∀ a0 a1 k, LeO (label_Name.f k a0 a1) (label_Name.f (k + 1) a0 a1) := by
 intro a0 a1 k
 have ih0 := label_Name.mono_l k
 unfold label_Name.f
 repeat' first
  | (with_reducible first | exact ih0 _ _ _ _ _ | exact LeO.refl _ | exact LeO.none _ | refine LeO.ite ?_ ?_ | refine LeO.bind ?_ (fun _ => ?_))
def label_Name.T10 : Bool × List (List Nat × List Nat) := (true, [([], []), ([], []), ([1], [1]), ([2], [2]), ([], []), ([4], [4]), ([5], [5]), ([3, 6], [3, 6]), ([7], [7]), ([8], [8]), ([0, 9, 6], [0, 9]), ([10, 10, 0, 1, 2, 3, 4, 5, 6, 7, 8, 9, 10], [0, 10])])
def label_Name.B10 : List Nat := [0, 0, 2, 6, 0, 16, 48, 126, 254, 510, 1023, 2047]
theorem label_Name.tab10 : rtab .any (opsOf Tryz.f39 10) = label_Name.T10 := by kernel_rfl
theorem label_Name.bits10 : waitsOk label_Name.T10.2 label_Name.B10 = true := by kernel_rfl
set_option maxHeartbeats 8000000 in
set_option maxRecDepth 100000 in
theorem label_Name.calls (k : Nat) (a0 : ByteArray) (A1 : Option Addr) (c1 : Nat) (l1 : List (S96)) (r1 : ByteArray) (r2 : Int) (w : World) (hr1 : Kd.C k96 w A1 l1.length l1) (hc1 : l1.length ≤ c1) (h : label_Name.f k a0 l1 = some (r1, r2)) :
 Calls Tryz.prog 39 #[.string a0, .slice A1 l1.length c1] w fun e w' => e = .returned (.tuple #[.string r1, .int .i64 r2]) ∧ Below w.heap.size w w' := by
 have hu96 := Tryz.underlying96
 have hu76 := Tryz.underlying76
 have hu34 := Tryz.underlying34
 have HR1 := A_ hr1
 have HC1 := A_ hc1
 clear hr1 hc1
 have HB := A_ (Below.refl w.heap.size w)
 have H : ((label_series.f a0 l1).bind fun bt142 => ((errors_Is.f bt142.2 (some 5)).bind fun t146 => (if t146 = true then (some ((⟨#[]⟩ : ByteArray), 5)) else (if (bt142.1.length : Int) = 0 then (some (a0, 0)) else (label_Name.l0 k a0 ([] : List ByteArray) bt142.1 (bt142.1.length : Int) 0))))) = some (r1, r2) := h
 clear h
 replace H := Option.bind_eq_some_iff.mp H
 obtain ⟨⟨t142, t143⟩, A30, H⟩ := H
 replace H : ((errors_Is.f t143 (some 5)).bind fun t146 => (if t146 = true then (some ((⟨#[]⟩ : ByteArray), 5)) else (if (t142.length : Int) = 0 then (some (a0, 0)) else (label_Name.l0 k a0 ([] : List ByteArray) t142 (t142.length : Int) 0)))) = some (r1, r2) := H
 have A3 := A_ A30
 clear A30
 replace H := Option.bind_eq_some_iff.mp H
 obtain ⟨t146, A40, H⟩ := H
 replace H : (if t146 = true then (some ((⟨#[]⟩ : ByteArray), 5)) else (if (t142.length : Int) = 0 then (some (a0, 0)) else (label_Name.l0 k a0 ([] : List ByteArray) t142 (t142.length : Int) 0))) = some (r1, r2) := H
 have A4 := A_ A40
 clear A40
 by_cases c5 : t146 = true
 ·subst c5
  have H1 : (some ((⟨#[]⟩ : ByteArray), 5)) = some (r1, r2) := by rw [if_pos rfl] at H; exact H
  clear H
  have H := H1
  clear H1
  simp only [Option.some.injEq, Prod.mk.injEq] at H
  obtain ⟨rfl, rfl⟩ := H
  go_enter Tryz.func39, Tryz.ntmps39
  go_wp2_with (first | ((with_reducible refine gate_callee (f := 64) rfl ?_); refine goesL_ (some 14) rfl rfl Tryz.func64 (by kernel_rfl) rfl #[.string a0, .slice A1 l1.length c1] rfl mp_ ?_; (with_reducible refine (label_series.calls a0 _ _ l1 t142 t143 _ ?side1 ?side2 A3.out).mono ?_); (case side1 => repeat (exact HR1.out)); (case side2 => exact HC1.out); rintro e w6 ⟨v144, rfl, ho0, hb⟩; refine ⟨_, rfl, ?_⟩; have n0_ := A_ (Kd.R_lower ho0 (below_size HB.out)); have n1_ := A_ (below_step HB.out hb); clear HB; have HO145 := n0_; have HB := n1_; clear n0_ n1_; (try clear hb); (try clear hb2); (try clear hk); (try clear hi); (try clear ho0); (try simp only [errW_none, errW_some]); have CA4 := fun W => errors_Is.calls t143 (some 5) true W A4.out; try simp only [errW_none, errW_some] at CA4) | (go_at_call 65; (with_reducible refine (CA4 _).mono ?_); rintro e w7 ⟨rfl, hb⟩; have n0_ := A_ (Kd.R_below (rr_ HO145.out) hb); have n1_ := A_ (below_step HB.out hb); clear HO145; clear HB; have HO145 := n0_; have HB := n1_; clear n0_ n1_; (try clear hb); (try clear hb2); (try clear hk); (try clear hi)))
  go_ret2
  exact ⟨by rfl, HB.out⟩
 replace c5 := Bool.eq_false_iff.mpr c5
 subst c5
 have H1 : (if (t142.length : Int) = 0 then (some (a0, 0)) else (label_Name.l0 k a0 ([] : List ByteArray) t142 (t142.length : Int) 0)) = some (r1, r2) := by rw [if_neg (show ¬ (false = true) by decide)] at H; exact H
 clear H
 have H := H1
 clear H1
 by_cases c8 : (t142.length : Int) = 0
 ·rw [if_pos c8] at H
  have c8b0 : ((t142.length : Int) == 0) = true := beq_iff_eq.mpr c8
  have c8b1 : ((t142.length : Int) != 0) = false := bne_eq_false_iff_eq.mpr c8
  clear c8
  simp only [Option.some.injEq, Prod.mk.injEq] at H
  obtain ⟨rfl, rfl⟩ := H
  go_enter Tryz.func39, Tryz.ntmps39
  go_wp2_with (first | ((with_reducible refine gate_callee (f := 64) rfl ?_); refine goesL_ (some 14) rfl rfl Tryz.func64 (by kernel_rfl) rfl #[.string a0, .slice A1 l1.length c1] rfl mp_ ?_; (with_reducible refine (label_series.calls a0 _ _ l1 t142 t143 _ ?side1 ?side2 A3.out).mono ?_); (case side1 => repeat (exact HR1.out)); (case side2 => exact HC1.out); rintro e w9 ⟨v144, rfl, ho0, hb⟩; refine ⟨_, rfl, ?_⟩; have n0_ := A_ (Kd.R_lower ho0 (below_size HB.out)); have n1_ := A_ (below_step HB.out hb); clear HB; have HO145 := n0_; have HB := n1_; clear n0_ n1_; (try clear hb); (try clear hb2); (try clear hk); (try clear hi); (try clear ho0); (try simp only [errW_none, errW_some]); have CA4 := fun W => errors_Is.calls t143 (some 5) false W A4.out; try simp only [errW_none, errW_some] at CA4) | (go_at_call 65; (with_reducible refine (CA4 _).mono ?_); rintro e w10 ⟨rfl, hb⟩; have n0_ := A_ (Kd.R_below (rr_ HO145.out) hb); have n1_ := A_ (below_step HB.out hb); clear HO145; clear HB; have HO145 := n0_; have HB := n1_; clear n0_ n1_; (try clear hb); (try clear hb2); (try clear hk); (try clear hi); obtain ⟨Ao11, co11, eo11⟩ := Kd.R_slice HO145.out; subst eo11))
  go_ret2
  exact ⟨by rfl, HB.out⟩
 rw [if_neg c8] at H
 have c8b0 : ((t142.length : Int) == 0) = false := beq_eq_false_iff_ne.mpr c8
 have c8b1 : ((t142.length : Int) != 0) = true := bne_iff_ne.mpr c8
 have c8b2 : ¬ (t142 = []) := fun h_ => c8 (by rw [h_]; rfl)
 have H' := A_ H
 clear H
 go_enter Tryz.func39, Tryz.ntmps39
 go_wp2_with (first | ((with_reducible refine gate_callee (f := 64) rfl ?_); refine goesL_ (some 14) rfl rfl Tryz.func64 (by kernel_rfl) rfl #[.string a0, .slice A1 l1.length c1] rfl mp_ ?_; (with_reducible refine (label_series.calls a0 _ _ l1 t142 t143 _ ?side1 ?side2 A3.out).mono ?_); (case side1 => repeat (exact HR1.out)); (case side2 => exact HC1.out); rintro e w12 ⟨v144, rfl, ho0, hb⟩; refine ⟨_, rfl, ?_⟩; have n0_ := A_ (Kd.R_lower ho0 (below_size HB.out)); have n1_ := A_ (below_step HB.out hb); clear HB; have HO145 := n0_; have HB := n1_; clear n0_ n1_; (try clear hb); (try clear hb2); (try clear hk); (try clear hi); (try clear ho0); (try simp only [errW_none, errW_some]); have CA4 := fun W => errors_Is.calls t143 (some 5) false W A4.out; try simp only [errW_none, errW_some] at CA4) | (go_at_call 65; (with_reducible refine (CA4 _).mono ?_); rintro e w13 ⟨rfl, hb⟩; have n0_ := A_ (Kd.R_below (rr_ HO145.out) hb); have n1_ := A_ (below_step HB.out hb); clear HO145; clear HB; have HO145 := n0_; have HB := n1_; clear n0_ n1_; (try clear hb); (try clear hb2); (try clear hk); (try clear hi); obtain ⟨Ao14, co14, eo14⟩ := Kd.R_slice HO145.out; subst eo14))
 go_loopg [8, 26] k (fun kq v8 v26 w' => ∃ (x8_1 : List ByteArray) (x26_1 : Int), v26 = .int .i64 x26_1 ∧ Aside0 (label_Name.l0 kq a0 x8_1 t142 (t142.length : Int) x26_1 = some (r1, r2)) ∧ Aside0 (kq ≤ k) ∧ Aside0 (Kd.R Kd.string 9 w' w.heap.size (fun _ => True) v8 x8_1) ∧ Aside0 (Kd.R k96 96 w' w.heap.size (fun _ => True) (.slice Ao14 t142.length co14) t142) ∧ Aside0 (Below w.heap.size w w'))
 case atStart => exact ⟨(([] : List ByteArray)), (0), (by rfl), H', ⟨Nat.le_refl _⟩, ⟨by exact Kd.R_nil _ _ _ _ _⟩, ⟨rr_ HO145.out⟩, ⟨HB.out⟩⟩
 case round =>
  clear H'
  try clear c1
  try clear p2
  try clear c3
  try clear c5
  try clear c6
  try clear c8
  try clear c8b0
  try clear c8b1
  try clear c8b2
  obtain ⟨x8_1, x26_1, rfl, HA, HK1, HO_8, HO_24, HB⟩ := hrel
  cases gk with
  | zero => exact absurd HA.out (by simp [label_Name.l0])
  | succ k1 =>
   have H := HA.out
   clear HA
   simp only [label_Name.l0] at H
   by_cases c15 : x26_1 < (t142.length : Int)
   rotate_left
   ·rw [if_neg c15] at H
    have c15b0 := decide_eq_false c15
    clear c15
    by_cases c29 : a0.size + 1 ≤ 9223372036854775807
    rotate_left
    ·rw [if_neg c29] at H
     exact absurd H (by simp)
    rw [if_pos c29] at H
    have c29b0 := eq_true c29
    have c29b1 := decide_eq_true c29
    try have c29b2 : (9223372036854775807 < a0.size + 1) = False := eq_false (Nat.not_lt.2 c29)
    replace H := Option.bind_eq_some_iff.mp H
    obtain ⟨t153, A300, H⟩ := H
    replace H : (if (a0 ++ (⟨#[123]⟩ : ByteArray)).size + t153.size ≤ 9223372036854775807 then (if ((a0 ++ (⟨#[123]⟩ : ByteArray)) ++ t153).size + 1 ≤ 9223372036854775807 then (some (((a0 ++ (⟨#[123]⟩ : ByteArray)) ++ t153) ++ (⟨#[125]⟩ : ByteArray), 0)) else (none)) else (none)) = some (r1, r2) := H
    have A30 := A_ A300
    clear A300
    by_cases c31 : (a0 ++ (⟨#[123]⟩ : ByteArray)).size + t153.size ≤ 9223372036854775807
    rotate_left
    ·rw [if_neg c31] at H
     exact absurd H (by simp)
    rw [if_pos c31] at H
    have c31b0 := eq_true c31
    have c31b1 := decide_eq_true c31
    try have c31b2 : (9223372036854775807 < (a0 ++ (⟨#[123]⟩ : ByteArray)).size + t153.size) = False := eq_false (Nat.not_lt.2 c31)
    try have c31b3 : (9223372036854775807 < a0.size + 1 + t153.size) = False := eq_false (by have h_ := c31; simp only [ByteArray.size_append] at h_; have z0_ : (⟨#[123]⟩ : ByteArray).size = 1 := rfl; omega)
    try have c31b4 : (9223372036854775807 < (a0.size + 1) + t153.size) = False := eq_false (by have h_ := c31; simp only [ByteArray.size_append] at h_; have z0_ : (⟨#[123]⟩ : ByteArray).size = 1 := rfl; omega)
    by_cases c32 : ((a0 ++ (⟨#[123]⟩ : ByteArray)) ++ t153).size + 1 ≤ 9223372036854775807
    rotate_left
    ·rw [if_neg c32] at H
     exact absurd H (by simp)
    rw [if_pos c32] at H
    have c32b0 := eq_true c32
    have c32b1 := decide_eq_true c32
    try have c32b2 : (9223372036854775807 < ((a0 ++ (⟨#[123]⟩ : ByteArray)) ++ t153).size + 1) = False := eq_false (Nat.not_lt.2 c32)
    try have c32b3 : (9223372036854775807 < a0.size + 1 + t153.size + 1) = False := eq_false (by have h_ := c32; simp only [ByteArray.size_append] at h_; have z0_ : (⟨#[123]⟩ : ByteArray).size = 1 := rfl; omega)
    try have c32b4 : (9223372036854775807 < ((a0.size + 1) + t153.size) + 1) = False := eq_false (by have h_ := c32; simp only [ByteArray.size_append] at h_; have z0_ : (⟨#[123]⟩ : ByteArray).size = 1 := rfl; omega)
    simp only [Option.some.injEq, Prod.mk.injEq] at H
    obtain ⟨rfl, rfl⟩ := H
    obtain ⟨Ao33, co33, eo33⟩ := Kd.R_slice HO_8.out
    subst eo33
    go_wp2_with (first | ((with_reducible refine gate_callee (f := 67) rfl ?_); refine goesL_ (some 45) rfl rfl Tryz.func67 (by kernel_rfl) rfl #[.slice Ao33 x8_1.length co33, .string (⟨#[44]⟩ : ByteArray)] rfl mp_ ?_; (with_reducible refine (strings_Join.calls _ _ x8_1 (⟨#[44]⟩ : ByteArray) t153 _ ?side1 ?side2 A30.out).mono ?_); (case side1 => repeat (exact (Kd.R_reads' HO_8.out).2.2)); (case side2 => exact (Kd.R_reads' HO_8.out).2.1); rintro e w34 ⟨rfl, hb⟩; refine ⟨_, rfl, ?_⟩; have n0_ := A_ (Kd.R_below (rr_ HO_8.out) hb); have n1_ := A_ (Kd.R_below (rr_ HO_24.out) hb); have n2_ := A_ (below_step HB.out hb); clear HO_8; clear HO_24; clear HB; have HO_8 := n0_; have HO_24 := n1_; have HB := n2_; clear n0_ n1_ n2_; (try clear hb); (try clear hb2); (try clear hk); (try clear hi)))
    go_ret2
    exact ⟨by rfl, HB.out⟩
   rw [if_pos c15] at H
   have c15b0 := decide_eq_true c15
   clear c15
   by_cases c16 : 0 ≤ x26_1
   rotate_left
   ·rw [if_neg c16] at H
    exact absurd H (by simp)
   rw [if_pos c16] at H
   have c16b0 := decide_eq_true c16
   clear c16
   by_cases c17 : x26_1 < (t142.length : Int)
   rotate_left
   ·rw [if_neg c17] at H
    exact absurd H (by simp)
   rw [if_pos c17] at H
   have c17b0 := decide_eq_true c17
   clear c17
   by_cases c18 : ((rd_T96 t142 x26_1).f0).size + 2 ≤ 9223372036854775807
   rotate_left
   ·rw [if_neg c18] at H
    exact absurd H (by simp)
   rw [if_pos c18] at H
   have c18b0 := eq_true c18
   have c18b1 := decide_eq_true c18
   try have c18b2 : (9223372036854775807 < ((rd_T96 t142 x26_1).f0).size + 2) = False := eq_false (Nat.not_lt.2 c18)
   replace H := Option.bind_eq_some_iff.mp H
   obtain ⟨t149, A190, H⟩ := H
   replace H : (if (((rd_T96 t142 x26_1).f0) ++ (⟨#[61, 34]⟩ : ByteArray)).size + t149.size ≤ 9223372036854775807 then (if ((((rd_T96 t142 x26_1).f0) ++ (⟨#[61, 34]⟩ : ByteArray)) ++ t149).size + 1 ≤ 9223372036854775807 then (if x8_1.length < 8796093022208 then (label_Name.l0 k1 a0 (x8_1 ++ [((((rd_T96 t142 x26_1).f0) ++ (⟨#[61, 34]⟩ : ByteArray)) ++ t149) ++ (⟨#[34]⟩ : ByteArray)]) t142 (t142.length : Int) (wrap64 (x26_1 + 1))) else (none)) else (none)) else (none)) = some (r1, r2) := H
   have A19 := A_ A190
   clear A190
   by_cases c20 : (((rd_T96 t142 x26_1).f0) ++ (⟨#[61, 34]⟩ : ByteArray)).size + t149.size ≤ 9223372036854775807
   rotate_left
   ·rw [if_neg c20] at H
    exact absurd H (by simp)
   rw [if_pos c20] at H
   have c20b0 := eq_true c20
   have c20b1 := decide_eq_true c20
   try have c20b2 : (9223372036854775807 < (((rd_T96 t142 x26_1).f0) ++ (⟨#[61, 34]⟩ : ByteArray)).size + t149.size) = False := eq_false (Nat.not_lt.2 c20)
   try have c20b3 : (9223372036854775807 < ((rd_T96 t142 x26_1).f0).size + 2 + t149.size) = False := eq_false (by have h_ := c20; simp only [ByteArray.size_append] at h_; have z0_ : (⟨#[61, 34]⟩ : ByteArray).size = 2 := rfl; omega)
   try have c20b4 : (9223372036854775807 < (((rd_T96 t142 x26_1).f0).size + 2) + t149.size) = False := eq_false (by have h_ := c20; simp only [ByteArray.size_append] at h_; have z0_ : (⟨#[61, 34]⟩ : ByteArray).size = 2 := rfl; omega)
   by_cases c21 : ((((rd_T96 t142 x26_1).f0) ++ (⟨#[61, 34]⟩ : ByteArray)) ++ t149).size + 1 ≤ 9223372036854775807
   rotate_left
   ·rw [if_neg c21] at H
    exact absurd H (by simp)
   rw [if_pos c21] at H
   have c21b0 := eq_true c21
   have c21b1 := decide_eq_true c21
   try have c21b2 : (9223372036854775807 < ((((rd_T96 t142 x26_1).f0) ++ (⟨#[61, 34]⟩ : ByteArray)) ++ t149).size + 1) = False := eq_false (Nat.not_lt.2 c21)
   try have c21b3 : (9223372036854775807 < ((rd_T96 t142 x26_1).f0).size + 2 + t149.size + 1) = False := eq_false (by have h_ := c21; simp only [ByteArray.size_append] at h_; have z0_ : (⟨#[61, 34]⟩ : ByteArray).size = 2 := rfl; omega)
   try have c21b4 : (9223372036854775807 < ((((rd_T96 t142 x26_1).f0).size + 2) + t149.size) + 1) = False := eq_false (by have h_ := c21; simp only [ByteArray.size_append] at h_; have z0_ : (⟨#[61, 34]⟩ : ByteArray).size = 2 := rfl; omega)
   by_cases c22 : x8_1.length < 8796093022208
   rotate_left
   ·rw [if_neg c22] at H
    exact absurd H (by simp)
   rw [if_pos c22] at H
   have LMc22 := A_ c22
   clear c22
   obtain ⟨y150, hy150⟩ : ∃ y_ : List ByteArray, y_ = (x8_1 ++ [((((rd_T96 t142 x26_1).f0) ++ (⟨#[61, 34]⟩ : ByteArray)) ++ t149) ++ (⟨#[34]⟩ : ByteArray)]) := ⟨_, rfl⟩
   replace H : (label_Name.l0 k1 a0 y150 t142 (t142.length : Int) (wrap64 (x26_1 + 1))) = some (r1, r2) := by (rw [hy150]; with_reducible exact H)
   have Ny150 := A_ hy150
   clear hy150
   have H' := A_ H
   clear H
   have p147 : 0 ≤ (x26_1 : Int) := od_
   have q147 : x26_1 < (t142.length : Int) := od_
   (try (obtain ⟨Ax147_, cx147_, ex147_⟩ := Kd.R_slice HO_24.out; subst ex147_))
   obtain ⟨ad147, e147, hx147_0, hx147_1⟩ := at_T96 (Kd.R_reads' HO_24.out).2.2 x26_1 p147 q147
   cases e147
   replace p147 := eq_true p147
   replace q147 := eq_true q147
   try go_wp2_with (first | ((with_reducible refine gate_dst (N := 10) rfl ?_); refine box_event ?hg (N := 10) ?hd (cs := #[.string (⟨#[]⟩ : ByteArray), .string (⟨#[]⟩ : ByteArray)]) (t := 96) ?hr ?_; (case hd => rfl); (case hg => rfl); (case hr => (go_simp; done)); intro gb148 hg w23 hbox hb; have n0_ := A_ (Kd.R_below (rr_ HO_8.out) hb); have n1_ := A_ (Kd.R_below (Kd.R_elderB (rr_ HO_24.out) gb148 (Nat.le_of_eq hg.symm)) hb); have n2_ := A_ (below_step HB.out hb); have n3_ := A_ (hbox); have n4_ := A_ ((by rw [hg]; exact (below_size HB.out) : w.heap.size ≤ gb148)); have n5_ := A_ ((by rw [hg]; exact (below_size HB.out) : w.heap.size ≤ gb148)); clear HO_8; clear HO_24; clear HB; have HO_8 := n0_; have HO_24 := n1_; have HB := n2_; have BK148 := n3_; have GW148 := n4_; have GE148 := n5_; clear n0_ n1_ n2_ n3_ n4_ n5_; clear hb hbox hg; have hcz24_0 : w23.cell? ⟨gb148, 0, none⟩ = some (.string (⟨#[]⟩ : ByteArray)) := (blk_cell BK148.out 0).trans rfl; have hcz24_1 : w23.cell? ⟨gb148, 1, none⟩ = some (.string (⟨#[]⟩ : ByteArray)) := (blk_cell BK148.out 1).trans rfl; have hfz24_0 := blk_frozen BK148.out 0; have hfz24_1 := blk_frozen BK148.out 1))
   have n0_ : Aside0 (Kd.R Kd.string 9 ((w23.setCell ⟨gb148, 0, none⟩ (.string ((rd_T96 t142 x26_1).f0))).setCell ⟨gb148, 1, none⟩ (.string ((rd_T96 t142 x26_1).f1))) w.heap.size (fun _ => True) u8 x8_1) := ⟨by (with_reducible repeat (first | apply Kd.R_alloc | apply Kd.R_drewN | apply Kd.R_drew)); exact Kd.R_mono (Kd.R_far (p := ⟨gb148, 1, none⟩) (Kd.R_far (p := ⟨gb148, 0, none⟩) (Kd.R_types HO_8.out BK148.out (by decide)) (fun _ hk => hk.2) (.string ((rd_T96 t142 x26_1).f0))) (fun _ hk => hk.2) (.string ((rd_T96 t142 x26_1).f1))) (fun _ hk => trivial)⟩
   have n1_ : Aside0 (Kd.R k96 96 ((w23.setCell ⟨gb148, 0, none⟩ (.string ((rd_T96 t142 x26_1).f0))).setCell ⟨gb148, 1, none⟩ (.string ((rd_T96 t142 x26_1).f1))) w.heap.size (fun k_ => k_ ≠ gb148) (.slice (some ad147) t142.length co14) t142) := ⟨by (with_reducible repeat (first | apply Kd.R_alloc | apply Kd.R_drewN | apply Kd.R_drew)); exact Kd.R_mono (Kd.R_far (p := ⟨gb148, 1, none⟩) (Kd.R_far (p := ⟨gb148, 0, none⟩) (Kd.R_mono HO_24.out (fun k_ hk => (⟨hk, hk.2⟩ : _ ∧ k_ ≠ gb148))) (fun _ hk => hk.2) (.string ((rd_T96 t142 x26_1).f0))) (fun _ hk => hk.2) (.string ((rd_T96 t142 x26_1).f1))) (fun _ hk => hk.1.2)⟩
   have n2_ : Aside0 (((w23.setCell ⟨gb148, 0, none⟩ (.string ((rd_T96 t142 x26_1).f0))).setCell ⟨gb148, 1, none⟩ (.string ((rd_T96 t142 x26_1).f1))).heap[gb148]? = some (.cells #[.string ((rd_T96 t142 x26_1).f0), .string ((rd_T96 t142 x26_1).f1)] 96 (0, 0))) := ⟨by (with_reducible repeat (first | refine blk_drewN ?_ _ | refine blk_drew ?_ | refine blk_alloc ?_ _)); refine blk_put (cs := #[.string ((rd_T96 t142 x26_1).f0), .string (⟨#[]⟩ : ByteArray)]) ?_ 1 _ rfl; (with_reducible repeat (first | refine blk_drewN ?_ _ | refine blk_drew ?_ | refine blk_alloc ?_ _)); refine blk_put (cs := #[.string (⟨#[]⟩ : ByteArray), .string (⟨#[]⟩ : ByteArray)]) ?_ 0 _ rfl; (with_reducible repeat (first | refine blk_drewN ?_ _ | refine blk_drew ?_ | refine blk_alloc ?_ _)); exact BK148.out⟩
   have n3_ : Aside0 (Below w.heap.size w ((w23.setCell ⟨gb148, 0, none⟩ (.string ((rd_T96 t142 x26_1).f0))).setCell ⟨gb148, 1, none⟩ (.string ((rd_T96 t142 x26_1).f1)))) := ⟨by repeat ((with_reducible first | exact HB.out | refine below_set ?_ GE148.out))⟩
   (try clear HO_8)
   (try clear HO_24)
   (try clear BK148)
   (try clear HB)
   (try simp only [setCell_drewN_at])
   generalize ((w23.setCell ⟨gb148, 0, none⟩ (.string ((rd_T96 t142 x26_1).f0))).setCell ⟨gb148, 1, none⟩ (.string ((rd_T96 t142 x26_1).f1))) = w25 at n0_ n1_ n2_ n3_ ⊢
   have HO_8 := n0_
   have HO_24 := n1_
   have BK148 := n2_
   have HB := n3_
   clear n0_ n1_ n2_ n3_
   have n0_ := A_ (Kd.R_drew HO_8.out)
   have n1_ := A_ (Kd.R_drew HO_24.out)
   have n2_ := A_ (blk_drew BK148.out)
   have n3_ := A_ (below_drew1 HB.out)
   clear HO_8
   clear HO_24
   clear BK148
   clear HB
   have HO_8 := n0_
   have HO_24 := n1_
   have BK148 := n2_
   have HB := n3_
   clear n0_ n1_ n2_ n3_
   refine start_ (n := 12) (S := fun w' => w'.cell? ⟨gb148, 0, none⟩ = some (.string ((rd_T96 t142 x26_1).f0)) ∧ w'.cell? ⟨gb148, 1, none⟩ = some (.string ((rd_T96 t142 x26_1).f1))) (ds := []) #[F_,F_,F_,F_,F_,F_,F_,F_,F_,F_,F_,F_] (by kernel_rfl) rfl rfl ⟨(blk_cell BK148.out 0).trans rfl, (blk_cell BK148.out 1).trans rfl⟩ (fun hHeld => ?_); refine with_tabW label_Name.tab10 label_Name.bits10 (fun HT_ HW_ => ?_)
   generalize w25.drew = w26 at HO_8 HO_24 BK148 HB hHeld ⊢
   refine pu_ 0 (some 30) #[T_,F_,F_,F_,F_,F_,F_,F_,F_,F_,F_,F_] HT_.out rfl rfl ?_
   refine pu_ 1 (some 31) #[T_,T_,F_,F_,F_,F_,F_,F_,F_,F_,F_,F_] HT_.out rfl rfl ?_
   refine pu_ 4 (some 34) #[T_,T_,F_,F_,T_,F_,F_,F_,F_,F_,F_,F_] HT_.out rfl rfl ?_
   refine take_ (i := 2) (N := some 32) (v := ?_) (a' := ?_) #[T_,T_,T_,F_,T_,F_,F_,F_,F_,F_,F_,F_] rfl rfl (take_ofW HT_.out HW_.out (by kernel_rfl)) (fun _ _ _ h => h) (Or.inl ⟨by rfl, ?_⟩) hHeld ?_ ?_
   rotate_left
   ·rintro w' ⟨s0, s1⟩
    go_simp
    with_reducible rfl
   rotate_left
   ·simp only [Act.put,s1_,s2_,s3_, i64_w, i32_w]
    rfl
   refine pu_ 3 (some 33) #[T_,T_,T_,T_,T_,F_,F_,F_,F_,F_,F_,F_] HT_.out rfl rfl ?_
   refine take_ (i := 5) (N := some 35) (v := ?_) (a' := ?_) #[T_,T_,T_,T_,T_,T_,F_,F_,F_,F_,F_,F_] rfl rfl (take_ofW HT_.out HW_.out (by kernel_rfl)) (fun _ _ _ h => h) (Or.inl ⟨by rfl, ?_⟩) hHeld ?_ ?_
   rotate_left
   ·rintro w' ⟨s0, s1⟩
    go_simp
    with_reducible rfl
   rotate_left
   ·simp only [Act.put,s1_,s2_,s3_, i64_w, i32_w]
    rfl
   refine one_ (i := 6) (N := some 36) #[T_,T_,T_,T_,T_,T_,T_,F_,F_,F_,F_,F_] rfl rfl (one_of HT_.out (by kernel_rfl)) (by decide) (fun K hK => ?_)
   refine goes_ Tryz.func66 (by kernel_rfl) rfl #[.string ((rd_T96 t142 x26_1).f1)] (by rfl) rfl rfl mp_ ?_
   with_reducible refine (label_Escape.calls ((rd_T96 t142 x26_1).f1) t149 _ A19.out).mono ?_
   rintro e w27 ⟨rfl, hb⟩
   refine ⟨_, rfl, ?_⟩
   have n0_ := A_ (Kd.R_below (rr_ HO_8.out) hb)
   have n1_ := A_ (Kd.R_below (rr_ HO_24.out) hb)
   have n2_ := A_ (blk_below (g := gb148) (o := .cells #[.string ((rd_T96 t142 x26_1).f0), .string ((rd_T96 t142 x26_1).f1)] 96 (0, 0)) (bk_ BK148.out) hb)
   have n3_ := A_ (below_step HB.out hb)
   clear HO_8
   clear HO_24
   clear BK148
   clear HB
   have HO_8 := n0_
   have HO_24 := n1_
   have BK148 := n2_
   have HB := n3_
   clear n0_ n1_ n2_ n3_
   (try clear hb)
   (try clear hb2)
   (try clear hk)
   (try clear hi)
   refine hK.out _ _ ⟨(blk_cell BK148.out 0).trans rfl, (blk_cell BK148.out 1).trans rfl⟩ (fun hHeld => ?_)
   clear hK K
   refine norm_ (a' := ?_) ?_ ?_
   rotate_left
   ·show Act.put _ (some 36) _ = _
    simp only [Act.put,s1_,s2_,s3_, i64_w, i32_w]
    rfl
   refine pu_ 7 (some 37) #[T_,T_,T_,T_,T_,T_,T_,T_,F_,F_,F_,F_] HT_.out rfl rfl ?_
   refine pu_ 8 (some 38) #[T_,T_,T_,T_,T_,T_,T_,T_,T_,F_,F_,F_] HT_.out rfl rfl ?_
   refine one_ (i := 9) (N := some 39) #[T_,T_,T_,T_,T_,T_,T_,T_,T_,T_,F_,F_] rfl rfl (one_of HT_.out (by kernel_rfl)) (by decide) (fun K hK => ?_)
   refine value_ (w1 := ?_) (v := ?_) (by rfl) rfl ?_ ?_
   rotate_left 2
   ·go_simp
    constructor
    ·rfl
    rfl
   refine hK.out _ _ ⟨(blk_cell (blk_alloc BK148.out _) 0).trans rfl, (blk_cell (blk_alloc BK148.out _) 1).trans rfl⟩ (fun hHeld => ?_)
   clear hK K
   refine norm_ (a' := ?_) ?_ ?_
   rotate_left
   ·show Act.put _ (some 39) _ = _
    simp only [Act.put,s1_,s2_,s3_, i64_w, i32_w]
    rfl
   refine one_ (i := 10) (N := some 40) #[T_,T_,T_,T_,T_,T_,T_,T_,T_,T_,T_,F_] rfl rfl (one_of HT_.out (by kernel_rfl)) (by decide) (fun K hK => ?_)
   refine Kd.R_append_step Kd.string (w0 := w) w.heap.size (by rfl) (.tmp 30) (.tmp 39) 23 9 (.string ⟨#[]⟩) 16 rfl Tryz.underlying23 info9 rfl (by decide) (by omega) u8 x8_1 (((((rd_T96 t142 x26_1).f0) ++ (⟨#[61, 34]⟩ : ByteArray)) ++ t149) ++ (⟨#[34]⟩ : ByteArray)) [.string (((((rd_T96 t142 x26_1).f0) ++ (⟨#[61, 34]⟩ : ByteArray)) ++ t149) ++ (⟨#[34]⟩ : ByteArray))] (fun _ => True) (fun _ => False) rfl rfl ?aP (fun _ hk => hk.elim) ?aF ?aO ?aB ?aS ?aL ?_
   (case aP => exact rfl)
   (case aB => exact HB.out)
   (case aF => exact (fun _ _ => trivial))
   (case aO => exact (rr_ HO_8.out))
   (case aS => exact (below_size HB.out))
   (case aL => have := LMc22.out; omega)
   intro v151 w28 ho hb hg hat
   rw [← Ny150.out] at ho
   have n0_ := A_ (Kd.R_over' (rr_ HO_24.out) (Kd.R_typed (rr_ HO_8.out)) (by decide) hg)
   have n1_ := A_ (blk_grown (g := gb148) (o := .cells #[.string ((rd_T96 t142 x26_1).f0), .string ((rd_T96 t142 x26_1).f1)] 96 (0, 0)) (bk_ BK148.out) hg (Kd.R_ne HO_8.out BK148.out (by decide)))
   have n2_ := A_ (hb)
   have n3_ := A_ (ho)
   clear HO_24
   clear BK148
   clear HB
   clear HO_8
   have HO_24 := n0_
   have BK148 := n1_
   have HB := n2_
   have HO152 := n3_
   clear n0_ n1_ n2_ n3_
   clear ho hb hg hat
   refine hK.out _ _ ⟨(blk_cell BK148.out 0).trans rfl, (blk_cell BK148.out 1).trans rfl⟩ (fun hHeld => ?_)
   clear hK K
   refine norm_ (a' := ?_) ?_ ?_
   rotate_left
   ·show Act.put _ (some 40) _ = _
    simp only [Act.put,s1_,s2_,s3_, i64_w, i32_w]
    rfl
   refine pu_ 11 (some 8) #[T_,T_,T_,T_,T_,T_,T_,T_,T_,T_,T_,T_] HT_.out rfl rfl ?_
   refine done_ (done_of HT_.out (by kernel_rfl)) ?_
   try go_wp2
   go_roundg k1
   case measure => have := HK1.out; omega
   case rel => exact ⟨(y150), (wrap64 (x26_1 + 1)), (by rfl), H', ⟨by have := HK1.out; omega⟩, ⟨rr_ HO152.out⟩, ⟨by (with_reducible repeat (first | apply Kd.R_alloc | apply Kd.R_drewN | apply Kd.R_drew)); exact Kd.R_mono HO_24.out (fun _ hk => trivial)⟩, ⟨HB.out⟩⟩
def strings_Cut.f (a0 : ByteArray) (a1 : ByteArray) : Option (ByteArray × ByteArray × Bool) :=
 if a0.size < 4294967281 then some ((⟨(Lib.cut a0.data.toList a1.data.toList).1.toArray⟩ : ByteArray), (⟨(Lib.cut a0.data.toList a1.data.toList).2.1.toArray⟩ : ByteArray), (Lib.cut a0.data.toList a1.data.toList).2.2) else none
theorem strings_Cut.calls (a0 : ByteArray) (a1 : ByteArray) (r1 : ByteArray) (r2 : ByteArray) (r3 : Bool) (w : World) (hSH : SH w) (h : strings_Cut.f a0 a1 = some (r1, r2, r3)) :
 Calls Tryz.prog 55 #[.string a0, .string a1] w fun e w' => e = .returned (.tuple #[.string r1, .string r2, .bool r3]) ∧ Drawn0 w w' := by
 unfold strings_Cut.f at h
 split at h
 case isTrue hs =>
  cases h
  exact cut_calls a0 a1 w hSH hs
 case isFalse => cases h
mutual
def label_Unescape.l0 : Nat → ByteArray → List Int → Int → Option (ByteArray × Bool)
 | 0, _, _, _ => none
 | k + 1, x0, x4, x5 => if x5 < (x0.size : Int) then (if 0 ≤ x5 then (if (bt x0 x5) = 34 then (label_Unescape.j1 k x0 x4 x5 (bt x0 x5) true) else (label_Unescape.j1 k x0 x4 x5 (bt x0 x5) ((bt x0 x5) == 10))) else (none)) else (some (strOfNums x4, true))
def label_Unescape.j1 : Nat → ByteArray → List Int → Int → Int → Bool → Option (ByteArray × Bool)
 | 0, _, _, _, _, _ => none
 | k + 1, x0, x4, x5, x6, x21 => if x21 = true then (some ((⟨#[]⟩ : ByteArray), false)) else (if x6 = 92 then (if (wrap64 (x5 + 1)) = (x0.size : Int) then (some ((⟨#[]⟩ : ByteArray), false)) else (if 0 ≤ (wrap64 (x5 + 1)) then (if (wrap64 (x5 + 1)) < (x0.size : Int) then (if (bt x0 (wrap64 (x5 + 1))) = 110 then (if x4.length < 140737488355328 then (label_Unescape.l0 k x0 (x4 ++ [10]) (wrap64 ((wrap64 (x5 + 1)) + 1))) else (none)) else (if (bt x0 (wrap64 (x5 + 1))) = 92 then (if x4.length < 140737488355328 then (label_Unescape.l0 k x0 (x4 ++ [bt x0 (wrap64 (x5 + 1))]) (wrap64 ((wrap64 (x5 + 1)) + 1))) else (none)) else (if (bt x0 (wrap64 (x5 + 1))) = 34 then (if x4.length < 140737488355328 then (label_Unescape.l0 k x0 (x4 ++ [bt x0 (wrap64 (x5 + 1))]) (wrap64 ((wrap64 (x5 + 1)) + 1))) else (none)) else (some ((⟨#[]⟩ : ByteArray), false))))) else (none)) else (none))) else (if x4.length < 140737488355328 then (label_Unescape.l0 k x0 (x4 ++ [x6]) (wrap64 (x5 + 1))) else (none)))
end
def label_Unescape.f (k : Nat) (a0 : ByteArray) : Option (ByteArray × Bool) := label_Unescape.l0 k a0 ([] : List Int) 0
theorem label_Unescape.mono_l : ∀ k, (∀ y0 y1 y2, LeO (label_Unescape.l0 k y0 y1 y2) (label_Unescape.l0 (k + 1) y0 y1 y2)) ∧ (∀ y0 y1 y2 y3 y4, LeO (label_Unescape.j1 k y0 y1 y2 y3 y4) (label_Unescape.j1 (k + 1) y0 y1 y2 y3 y4))
 | 0 => ⟨fun _ _ _ r h => by simp [label_Unescape.l0] at h, fun _ _ _ _ _ r h => by simp [label_Unescape.j1] at h⟩
 | k + 1 => by
  obtain ⟨ih0, ih1⟩ := label_Unescape.mono_l k
  refine ⟨?_, ?_⟩
  rotate_left
  ·intro y0 y1 y2 y3 y4
   unfold label_Unescape.j1
   repeat' first
   | (with_reducible first | exact ih0 _ _ _ | exact ih1 _ _ _ _ _ | exact LeO.refl _ | exact LeO.none _ | refine LeO.ite ?_ ?_ | refine LeO.bind ?_ (fun _ => ?_))
  intro y0 y1 y2
  unfold label_Unescape.l0
  repeat' first
  | (with_reducible first | exact ih0 _ _ _ | exact ih1 _ _ _ _ _ | exact LeO.refl _ | exact LeO.none _ | refine LeO.ite ?_ ?_ | refine LeO.bind ?_ (fun _ => ?_))
theorem label_Unescape.mono : ∀ a0 k, LeO (label_Unescape.f k a0) (label_Unescape.f (k + 1) a0) := by
 intro a0 k
 obtain ⟨ih0, ih1⟩ := label_Unescape.mono_l k
 unfold label_Unescape.f
 repeat' first
  | (with_reducible first | exact ih0 _ _ _ | exact ih1 _ _ _ _ _ | exact LeO.refl _ | exact LeO.none _ | refine LeO.ite ?_ ?_ | refine LeO.bind ?_ (fun _ => ?_))
set_option maxHeartbeats 8000000 in
set_option maxRecDepth 100000 in
theorem label_Unescape.calls (k : Nat) (a0 : ByteArray) (r1 : ByteArray) (r2 : Bool) (w : World) (h : label_Unescape.f k a0 = some (r1, r2)) :
 Calls Tryz.prog 99 #[.string a0] w fun e w' => e = .returned (.tuple #[.string r1, .bool r2]) ∧ Below w.heap.size w w' := by
 have HB := A_ (Below.refl w.heap.size w)
 have H : (label_Unescape.l0 k a0 ([] : List Int) 0) = some (r1, r2) := h
 clear h
 have H' := A_ H
 clear H
 go_enter Tryz.func99, Tryz.ntmps99
 go_wp2
 go_loopg [4, 5] k (fun kq v4 v5 w' => ∃ (x4_1 : List Int) (x5_1 : Int), v5 = .int .i64 x5_1 ∧ Aside0 (label_Unescape.l0 kq a0 x4_1 x5_1 = some (r1, r2)) ∧ Aside0 (kq ≤ k) ∧ Aside0 (Kd.R (Kd.int .u8) 5 w' w.heap.size (fun _ => True) v4 x4_1) ∧ Aside0 (Below w.heap.size w w'))
 case atStart => exact ⟨(([] : List Int)), (0), (by rfl), H', ⟨Nat.le_refl _⟩, ⟨by exact Kd.R_nil _ _ _ _ _⟩, ⟨HB.out⟩⟩
 case round =>
  clear H'
  obtain ⟨x4_1, x5_1, rfl, HA, HK1, HO_4, HB⟩ := hrel
  cases gk with
  | zero => exact absurd HA.out (by simp [label_Unescape.l0])
  | succ k1 =>
   have H := HA.out
   clear HA
   simp only [label_Unescape.l0] at H
   by_cases c2 : x5_1 < (a0.size : Int)
   rotate_left
   ·rw [if_neg c2] at H
    have c2b0 := decide_eq_false c2
    clear c2
    simp only [Option.some.injEq, Prod.mk.injEq] at H
    obtain ⟨rfl, rfl⟩ := H
    have hcv25 := own_string (P := Tryz.prog) Tryz.underlying72 Tryz.underlying5 Tryz.underlying9 (Kd.own_of_R HO_4.out)
    go_wp2
    go_ret2
    exact ⟨by rfl, HB.out⟩
   rw [if_pos c2] at H
   have c2b0 := decide_eq_true c2
   clear c2
   by_cases c3 : 0 ≤ x5_1
   rotate_left
   ·rw [if_neg c3] at H
    exact absurd H (by simp)
   rw [if_pos c3] at H
   have c3b0 := decide_eq_true c3
   clear c3
   have HC5 := A_ H
   clear H
   have p4 : 0 ≤ (x5_1 : Int) := od_
   have q4 : x5_1 < (a0.size : Int) := od_
   have hx4 := bt_at a0 x5_1
   replace p4 := eq_true p4
   replace q4 := eq_true q4
   go_upto_region 6 with (fail)
   go_cut [21] (fun v21 wc => ∃ (kq : Nat) (x21_4 : Bool), v21 = .bool x21_4 ∧ Aside0 (label_Unescape.j1 kq a0 x4_1 x5_1 (bt a0 x5_1) x21_4 = some (r1, r2)) ∧ Aside0 (kq ≤ k1) ∧ Aside0 (Kd.R (Kd.int .u8) 5 wc w.heap.size (fun _ => True) u4 x4_1) ∧ Aside0 (Below w.heap.size w wc))
   case first =>
    have H := HC5.out
    clear HC5
    by_cases c6 : (bt a0 x5_1) = 34
    rotate_left
    ·rw [if_neg c6] at H
     have c6b0 : ((bt a0 x5_1) == 34) = false := beq_eq_false_iff_ne.mpr c6
     have c6b1 : ((bt a0 x5_1) != 34) = true := bne_iff_ne.mpr c6
     (skip)
     have H' := A_ H
     clear H
     go_wp2
     go_meet
     case rel => exact ⟨_, (((bt a0 x5_1) == 10)), (by rfl), H', ⟨by have := HK1.out; omega⟩, ⟨rr_ HO_4.out⟩, ⟨HB.out⟩⟩
    rw [if_pos c6] at H
    have c6b0 : ((bt a0 x5_1) == 34) = true := beq_iff_eq.mpr c6
    have c6b1 : ((bt a0 x5_1) != 34) = false := bne_eq_false_iff_eq.mpr c6
    clear c6
    (skip)
    have H' := A_ H
    clear H
    go_wp2
    go_meet
    case rel => exact ⟨_, (true), (by rfl), H', ⟨by have := HK1.out; omega⟩, ⟨rr_ HO_4.out⟩, ⟨HB.out⟩⟩
   case rest =>
    clear HC5
    try clear c2
    try clear c2b0
    try clear p2
    try clear c3
    try clear c3b0
    try clear p4
    try clear q4
    try clear hx4
    try clear c6
    try clear c6b0
    try clear c6b1
    try clear p4
    try clear q4
    obtain ⟨kq, x21_4, rfl, HA, HJ4, HO_4, HB⟩ := hcut
    cases kq with
    | zero => exact absurd HA.out (by simp [label_Unescape.j1])
    | succ kj4 =>
     have H := HA.out
     clear HA
     simp only [label_Unescape.j1] at H
     by_cases c7 : x21_4 = true
     ·subst c7
      have H1 : (some ((⟨#[]⟩ : ByteArray), false)) = some (r1, r2) := by rw [if_pos rfl] at H; exact H
      clear H
      have H := H1
      clear H1
      simp only [Option.some.injEq, Prod.mk.injEq] at H
      obtain ⟨rfl, rfl⟩ := H
      go_wp2
      go_ret2
      exact ⟨by rfl, HB.out⟩
     replace c7 := Bool.eq_false_iff.mpr c7
     subst c7
     have H1 : (if (bt a0 x5_1) = 92 then (if (wrap64 (x5_1 + 1)) = (a0.size : Int) then (some ((⟨#[]⟩ : ByteArray), false)) else (if 0 ≤ (wrap64 (x5_1 + 1)) then (if (wrap64 (x5_1 + 1)) < (a0.size : Int) then (if (bt a0 (wrap64 (x5_1 + 1))) = 110 then (if x4_1.length < 140737488355328 then (label_Unescape.l0 kj4 a0 (x4_1 ++ [10]) (wrap64 ((wrap64 (x5_1 + 1)) + 1))) else (none)) else (if (bt a0 (wrap64 (x5_1 + 1))) = 92 then (if x4_1.length < 140737488355328 then (label_Unescape.l0 kj4 a0 (x4_1 ++ [bt a0 (wrap64 (x5_1 + 1))]) (wrap64 ((wrap64 (x5_1 + 1)) + 1))) else (none)) else (if (bt a0 (wrap64 (x5_1 + 1))) = 34 then (if x4_1.length < 140737488355328 then (label_Unescape.l0 kj4 a0 (x4_1 ++ [bt a0 (wrap64 (x5_1 + 1))]) (wrap64 ((wrap64 (x5_1 + 1)) + 1))) else (none)) else (some ((⟨#[]⟩ : ByteArray), false))))) else (none)) else (none))) else (if x4_1.length < 140737488355328 then (label_Unescape.l0 kj4 a0 (x4_1 ++ [(bt a0 x5_1)]) (wrap64 (x5_1 + 1))) else (none))) = some (r1, r2) := by rw [if_neg (show ¬ (false = true) by decide)] at H; exact H
     clear H
     have H := H1
     clear H1
     by_cases c8 : (bt a0 x5_1) = 92
     rotate_left
     ·rw [if_neg c8] at H
      have c8b0 : ((bt a0 x5_1) == 92) = false := beq_eq_false_iff_ne.mpr c8
      have c8b1 : ((bt a0 x5_1) != 92) = true := bne_iff_ne.mpr c8
      by_cases c23 : x4_1.length < 140737488355328
      rotate_left
      ·rw [if_neg c23] at H
       exact absurd H (by simp)
      rw [if_pos c23] at H
      have LMc23 := A_ c23
      clear c23
      obtain ⟨y163, hy163⟩ : ∃ y_ : List Int, y_ = (x4_1 ++ [(bt a0 x5_1)]) := ⟨_, rfl⟩
      replace H : (label_Unescape.l0 kj4 a0 y163 (wrap64 (x5_1 + 1))) = some (r1, r2) := by (rw [hy163]; with_reducible exact H)
      have Ny163 := A_ hy163
      clear hy163
      have H' := A_ H
      clear H
      go_wp2_with (first | ((with_reducible refine gate_builtin (b := .append) (xs := #[.tmp 39, .tmp 41]) rfl ?_); at_builtin; refine Kd.R_append (Kd.int .u8) (w0 := w) w.heap.size rfl (.tmp 39) (.tmp 41) 72 5 (.int .u8 0) 1 rfl Tryz.underlying72 info5 rfl (by decide) (by omega) u4 x4_1 (bt a0 x5_1) [.int .u8 (bt a0 x5_1)] (fun _ => True) (fun _ => False) rfl rfl ?aP (fun _ hk => hk.elim) ?aF ?aO ?aB ?aS ?aL ?_; (case aP => exact rfl); (case aB => exact HB.out); (case aF => exact (fun _ _ => trivial)); (case aO => exact (rr_ HO_4.out)); (case aS => exact (below_size HB.out)); (case aL => have := LMc23.out; omega); intro v164 w24 ho hb hg hat; rw [← Ny163.out] at ho; have n0_ := A_ (hb); have n1_ := A_ (ho); clear HB; clear HO_4; have HB := n0_; have HO165 := n1_; clear n0_ n1_; clear ho hb hg hat))
      go_roundg kj4
      case measure => have := HK1.out; have := HJ4.out; omega
      case rel => exact ⟨(y163), (wrap64 (x5_1 + 1)), (by rfl), H', ⟨by have := HK1.out; have := HJ4.out; omega⟩, ⟨rr_ HO165.out⟩, ⟨HB.out⟩⟩
     rw [if_pos c8] at H
     have c8b0 : ((bt a0 x5_1) == 92) = true := beq_iff_eq.mpr c8
     have c8b1 : ((bt a0 x5_1) != 92) = false := bne_eq_false_iff_eq.mpr c8
     clear c8
     by_cases c9 : (wrap64 (x5_1 + 1)) = (a0.size : Int)
     ·rw [if_pos c9] at H
      have c9b0 : ((wrap64 (x5_1 + 1)) == (a0.size : Int)) = true := beq_iff_eq.mpr c9
      have c9b1 : ((wrap64 (x5_1 + 1)) != (a0.size : Int)) = false := bne_eq_false_iff_eq.mpr c9
      clear c9
      simp only [Option.some.injEq, Prod.mk.injEq] at H
      obtain ⟨rfl, rfl⟩ := H
      go_wp2
      go_ret2
      exact ⟨by rfl, HB.out⟩
     rw [if_neg c9] at H
     have c9b0 : ((wrap64 (x5_1 + 1)) == (a0.size : Int)) = false := beq_eq_false_iff_ne.mpr c9
     have c9b1 : ((wrap64 (x5_1 + 1)) != (a0.size : Int)) = true := bne_iff_ne.mpr c9
     obtain ⟨ji10, hji10⟩ : ∃ j_ : Int, (wrap64 (x5_1 + 1)) = j_ := ⟨_, rfl⟩
     replace H : (if 0 ≤ (ji10) then (if (ji10) < (a0.size : Int) then (if (bt a0 (ji10)) = 110 then (if x4_1.length < 140737488355328 then (label_Unescape.l0 kj4 a0 (x4_1 ++ [10]) (wrap64 ((ji10) + 1))) else (none)) else (if (bt a0 (ji10)) = 92 then (if x4_1.length < 140737488355328 then (label_Unescape.l0 kj4 a0 (x4_1 ++ [bt a0 (ji10)]) (wrap64 ((ji10) + 1))) else (none)) else (if (bt a0 (ji10)) = 34 then (if x4_1.length < 140737488355328 then (label_Unescape.l0 kj4 a0 (x4_1 ++ [bt a0 (ji10)]) (wrap64 ((ji10) + 1))) else (none)) else (some ((⟨#[]⟩ : ByteArray), false))))) else (none)) else (none)) = some (r1, r2) := by (rw [hji10] at H; exact H)
     (try rw [hji10] at c9b0)
     (try rw [hji10] at c9b1)
     have hji10w : (IntKind.i64.wrap (x5_1 + 1)) = ji10 := (i64_w _).trans hji10
     by_cases c11 : 0 ≤ (ji10)
     rotate_left
     ·rw [if_neg c11] at H
      exact absurd H (by simp)
     rw [if_pos c11] at H
     have c11b0 := decide_eq_true c11
     clear c11
     by_cases c12 : (ji10) < (a0.size : Int)
     rotate_left
     ·rw [if_neg c12] at H
      exact absurd H (by simp)
     rw [if_pos c12] at H
     have c12b0 := decide_eq_true c12
     clear c12
     by_cases c14 : (bt a0 (ji10)) = 110
     ·rw [if_pos c14] at H
      have c14b0 : ((bt a0 (ji10)) == 110) = true := beq_iff_eq.mpr c14
      have c14b1 : ((bt a0 (ji10)) != 110) = false := bne_eq_false_iff_eq.mpr c14
      clear c14
      by_cases c15 : x4_1.length < 140737488355328
      rotate_left
      ·rw [if_neg c15] at H
       exact absurd H (by simp)
      rw [if_pos c15] at H
      have LMc15 := A_ c15
      clear c15
      obtain ⟨y154, hy154⟩ : ∃ y_ : List Int, y_ = (x4_1 ++ [10]) := ⟨_, rfl⟩
      replace H : (label_Unescape.l0 kj4 a0 y154 (wrap64 ((ji10) + 1))) = some (r1, r2) := by (rw [hy154]; with_reducible exact H)
      have Ny154 := A_ hy154
      clear hy154
      have H' := A_ H
      clear H
      have p13 : 0 ≤ ((ji10) : Int) := od_
      have q13 : (ji10) < (a0.size : Int) := od_
      have hx13 := bt_at a0 (ji10)
      replace p13 := eq_true p13
      replace q13 := eq_true q13
      go_wp2_with (first | ((with_reducible refine gate_builtin (b := .append) (xs := #[.tmp 39, .tmp 41]) rfl ?_); at_builtin; refine Kd.R_append (Kd.int .u8) (w0 := w) w.heap.size rfl (.tmp 39) (.tmp 41) 72 5 (.int .u8 0) 1 rfl Tryz.underlying72 info5 rfl (by decide) (by omega) u4 x4_1 10 [.int .u8 10] (fun _ => True) (fun _ => False) rfl rfl ?aP (fun _ hk => hk.elim) ?aF ?aO ?aB ?aS ?aL ?_; (case aP => exact rfl); (case aB => exact HB.out); (case aF => exact (fun _ _ => trivial)); (case aO => exact (rr_ HO_4.out)); (case aS => exact (below_size HB.out)); (case aL => have := LMc15.out; omega); intro v155 w16 ho hb hg hat; rw [← Ny154.out] at ho; have n0_ := A_ (hb); have n1_ := A_ (ho); clear HB; clear HO_4; have HB := n0_; have HO156 := n1_; clear n0_ n1_; clear ho hb hg hat))
      go_roundg kj4
      case measure => have := HK1.out; have := HJ4.out; omega
      case rel => exact ⟨(y154), (wrap64 ((ji10) + 1)), (by rfl), (by exact H'), ⟨by have := HK1.out; have := HJ4.out; omega⟩, ⟨rr_ HO156.out⟩, ⟨HB.out⟩⟩
     rw [if_neg c14] at H
     have c14b0 : ((bt a0 (ji10)) == 110) = false := beq_eq_false_iff_ne.mpr c14
     have c14b1 : ((bt a0 (ji10)) != 110) = true := bne_iff_ne.mpr c14
     by_cases c17 : (bt a0 (ji10)) = 92
     ·rw [if_pos c17] at H
      have c17b0 : ((bt a0 (ji10)) == 92) = true := beq_iff_eq.mpr c17
      have c17b1 : ((bt a0 (ji10)) != 92) = false := bne_eq_false_iff_eq.mpr c17
      clear c17
      by_cases c18 : x4_1.length < 140737488355328
      rotate_left
      ·rw [if_neg c18] at H
       exact absurd H (by simp)
      rw [if_pos c18] at H
      have LMc18 := A_ c18
      clear c18
      obtain ⟨y157, hy157⟩ : ∃ y_ : List Int, y_ = (x4_1 ++ [bt a0 (ji10)]) := ⟨_, rfl⟩
      replace H : (label_Unescape.l0 kj4 a0 y157 (wrap64 ((ji10) + 1))) = some (r1, r2) := by (rw [hy157]; with_reducible exact H)
      have Ny157 := A_ hy157
      clear hy157
      have H' := A_ H
      clear H
      have p13 : 0 ≤ ((ji10) : Int) := od_
      have q13 : (ji10) < (a0.size : Int) := od_
      have hx13 := bt_at a0 (ji10)
      replace p13 := eq_true p13
      replace q13 := eq_true q13
      go_wp2_with (first | ((with_reducible refine gate_builtin (b := .append) (xs := #[.tmp 39, .tmp 41]) rfl ?_); at_builtin; refine Kd.R_append (Kd.int .u8) (w0 := w) w.heap.size rfl (.tmp 39) (.tmp 41) 72 5 (.int .u8 0) 1 rfl Tryz.underlying72 info5 rfl (by decide) (by omega) u4 x4_1 (bt a0 (ji10)) [.int .u8 (bt a0 (ji10))] (fun _ => True) (fun _ => False) rfl rfl ?aP (fun _ hk => hk.elim) ?aF ?aO ?aB ?aS ?aL ?_; (case aP => exact rfl); (case aB => exact HB.out); (case aF => exact (fun _ _ => trivial)); (case aO => exact (rr_ HO_4.out)); (case aS => exact (below_size HB.out)); (case aL => have := LMc18.out; omega); intro v158 w19 ho hb hg hat; rw [← Ny157.out] at ho; have n0_ := A_ (hb); have n1_ := A_ (ho); clear HB; clear HO_4; have HB := n0_; have HO159 := n1_; clear n0_ n1_; clear ho hb hg hat))
      go_roundg kj4
      case measure => have := HK1.out; have := HJ4.out; omega
      case rel => exact ⟨(y157), (wrap64 ((ji10) + 1)), (by rfl), (by exact H'), ⟨by have := HK1.out; have := HJ4.out; omega⟩, ⟨rr_ HO159.out⟩, ⟨HB.out⟩⟩
     rw [if_neg c17] at H
     have c17b0 : ((bt a0 (ji10)) == 92) = false := beq_eq_false_iff_ne.mpr c17
     have c17b1 : ((bt a0 (ji10)) != 92) = true := bne_iff_ne.mpr c17
     by_cases c20 : (bt a0 (ji10)) = 34
     rotate_left
     ·rw [if_neg c20] at H
      have c20b0 : ((bt a0 (ji10)) == 34) = false := beq_eq_false_iff_ne.mpr c20
      have c20b1 : ((bt a0 (ji10)) != 34) = true := bne_iff_ne.mpr c20
      simp only [Option.some.injEq, Prod.mk.injEq] at H
      obtain ⟨rfl, rfl⟩ := H
      have p13 : 0 ≤ ((ji10) : Int) := od_
      have q13 : (ji10) < (a0.size : Int) := od_
      have hx13 := bt_at a0 (ji10)
      replace p13 := eq_true p13
      replace q13 := eq_true q13
      go_wp2
      go_ret2
      exact ⟨by rfl, HB.out⟩
     rw [if_pos c20] at H
     have c20b0 : ((bt a0 (ji10)) == 34) = true := beq_iff_eq.mpr c20
     have c20b1 : ((bt a0 (ji10)) != 34) = false := bne_eq_false_iff_eq.mpr c20
     clear c20
     by_cases c21 : x4_1.length < 140737488355328
     rotate_left
     ·rw [if_neg c21] at H
      exact absurd H (by simp)
     rw [if_pos c21] at H
     have LMc21 := A_ c21
     clear c21
     obtain ⟨y160, hy160⟩ : ∃ y_ : List Int, y_ = (x4_1 ++ [bt a0 (ji10)]) := ⟨_, rfl⟩
     replace H : (label_Unescape.l0 kj4 a0 y160 (wrap64 ((ji10) + 1))) = some (r1, r2) := by (rw [hy160]; with_reducible exact H)
     have Ny160 := A_ hy160
     clear hy160
     have H' := A_ H
     clear H
     have p13 : 0 ≤ ((ji10) : Int) := od_
     have q13 : (ji10) < (a0.size : Int) := od_
     have hx13 := bt_at a0 (ji10)
     replace p13 := eq_true p13
     replace q13 := eq_true q13
     go_wp2_with (first | ((with_reducible refine gate_builtin (b := .append) (xs := #[.tmp 39, .tmp 41]) rfl ?_); at_builtin; refine Kd.R_append (Kd.int .u8) (w0 := w) w.heap.size rfl (.tmp 39) (.tmp 41) 72 5 (.int .u8 0) 1 rfl Tryz.underlying72 info5 rfl (by decide) (by omega) u4 x4_1 (bt a0 (ji10)) [.int .u8 (bt a0 (ji10))] (fun _ => True) (fun _ => False) rfl rfl ?aP (fun _ hk => hk.elim) ?aF ?aO ?aB ?aS ?aL ?_; (case aP => exact rfl); (case aB => exact HB.out); (case aF => exact (fun _ _ => trivial)); (case aO => exact (rr_ HO_4.out)); (case aS => exact (below_size HB.out)); (case aL => have := LMc21.out; omega); intro v161 w22 ho hb hg hat; rw [← Ny160.out] at ho; have n0_ := A_ (hb); have n1_ := A_ (ho); clear HB; clear HO_4; have HB := n0_; have HO162 := n1_; clear n0_ n1_; clear ho hb hg hat))
     go_roundg kj4
     case measure => have := HK1.out; have := HJ4.out; omega
     case rel => exact ⟨(y160), (wrap64 ((ji10) + 1)), (by rfl), (by exact H'), ⟨by have := HK1.out; have := HJ4.out; omega⟩, ⟨rr_ HO162.out⟩, ⟨HB.out⟩⟩
end Go.Proofs.YtcikjeiebpmmcaaGreat.PMch
