import Derived.Test.YtdgmgbcjlmighaaDoorPScax3
namespace Go.Proofs.YtdgmgbcjlmighaaDoor.Pure
set_option linter.unusedVariables false
set_option linter.unusedSimpArgs false
open Go.RowKit Go.Proofs.YtdgmgbcjlmighaaDoor.PSca Go.Proofs.YtdgmgbcjlmighaaDoorW.PrintWords Go.Proofs.YtdgmgbcjlmighaaDoorW.PrintLast Go.Proofs.YtdgmgbcjlmighaaDoorW.PrintMore
set_option maxRecDepth 100000 in
theorem known_ok : odometerlaw01_known.f = some true := by kernel_rfl
/-! Long division, bit by bit. -/
theorem dm {X m q r : Nat} (hr : r < m) (h : X = m * q + r) : X / m = q ∧ X % m = r := by
  subst h
  exact ⟨by rw [Nat.mul_add_div (by omega), Nat.div_eq_of_lt hr, Nat.add_zero], by rw [Nat.mul_add_mod, Nat.mod_eq_of_lt hr]⟩
structure Inv (m V whole rest : Nat) (over : Bool) : Prop where
  r : rest = V % m
  w : over = false → whole = V / m
  o : over = true → 18446744073709551616 ≤ V / m
  lt : whole < 18446744073709551616
def dR (m rest : Nat) : Nat := if m ≤ 2 * rest then 2 * rest - m else 2 * rest
def dW (m whole rest : Nat) : Nat := if m ≤ 2 * rest then (2 * whole + 1) % 18446744073709551616 else 2 * whole % 18446744073709551616
def dO (whole : Nat) (over : Bool) : Bool := over || decide (9223372036854775807 < whole)
theorem double {m V whole rest : Nat} {over : Bool} (hm : 0 < m) (h : Inv m V whole rest over) : Inv m (2 * V) (dW m whole rest) (dR m rest) (dO whole over) := by
  have hd := Nat.div_add_mod V m
  have hl := Nat.mod_lt V hm
  rw [← h.r] at hd hl
  have hq : (2 * V) / m = 2 * (V / m) + (if m ≤ 2 * rest then 1 else 0) ∧ (2 * V) % m = dR m rest := by
    unfold dR
    generalize V / m = q at *
    have e : m * (2 * q) = 2 * (m * q) := by rw [Nat.mul_left_comm]
    split
    · refine dm (by omega) ?_
      rw [Nat.mul_add, Nat.mul_one, e]
      omega
    · refine dm (by omega) ?_
      rw [Nat.add_zero, e]
      omega
  refine ⟨hq.2.symm, fun ho => ?_, fun ho => ?_, ?_⟩
  · unfold dO at ho
    rw [Bool.or_eq_false_iff] at ho
    have h1 := h.w ho.1
    have h2 := of_decide_eq_false ho.2
    rw [hq.1, ← h1]
    unfold dW
    split <;> omega
  · unfold dO at ho
    rw [Bool.or_eq_true] at ho
    rw [hq.1]
    rcases ho with ho | ho
    · have := h.o ho
      omega
    · have h2 := of_decide_eq_true ho
      cases hov : over with
      | true => have := h.o hov; omega
      | false => have := h.w hov; omega
  · unfold dW
    split <;> exact Nat.mod_lt _ (by omega)
def aR (m y rest : Nat) : Nat := if m ≤ rest + y % m then rest + y % m - m else rest + y % m
def aS (m y whole : Nat) : Nat := (whole + y / m) % 18446744073709551616
def aW (m y whole rest : Nat) : Nat := if m ≤ rest + y % m then (aS m y whole + 1) % 18446744073709551616 else aS m y whole
def aO (m y whole rest : Nat) (over : Bool) : Bool := if m ≤ rest + y % m then (over || decide (aS m y whole < whole)) || decide (aW m y whole rest = 0) else over || decide (aS m y whole < whole)
theorem added {m V y whole rest : Nat} {over : Bool} (hm : 0 < m) (hy : y < 18446744073709551616) (h : Inv m V whole rest over) : Inv m (V + y) (aW m y whole rest) (aR m y rest) (aO m y whole rest over) := by
  have hd := Nat.div_add_mod V m
  have hl := Nat.mod_lt V hm
  have hd2 := Nat.div_add_mod y m
  have hl2 := Nat.mod_lt y hm
  have hle := Nat.div_le_self y m
  rw [← h.r] at hd hl
  have hlt := h.lt
  have hq : (V + y) / m = V / m + y / m + (if m ≤ rest + y % m then 1 else 0) ∧ (V + y) % m = aR m y rest := by
    unfold aR
    generalize V / m = q at *
    generalize y / m = q2 at *
    have e : m * (q + q2) = m * q + m * q2 := Nat.mul_add _ _ _
    split
    · refine dm (by omega) ?_
      rw [Nat.mul_add m (q + q2), Nat.mul_one, e]
      omega
    · refine dm (by omega) ?_
      rw [Nat.add_zero, e]
      omega
  have n1 : (0 : Int) ≤ (V : Int) / (m : Int) := Int.ediv_nonneg (by omega) (by omega)
  have n2 : (0 : Int) ≤ (y : Int) / (m : Int) := Int.ediv_nonneg (by omega) (by omega)
  have n3 : (y : Int) / (m : Int) < 18446744073709551616 := by
    have : ((y / m : Nat) : Int) < 18446744073709551616 := by omega
    rwa [Int.natCast_ediv] at this
  refine ⟨hq.2.symm, fun ho => ?_, fun ho => ?_, ?_⟩
  · rw [hq.1]
    unfold aO at ho
    unfold aW
    split at ho
    · rename_i hc
      rw [if_pos hc]
      rw [Bool.or_eq_false_iff, Bool.or_eq_false_iff] at ho
      have h1 := h.w ho.1.1
      have h2 := of_decide_eq_false ho.1.2
      have h3 := of_decide_eq_false ho.2
      unfold aW at h3
      rw [if_pos hc] at h3
      rw [if_pos hc, ← h1]
      unfold aS at *
      omega
    · rename_i hc
      rw [if_neg hc]
      rw [Bool.or_eq_false_iff] at ho
      have h1 := h.w ho.1
      have h2 := of_decide_eq_false ho.2
      rw [if_neg hc, ← h1]
      unfold aS at *
      omega
  · rw [hq.1]
    have hov : over = true → 18446744073709551616 ≤ V / m := h.o
    have hw : over = false → whole = V / m := h.w
    have hs : decide (aS m y whole < whole) = true → over = false → 18446744073709551616 ≤ V / m + y / m := by
      intro h1 h2
      have h3 := of_decide_eq_true h1
      rw [← hw h2]
      unfold aS at h3
      omega
    unfold aO at ho
    split at ho
    · rename_i hc
      rw [Bool.or_eq_true, Bool.or_eq_true] at ho
      rw [if_pos hc]
      rcases ho with (ho | ho) | ho
      · have := hov ho; omega
      · cases hc2 : over with
        | true => have := hov hc2; omega
        | false => have := hs ho hc2; omega
      · have h3 := of_decide_eq_true ho
        cases hc2 : over with
        | true => have := hov hc2; omega
        | false =>
          have h4 := hw hc2
          unfold aW at h3
          rw [if_pos hc] at h3
          rw [← h4]
          unfold aS at h3
          omega
    · rename_i hc
      rw [if_neg hc]
      rw [Bool.or_eq_true] at ho
      rcases ho with ho | ho
      · have := hov ho; omega
      · cases hc2 : over with
        | true => have := hov hc2; omega
        | false => have := hs ho hc2; omega
  · unfold aW aS
    split <;> exact Nat.mod_lt _ (by omega)
/-! The rounds. -/
theorem l0_go (m y x whole rest k i : Nat) (neg over : Bool) :
    odometerref01_Scale.l0 (k + 1) m neg x y whole rest over i = odometerref01_Scale.j4 k m neg x y whole rest (dO whole over) i := by
  simp only [odometerref01_Scale.l0]
  rw [if_pos (by omega)]
  cases over with
  | true => rw [if_pos rfl]; rfl
  | false =>
    rw [if_neg (by simp)]
    unfold dO
    rw [Bool.false_or, show decide ((whole : Int) > 9223372036854775807) = decide (9223372036854775807 < whole) from decide_eq_decide.2 (by omega)]
theorem j4_go (m y x whole rest k : Nat) (i : Int) (neg over : Bool) (hm : m < 9223372036854775808) (hr : rest < m) :
    odometerref01_Scale.j4 (k + 1) m neg x y whole rest over i = odometerref01_Scale.j5 k m neg x y (dW m whole rest) (dR m rest) over i := by
  simp only [odometerref01_Scale.j4]
  have e1 : IntKind.u64.wrap ((m : Int) - (rest : Int)) = (m : Int) - rest := by rw [IntKind.wrap_u64]; omega
  rw [e1]
  unfold dW dR
  by_cases h : m ≤ 2 * rest
  · rw [if_pos (by omega), if_pos h, if_pos h]
    have e2 : IntKind.u64.wrap (IntKind.u64.wrap (2 * (whole : Int)) + 1) = (((2 * whole + 1) % 18446744073709551616 : Nat) : Int) := by rw [IntKind.wrap_u64, IntKind.wrap_u64]; omega
    have e3 : IntKind.u64.wrap (IntKind.u64.wrap ((rest : Int) + (rest : Int)) - (m : Int)) = ((2 * rest - m : Nat) : Int) := by rw [IntKind.wrap_u64, IntKind.wrap_u64]; omega
    rw [e2, e3]
  · rw [if_neg (by omega), if_neg h, if_neg h]
    have e2 : IntKind.u64.wrap (2 * (whole : Int)) = ((2 * whole % 18446744073709551616 : Nat) : Int) := by rw [IntKind.wrap_u64]; omega
    have e3 : IntKind.u64.wrap ((rest : Int) + (rest : Int)) = ((2 * rest : Nat) : Int) := by rw [IntKind.wrap_u64]; omega
    rw [e2, e3]
theorem j5_go (m y x whole rest k i : Nat) (neg over : Bool) (hm : m < 9223372036854775808) (hr : rest < m) (hi : i < 64) (hw : whole < 18446744073709551616) (hy : y < 18446744073709551616) :
    odometerref01_Scale.j5 (k + 1) m neg x y whole rest over i = if x / 2 ^ i % 2 = 1 then odometerref01_Scale.l0 k m neg x y (aW m y whole rest) (aR m y rest) (aO m y whole rest over) ((i : Int) - 1)
      else odometerref01_Scale.l0 k m neg x y whole rest over ((i : Int) - 1) := by
  simp only [odometerref01_Scale.j5]
  have e0 : shr .u64 (x : Int) (i : Int) = ((x / 2 ^ i : Nat) : Int) := by
    unfold shr
    rw [Int.toNat_natCast, show min i IntKind.u64.bits = i from Nat.min_eq_left (by show i ≤ 64; omega)]
    push_cast
    rfl
  have e1 : Int.tmod ((x / 2 ^ i : Nat) : Int) 2 = ((x / 2 ^ i % 2 : Nat) : Int) := rfl
  have e2 : Int.tdiv (y : Int) (m : Int) = ((y / m : Nat) : Int) := rfl
  have e3 : Int.tmod (y : Int) (m : Int) = ((y % m : Nat) : Int) := rfl
  have e4 : wrap64 ((i : Int) - 1) = (i : Int) - 1 := by unfold wrap64; omega
  have hl := Nat.mod_lt y (by omega : 0 < m)
  have hle : y / m < 18446744073709551616 := Nat.lt_of_le_of_lt (Nat.div_le_self y m) hy
  rw [if_pos (by omega), e0, e1, e2, e3, e4]
  unfold aW aR aO aW aS
  generalize y / m = a at *
  generalize y % m = b at *
  generalize x / 2 ^ i % 2 = z at *
  have f1 : IntKind.u64.wrap ((m : Int) - (b : Int)) = (m : Int) - b := by rw [IntKind.wrap_u64]; omega
  have f2 : IntKind.u64.wrap (a : Int) = (a : Int) := by rw [IntKind.wrap_u64]; omega
  have f3 : IntKind.u64.wrap ((whole : Int) + (a : Int)) = (((whole + a) % 18446744073709551616 : Nat) : Int) := by rw [IntKind.wrap_u64]; omega
  rw [f1, f2, f3]
  by_cases hz : z = 1
  · rw [if_pos (by omega), if_pos hz, if_neg (by omega)]
    have f4 : IntKind.u64.wrap ((((whole + a) % 18446744073709551616 : Nat) : Int) + 1) = ((((whole + a) % 18446744073709551616 + 1) % 18446744073709551616 : Nat) : Int) := by rw [IntKind.wrap_u64]; omega
    rw [f4]
    generalize hs : (whole + a) % 18446744073709551616 = s at *
    have f7 : decide ((s : Int) < (whole : Int)) = decide (s < whole) := decide_eq_decide.2 (by omega)
    by_cases hc : m ≤ rest + b
    · have f5 : IntKind.u64.wrap ((rest : Int) - ((m : Int) - (b : Int))) = ((rest + b - m : Nat) : Int) := by rw [IntKind.wrap_u64]; omega
      rw [f5, if_pos (by omega : (rest : Int) ≥ (m : Int) - b), if_pos (by omega : (rest : Int) ≥ (m : Int) - b), if_pos hc, if_pos hc, if_pos hc]
      have f6 : ((((s + 1) % 18446744073709551616 : Nat) : Int) == 0) = decide ((s + 1) % 18446744073709551616 = 0) := by
        rw [Bool.eq_iff_iff, beq_iff_eq, decide_eq_true_eq]
        omega
      rw [f6]
      cases over with
      | true => rw [if_pos rfl]; rfl
      | false =>
        rw [if_neg (by simp)]
        by_cases hd : s < whole
        · rw [if_pos (by omega), decide_eq_true hd]; rfl
        · rw [if_neg (by omega), decide_eq_false hd]; rfl
    · have f5 : IntKind.u64.wrap ((rest : Int) + (b : Int)) = ((rest + b : Nat) : Int) := by rw [IntKind.wrap_u64]; omega
      rw [f5, if_neg (by omega : ¬ (rest : Int) ≥ (m : Int) - b), if_neg (by omega : ¬ (rest : Int) ≥ (m : Int) - b), if_neg hc, if_neg hc, if_neg hc, f7]
      cases over with
      | true => rw [if_pos rfl]; rfl
      | false => rw [if_neg (by simp)]; rfl
  · rw [if_neg (by omega), if_neg hz]
theorem l0_run (m y x : Nat) (neg : Bool) (h0 : 0 < m) (hm : m < 9223372036854775808) (hy : y < 18446744073709551616) : ∀ (n k whole rest : Nat) (over : Bool), n ≤ 64 → Inv m (x / 2 ^ n * y) whole rest over →
    ∃ (w r : Nat) (o : Bool), odometerref01_Scale.l0 (k + 3 * n) m neg x y whole rest over ((n : Int) - 1) = odometerref01_Scale.l0 k m neg x y w r o (-1) ∧ Inv m (x * y) w r o
  | 0, k, whole, rest, over, _, h => ⟨whole, rest, over, rfl, by simpa using h⟩
  | n + 1, k, whole, rest, over, hn, h => by
    have hr : rest < m := by rw [h.r]; exact Nat.mod_lt _ h0
    have h2 := double h0 h
    have hr2 : dR m rest < m := by rw [h2.r]; exact Nat.mod_lt _ h0
    have hx : x / 2 ^ n = 2 * (x / 2 ^ (n + 1)) + x / 2 ^ n % 2 := by
      rw [Nat.pow_succ, ← Nat.div_div_eq_div_mul]
      omega
    have e : ((n + 1 : Nat) : Int) - 1 = (n : Int) := by omega
    rw [show k + 3 * (n + 1) = (k + 3 * n) + 2 + 1 by omega, e, l0_go, show k + 3 * n + 2 = (k + 3 * n + 1) + 1 by omega, j4_go _ _ _ _ _ _ _ _ _ hm hr, j5_go _ _ _ _ _ _ _ _ _ hm hr2 (by omega) h2.lt hy]
    rw [← Nat.mul_assoc] at h2
    by_cases hb : x / 2 ^ n % 2 = 1
    · rw [if_pos hb]
      refine l0_run m y x neg h0 hm hy n k _ _ _ (by omega) ?_
      have h3 := added h0 hy h2
      rw [hx, hb, Nat.add_mul, Nat.one_mul]
      exact h3
    · rw [if_neg hb]
      refine l0_run m y x neg h0 hm hy n k _ _ _ (by omega) ?_
      rw [hx, show x / 2 ^ n % 2 = 0 by omega, Nat.add_zero]
      exact h2
/-- What both answer: the quotient and the rest, with a sign, in 64 bits. -/
def scF (neg : Bool) (Q R : Nat) : Int × Bool :=
  if neg = true then (if 9223372036854775808 < (if 0 < R then Q + 1 else Q) then (-9223372036854775808, true) else (-((if 0 < R then Q + 1 else Q : Nat) : Int), false))
  else if 9223372036854775807 < Q then (9223372036854775807, true) else ((Q : Int), false)
theorem tail_go (m y x w r k : Nat) (neg o : Bool) (V : Nat) (h0 : 0 < m) (h : Inv m V w r o) : odometerref01_Scale.l0 (k + 4) m neg x y w r o (-1) = some (scF neg (V / m) (V % m)) := by
  have hr := h.r
  have hw := h.w
  have ho := h.o
  have hl := h.lt
  rw [← hr]
  generalize V / m = Q at *
  clear hr h
  simp only [odometerref01_Scale.l0]
  rw [if_neg (by omega)]
  unfold scF
  cases neg with
  | true =>
    rw [if_pos rfl, if_pos rfl]
    simp only [odometerref01_Scale.j6]
    by_cases hr : 0 < r
    · rw [if_pos (decide_eq_true (by omega)), if_pos hr]
      cases o with
      | true =>
        have := ho rfl
        rw [if_pos rfl, if_pos (by omega)]
        simp only [odometerref01_Scale.j7, odometerref01_Scale.j8]
        rfl
      | false =>
        obtain rfl := hw rfl
        rw [if_neg (by simp)]
        have e : IntKind.u64.wrap ((w : Int) + 1) = (((w + 1) % 18446744073709551616 : Nat) : Int) := by rw [IntKind.wrap_u64]; omega
        rw [e]
        simp only [odometerref01_Scale.j7, odometerref01_Scale.j8, if_true]
        by_cases hz : (w + 1) % 18446744073709551616 = 0
        · rw [hz, if_pos (by rfl), if_pos (by omega)]
        · rw [if_neg (by rw [beq_iff_eq]; omega)]
          by_cases hb : 9223372036854775808 < w + 1
          · rw [if_pos (decide_eq_true (by omega)), if_pos hb]
          · rw [if_neg (by rw [decide_eq_true_eq]; omega), if_neg hb]
            have e2 : wrap64 (IntKind.u64.wrap (-(((w + 1) % 18446744073709551616 : Nat) : Int))) = -((w + 1 : Nat) : Int) := by rw [IntKind.wrap_u64]; unfold wrap64; omega
            rw [e2]
    · rw [if_neg (by rw [decide_eq_true_eq]; omega), if_neg hr]
      simp only [odometerref01_Scale.j7, odometerref01_Scale.j8, if_true]
      cases o with
      | true =>
        have := ho rfl
        rw [if_pos rfl, if_pos (by omega)]
      | false =>
        obtain rfl := hw rfl
        rw [if_neg (by simp)]
        by_cases hb : 9223372036854775808 < w
        · rw [if_pos (decide_eq_true (by omega)), if_pos hb]
        · rw [if_neg (by rw [decide_eq_true_eq]; omega), if_neg hb]
          have e2 : wrap64 (IntKind.u64.wrap (-(w : Int))) = -(w : Int) := by rw [IntKind.wrap_u64]; unfold wrap64; omega
          rw [e2]
  | false =>
    rw [if_neg (by simp), if_neg (by simp)]
    simp only [odometerref01_Scale.j6, odometerref01_Scale.j7, odometerref01_Scale.j8]
    rw [if_neg (by simp), if_neg (by simp), if_neg (by simp), if_neg (by simp)]
    cases o with
    | true =>
      have := ho rfl
      rw [if_pos rfl, if_pos (by omega)]
    | false =>
      obtain rfl := hw rfl
      rw [if_neg (by simp)]
      by_cases hb : 9223372036854775807 < w
      · rw [if_pos (by omega), if_pos hb]
      · rw [if_neg (by omega), if_neg hb]
        have e2 : wrap64 (w : Int) = (w : Int) := by unfold wrap64; omega
        rw [e2]
theorem ref_scale (a b d : Int) (a1 : -9223372036854775808 ≤ a) (a2 : a ≤ 9223372036854775807) (b1 : -9223372036854775808 ≤ b) (b2 : b ≤ 9223372036854775807) (d1 : -9223372036854775808 ≤ d) (d2 : d ≤ 9223372036854775807) :
    odometerref01_Scale.f 300 a b d = some (scF (decide (a < 0) != decide (b < 0)) (a.natAbs * b.natAbs / (max d 1).toNat) (a.natAbs * b.natAbs % (max d 1).toNat)) := by
  have hf : odometerref01_Scale.f 300 a b d = odometerref01_Scale.j0 300 a b ((max d 1).toNat : Nat) := by
    unfold odometerref01_Scale.f
    by_cases h : d < 1
    · rw [if_pos h, show (max d 1).toNat = 1 by omega]; rfl
    · rw [if_neg h, show IntKind.u64.wrap d = (((max d 1).toNat : Nat) : Int) by rw [IntKind.wrap_u64]; omega]
  have hm0 : 0 < (max d 1).toNat := by omega
  have hm : (max d 1).toNat < 9223372036854775808 := by omega
  rw [hf]
  generalize (max d 1).toNat = m at *
  generalize hn : (decide (a < 0) != decide (b < 0)) = neg
  have h1 : odometerref01_Scale.j0 300 a b m = odometerref01_Scale.j1 299 b m neg (a.natAbs : Nat) (IntKind.u64.wrap b) := by
    simp only [odometerref01_Scale.j0]
    rw [hn]
    by_cases h : a < 0
    · rw [if_pos h, show IntKind.u64.wrap (-(IntKind.u64.wrap a)) = ((a.natAbs : Nat) : Int) by rw [IntKind.wrap_u64, IntKind.wrap_u64]; omega]
    · rw [if_neg h, show IntKind.u64.wrap a = ((a.natAbs : Nat) : Int) by rw [IntKind.wrap_u64]; omega]
  have h2 : odometerref01_Scale.j1 299 b m neg (a.natAbs : Nat) (IntKind.u64.wrap b) = odometerref01_Scale.j2 298 m neg (a.natAbs : Nat) (b.natAbs : Nat) := by
    simp only [odometerref01_Scale.j1]
    by_cases h : b < 0
    · rw [if_pos h, show IntKind.u64.wrap (-(IntKind.u64.wrap b)) = ((b.natAbs : Nat) : Int) by rw [IntKind.wrap_u64, IntKind.wrap_u64]; omega]
    · rw [if_neg h, show IntKind.u64.wrap b = ((b.natAbs : Nat) : Int) by rw [IntKind.wrap_u64]; omega]
  have h3 : odometerref01_Scale.j2 298 m neg (a.natAbs : Nat) (b.natAbs : Nat) = odometerref01_Scale.l0 (105 + 3 * 64) m neg (a.natAbs : Nat) (b.natAbs : Nat) (0 : Nat) (0 : Nat) false (((64 : Nat) : Int) - 1) := by
    simp only [odometerref01_Scale.j2]
    rfl
  have ha : a.natAbs / 2 ^ 64 = 0 := Nat.div_eq_of_lt (by have e : (2 : Nat) ^ 64 = 18446744073709551616 := by decide
                                                          omega)
  obtain ⟨w, r, o, h4, h5⟩ := l0_run m b.natAbs a.natAbs neg hm0 hm (by omega) 64 105 0 0 false (by omega) ⟨by rw [ha, Nat.zero_mul, Nat.zero_mod], fun _ => by rw [ha, Nat.zero_mul, Nat.zero_div], (fun h => by cases h), by omega⟩
  rw [h1, h2, h3, h4, tail_go m b.natAbs a.natAbs w r 101 neg o _ hm0 h5]
theorem size_ok (a : Int) (a1 : -9223372036854775808 ≤ a) (a2 : a ≤ 9223372036854775807) : fix_size.f a = some ((a.natAbs : Nat) : Int) := by
  unfold fix_size.f
  by_cases h : a < 0
  · rw [if_pos h, show IntKind.u64.wrap (-(IntKind.u64.wrap a)) = ((a.natAbs : Nat) : Int) by rw [IntKind.wrap_u64, IntKind.wrap_u64]; omega]
  · rw [if_neg h, show IntKind.u64.wrap a = ((a.natAbs : Nat) : Int) by rw [IntKind.wrap_u64]; omega]
theorem j1_go (k : Nat) (n : Bool) (q : Int) (b : Bool) : fix_Scale.j1 (k + 1) n q b = if b = true then fix_Scale.j2 k n (IntKind.u64.wrap (q + 1)) else fix_Scale.j2 k n q := by simp only [fix_Scale.j1]
theorem j2_go (k : Nat) (n : Bool) (q : Int) : fix_Scale.j2 (k + 1) n q = if n = true then fix_Scale.j3 k n q (decide (q > 9223372036854775808)) else fix_Scale.j3 k n q false := by simp only [fix_Scale.j2]
theorem j3_go (k : Nat) (n : Bool) (q : Int) (b : Bool) : fix_Scale.j3 (k + 1) n q b = if b = true then some ((-9223372036854775808), true) else if n = true then some (wrap64 (-wrap64 q), false) else if q > 9223372036854775807 then some (9223372036854775807, true) else some (wrap64 q, false) := by simp only [fix_Scale.j3]
theorem j0_go (k : Nat) (n : Bool) (q r : Int) : fix_Scale.j0 (k + 1) n q r = if n = true then (if r > 0 then fix_Scale.j1 k n q (decide (q < 18446744073709551615)) else fix_Scale.j1 k n q false) else fix_Scale.j1 k n q false := by simp only [fix_Scale.j0]
theorem fix_tail (neg : Bool) (Q R k : Nat) (hQ : Q < 18446744073709551616) : fix_Scale.j0 (k + 4) neg Q R = some (scF neg Q R) := by
  unfold scF
  rw [show k + 4 = (k + 3) + 1 from rfl, j0_go]
  cases neg with
  | true =>
    rw [if_pos rfl, if_pos rfl]
    rw [show k + 3 = (k + 2) + 1 from rfl, j1_go, j1_go]
    by_cases hr : 0 < R
    · rw [if_pos (by omega), if_pos hr]
      by_cases hq : Q < 18446744073709551615
      · rw [if_pos (decide_eq_true (by omega))]
        have e : IntKind.u64.wrap ((Q : Int) + 1) = ((Q + 1 : Nat) : Int) := by rw [IntKind.wrap_u64]; omega
        rw [e]
        rw [show k + 2 = (k + 1) + 1 from rfl, j2_go, if_pos rfl, j3_go]
        by_cases hb : 9223372036854775808 < Q + 1
        · rw [if_pos (decide_eq_true (by omega)), if_pos hb]
        · rw [if_neg (by rw [decide_eq_true_eq]; omega), if_neg hb]
          have e2 : wrap64 (-wrap64 ((Q + 1 : Nat) : Int)) = -((Q + 1 : Nat) : Int) := by unfold wrap64; omega
          rw [e2, if_pos rfl]
      · rw [if_neg (by rw [decide_eq_true_eq]; omega)]
        rw [show k + 2 = (k + 1) + 1 from rfl, j2_go, if_pos rfl, j3_go]
        rw [if_pos (decide_eq_true (by omega)), if_pos (by omega)]
    · rw [if_neg (by omega), if_neg hr, if_neg (by simp)]
      rw [show k + 2 = (k + 1) + 1 from rfl, j2_go, if_pos rfl, j3_go]
      by_cases hb : 9223372036854775808 < Q
      · rw [if_pos (decide_eq_true (by omega)), if_pos hb]
      · rw [if_neg (by rw [decide_eq_true_eq]; omega), if_neg hb]
        have e2 : wrap64 (-wrap64 (Q : Int)) = -(Q : Int) := by unfold wrap64; omega
        rw [e2, if_pos rfl]
  | false =>
    rw [if_neg (by simp), if_neg (by simp)]
    rw [show k + 3 = (k + 2) + 1 from rfl, j1_go, if_neg (by simp), show k + 2 = (k + 1) + 1 from rfl, j2_go, if_neg (by simp), j3_go, if_neg (by simp), if_neg (by simp)]
    by_cases hb : 9223372036854775807 < Q
    · rw [if_pos (by omega), if_pos hb]
    · rw [if_neg (by omega), if_neg hb]
      have e2 : wrap64 (Q : Int) = (Q : Int) := by unfold wrap64; omega
      rw [e2]
/-- Beyond 64 bits the answer is the same, whatever the quotient is. -/
theorem sc_far (neg : Bool) (Q R Q' R' : Nat) (h : 9223372036854775808 < Q) (h' : 9223372036854775808 < Q') : scF neg Q R = scF neg Q' R' := by
  unfold scF
  cases neg with
  | true =>
    rw [if_pos rfl, if_pos rfl, if_pos (by split <;> omega), if_pos (by split <;> omega)]
  | false =>
    rw [if_neg (by simp), if_pos (by omega), if_neg (by simp), if_pos (by omega)]
theorem fix_scale (a b d : Int) (a1 : -9223372036854775808 ≤ a) (a2 : a ≤ 9223372036854775807) (b1 : -9223372036854775808 ≤ b) (b2 : b ≤ 9223372036854775807) (d1 : -9223372036854775808 ≤ d) (d2 : d ≤ 9223372036854775807) :
    fix_Scale.f 300 a b d = some (scF (decide (a < 0) != decide (b < 0)) (a.natAbs * b.natAbs / (max d 1).toNat) (a.natAbs * b.natAbs % (max d 1).toNat)) := by
  unfold fix_Scale.f
  rw [size_ok a a1 a2, size_ok b b1 b2, Option.bind_some, Option.bind_some]
  have hA : a.natAbs < 18446744073709551616 := by omega
  have hB : b.natAbs < 18446744073709551616 := by omega
  have hmx : IntKind.u64.wrap (mx d 1) = (((max d 1).toNat : Nat) : Int) := by rw [IntKind.wrap_u64]; unfold mx; split <;> omega
  have hm0 : 0 < (max d 1).toNat := by omega
  have hm : (max d 1).toNat < 9223372036854775808 := by omega
  rw [hmx]
  generalize (max d 1).toNat = m at *
  generalize (decide (a < 0) != decide (b < 0)) = neg
  have hmul : bits_Mul64.f (a.natAbs : Nat) (b.natAbs : Nat) = some (((a.natAbs * b.natAbs / 18446744073709551616 : Nat) : Int), ((a.natAbs * b.natAbs % 18446744073709551616 : Nat) : Int)) := by
    unfold bits_Mul64.f
    rw [if_pos (by omega), Int.toNat_natCast, Int.toNat_natCast]
  rw [hmul, Option.bind_some]
  generalize a.natAbs * b.natAbs = X at *
  have hdm := Nat.div_add_mod X 18446744073709551616
  have hdiv : bits_Div64.f ((X / 18446744073709551616 : Nat) : Int) ((X % 18446744073709551616 : Nat) : Int) (m : Int) = if X / 18446744073709551616 < m then some (((X / m : Nat) : Int), ((X % m : Nat) : Int)) else none := by
    unfold bits_Div64.f
    by_cases h : X / 18446744073709551616 < m
    · rw [if_pos (by omega), if_pos h, Int.toNat_natCast, Int.toNat_natCast, Int.toNat_natCast, show X / 18446744073709551616 * 18446744073709551616 + X % 18446744073709551616 = X by omega]
    · rw [if_neg (by omega), if_neg h]
  show (if ((X / 18446744073709551616 : Nat) : Int) < (m : Int) then _ else _) = _
  by_cases h : X / 18446744073709551616 < m
  · rw [if_pos (by omega), hdiv, if_pos h, Option.bind_some]
    refine fix_tail neg (X / m) (X % m) 296 (Nat.div_lt_of_lt_mul ?_)
    rw [Nat.mul_comm]
    omega
  · rw [if_neg (by omega)]
    have hq : 18446744073709551616 ≤ X / m := by
      rw [Nat.le_div_iff_mul_le hm0]
      omega
    rw [show (18446744073709551615 : Int) = ((18446744073709551615 : Nat) : Int) from rfl, show (0 : Int) = ((0 : Nat) : Int) from rfl, fix_tail neg 18446744073709551615 0 296 (by omega)]
    rw [sc_far neg 18446744073709551615 0 (X / m) (X % m) (by omega) (by omega)]
theorem FixScales : odometerlaw01_FixScales.Pure := by
  intro a b d ha hb hd
  have ba := bounds_i64 ha
  have bb := bounds_i64 hb
  have bd := bounds_i64 hd
  refine ⟨300, ?_⟩
  unfold odometerlaw01_FixScales.f
  rw [fix_scale a b d ba.1 ba.2 bb.1 bb.2 bd.1 bd.2, ref_scale a b d ba.1 ba.2 bb.1 bb.2 bd.1 bd.2, known_ok]
  simp
end Go.Proofs.YtdgmgbcjlmighaaDoor.Pure
