import Derived.Test.YtdgmgbcjlmighaaDoorPTexx2
import Derived.Test.YtdgmgbcjlmighaaDoorGNums
namespace Go.Proofs.YtdgmgbcjlmighaaDoor.Pure
open Go.RowKit Go.Proofs.YtdgmgbcjlmighaaDoor Go.Proofs.YtdgmgbcjlmighaaDoor.PTex Go.Proofs.YtdgmgbcjlmighaaDoorW.PrintWords Go.Proofs.YtdgmgbcjlmighaaDoorW.PrintLast Go.Proofs.YtdgmgbcjlmighaaDoorW.PrintMore
set_option linter.unusedVariables false
set_option linter.unusedSimpArgs false
set_option maxRecDepth 100000 in
theorem known_ok : odometerlaw01_known.f = some true := by kernel_rfl
/-- Bytes. -/
abbrev mkB (l : List UInt8) : ByteArray := ⟨l.toArray⟩
theorem mkB_size (l : List UInt8) : (mkB l).size = l.length := by simp [ByteArray.size]
theorem mkB_append (a b : List UInt8) : mkB a ++ mkB b = mkB (a ++ b) := by
  apply ByteArray.ext
  rw [ByteArray.data_append]
  simp
theorem mkB_data (l : List UInt8) : (mkB l).data.toList = l := by simp
theorem mkB_toList (l : List UInt8) : (mkB l).toList = l := by rw [ByteArray.toList_eq]
theorem mkB_tail (l : List UInt8) : (mkB l).extract 1 (mkB l).size = mkB (l.drop 1) := by
  apply ByteArray.ext
  rw [ByteArray.data_extract, mkB_size]
  apply Array.ext'
  simp only [List.extract_toArray, List.extract_eq_take_drop]
  rw [List.take_of_length_le (by simp)]
def dgt (n : Nat) : UInt8 := UInt8.ofNat (48 + n % 10)
theorem dgt_nat (n : Nat) : (dgt n).toNat = 48 + n % 10 := by unfold dgt; simp; omega
theorem dgt_dig (n : Nat) : 48 ≤ (dgt n).toNat ∧ (dgt n).toNat ≤ 57 := by rw [dgt_nat]; omega
/-! Digits of a number. -/
def pad : Nat → Nat → List UInt8
  | 0, _ => []
  | j + 1, p => pad j (p / 10) ++ [dgt p]
theorem pad_len : ∀ j p, (pad j p).length = j
  | 0, _ => rfl
  | j + 1, p => by rw [pad, List.length_append, pad_len j]; rfl
theorem pad_dig : ∀ j p, Dig (pad j p)
  | 0, _ => Dig.nil
  | j + 1, p => (pad_dig j _).append (fun c hc => by rw [List.mem_singleton.1 hc]; exact dgt_dig p)
theorem natOf_one (c : UInt8) : natOf [c] = c.toNat - 48 := by simp [natOf]
theorem natOf_pad : ∀ j p, p < 10 ^ j → natOf (pad j p) = p
  | 0, p, h => by simp at h; subst h; rfl
  | j + 1, p, h => by
    rw [pad, natOf_append, natOf_pad j (p / 10) (by rw [Nat.pow_succ] at h; omega), natOf_one, dgt_nat]
    simp
    omega
theorem dec_small {u : Nat} (h : u < 10) : Lib.decDigits u = [dgt u] := by
  rw [Lib.decDigits, dif_pos h]
  unfold dgt
  rw [Nat.mod_eq_of_lt h]
theorem dec_big {u : Nat} (h : ¬ u < 10) : Lib.decDigits u = Lib.decDigits (u / 10) ++ [dgt u] := by
  rw [Lib.decDigits, dif_neg h]
  rfl
theorem dec_pad : ∀ j p, p < 10 ^ j → Lib.decDigits (10 ^ j + p) = 49 :: pad j p
  | 0, p, h => by
    simp at h
    subst h
    rw [dec_small (by decide)]
    rfl
  | j + 1, p, h => by
    have hp : 0 < 10 ^ j := Nat.pow_pos (by omega)
    rw [Nat.pow_succ] at h ⊢
    rw [dec_big (by omega), show (10 ^ j * 10 + p) / 10 = 10 ^ j + p / 10 by omega, dec_pad j (p / 10) (by omega), pad]
    unfold dgt
    rw [show (10 ^ j * 10 + p) % 10 = p % 10 by omega]
    rfl
theorem dec_dig (u : Nat) : Dig (Lib.decDigits u) := by
  induction u using Nat.strongRecOn with
  | _ u ih =>
    by_cases h : u < 10
    · rw [dec_small h]
      exact fun c hc => by rw [List.mem_singleton.1 hc]; exact dgt_dig u
    · rw [dec_big h]
      exact (ih (u / 10) (by omega)).append (fun c hc => by rw [List.mem_singleton.1 hc]; exact dgt_dig u)
theorem dec_val (u : Nat) : natOf (Lib.decDigits u) = u := by
  induction u using Nat.strongRecOn with
  | _ u ih =>
    by_cases h : u < 10
    · rw [dec_small h, natOf_one, dgt_nat]
      omega
    · rw [dec_big h, natOf_append, ih (u / 10) (by omega), natOf_one, dgt_nat]
      simp
      omega
theorem dec_ne (u : Nat) : Lib.decDigits u ≠ [] := by
  intro h
  have := Lib.decDigits_length u
  rw [h] at this
  have h2 := Lib.nDigits_pos u
  simp at this
  omega
theorem dec_len {u j : Nat} (h : u < 10 ^ (j + 1)) : (Lib.decDigits u).length ≤ j + 1 := by
  rw [Lib.decDigits_length]
  induction j generalizing u with
  | zero => rw [Lib.nDigits_small (by simpa using h)]; exact Nat.le_refl _
  | succ j ih =>
    by_cases h2 : u < 10
    · rw [Lib.nDigits_small h2]; omega
    · rw [Lib.nDigits_big h2]
      have := ih (u := u / 10) (by rw [Nat.pow_succ] at h; omega)
      omega
theorem trimR_zero (l : List UInt8) : Lib.trimRightB (l ++ [48]) 48 = Lib.trimRightB l 48 := by
  unfold Lib.trimRightB
  rw [List.reverse_append, List.reverse_singleton, List.singleton_append, List.dropWhile_cons, if_pos (by rfl)]
theorem trimR_some (l : List UInt8) (c : UInt8) (h : c ≠ 48) : Lib.trimRightB (l ++ [c]) 48 = l ++ [c] := by
  unfold Lib.trimRightB
  rw [List.reverse_append, List.reverse_singleton, List.singleton_append, List.dropWhile_cons, if_neg (by simpa using h)]
  simp
/-- The digits behind the point. -/
def fracL (p : Nat) : List UInt8 := Lib.trimRightB (pad 6 p) 48
def gF : Nat → Nat → List UInt8 → List UInt8
  | 0, _, acc => acc
  | j + 1, p, acc => gF j (p / 10) (if 0 < p % 10 ∨ acc ≠ [] then dgt p :: acc else acc)
theorem gF_some : ∀ j p acc, acc ≠ [] → gF j p acc = pad j p ++ acc
  | 0, _, _, _ => rfl
  | j + 1, p, acc, h => by
    rw [gF, if_pos (Or.inr h), gF_some j _ _ (by simp), pad, List.append_assoc, List.singleton_append]
theorem gF_nil : ∀ j p, gF j p [] = Lib.trimRightB (pad j p) 48
  | 0, _ => rfl
  | j + 1, p => by
    rw [gF, pad]
    by_cases h : 0 < p % 10
    · rw [if_pos (Or.inl h), gF_some j _ _ (by simp), trimR_some]
      intro e
      have := dgt_nat p
      rw [e] at this
      simp at this
      omega
    · rw [if_neg (by simp; omega), gF_nil j, show dgt p = 48 by unfold dgt; rw [show p % 10 = 0 by omega]; rfl, trimR_zero]
theorem frac_parts (p : Nat) (h : p < 1000000) : Dig (fracL p) ∧ (fracL p).length ≤ 6 ∧ natOf (fracL p) * 1000000 = p * 10 ^ (fracL p).length ∧ (p = 0 ↔ fracL p = []) := by
  obtain ⟨t, ht⟩ := trimR_parts (pad 6 p)
  have hl := pad_len 6 p
  have hv := natOf_pad 6 p (by omega)
  have hd := pad_dig 6 p
  rw [ht] at hl hv hd
  change (fracL p ++ _).length = 6 at hl
  change natOf (fracL p ++ _) = p at hv
  change Dig (fracL p ++ _) at hd
  rw [List.length_append, rep_len] at hl
  rw [natOf_append, natOf_zeros, rep_len, Nat.add_zero] at hv
  have hE : natOf (fracL p) * 1000000 = p * 10 ^ (fracL p).length := by
    rw [show (1000000 : Nat) = 10 ^ 6 by decide, ← hl, Nat.add_comm, Nat.pow_add, ← Nat.mul_assoc, hv]
  refine ⟨fun c hc => hd c (List.mem_append_left _ hc), by omega, hE, fun h0 => ?_, fun h0 => ?_⟩
  · subst h0
    decide +kernel
  · rw [h0] at hE
    simp [natOf] at hE
    omega
/-- A number's text. -/
def textL (neg : Bool) (u : Nat) : List UInt8 := signL neg ++ (Lib.decDigits (u / 1000000) ++ (if u % 1000000 = 0 then [] else 46 :: fracL (u % 1000000)))
theorem text_len (neg : Bool) (u : Nat) (hu : u < 18446744073709551616) : (textL neg u).length ≤ 40 := by
  have h1 := dec_len (u := u / 1000000) (j := 19) (by omega)
  have h2 := (frac_parts (u % 1000000) (Nat.mod_lt _ (by omega))).2.1
  unfold textL signL
  rw [List.length_append, List.length_append]
  split <;> split <;> simp <;> omega
/-! The program's text. -/
theorem size_ok (a : Int) (a1 : -9223372036854775808 ≤ a) (a2 : a ≤ 9223372036854775807) : fix_size.f a = some ((a.natAbs : Nat) : Int) := by
  unfold fix_size.f
  by_cases h : a < 0
  · rw [if_pos h, show IntKind.u64.wrap (-(IntKind.u64.wrap a)) = ((a.natAbs : Nat) : Int) by rw [IntKind.wrap_u64, IntKind.wrap_u64]; omega]
  · rw [if_neg h, show IntKind.u64.wrap a = ((a.natAbs : Nat) : Int) by rw [IntKind.wrap_u64]; omega]
theorem fmt_ok (u : Nat) (h : u < 18446744073709551616) : strconv_FormatUint.f (u : Int) 10 = some (mkB (Lib.decDigits u)) := by
  unfold strconv_FormatUint.f
  rw [if_pos ⟨by omega, rfl⟩, Int.toNat_natCast]
theorem neg_decide (a : Int) : (if a < 0 then (true : Bool) else false) = decide (a < 0) := by by_cases h : a < 0 <;> simp [h]
theorem text_ok (a : Int) (a1 : -9223372036854775808 ≤ a) (a2 : a ≤ 9223372036854775807) : fix_Text.f a = some (mkB (textL (decide (a < 0)) a.natAbs)) := by
  have hu : a.natAbs < 18446744073709551616 := by omega
  have hl := text_len (decide (a < 0)) a.natAbs hu
  unfold fix_Text.f
  rw [size_ok a a1 a2, Option.bind_some]
  have e1 : IntKind.u64.wrap (Int.tdiv ((a.natAbs : Nat) : Int) 1000000) = ((a.natAbs / 1000000 : Nat) : Int) := by
    rw [show Int.tdiv ((a.natAbs : Nat) : Int) 1000000 = ((a.natAbs / 1000000 : Nat) : Int) from rfl, IntKind.wrap_u64]
    omega
  have e2 : Int.tmod ((a.natAbs : Nat) : Int) 1000000 = ((a.natAbs % 1000000 : Nat) : Int) := rfl
  have hp : a.natAbs % 1000000 < 1000000 := Nat.mod_lt _ (by omega)
  have e3 : IntKind.u64.wrap (1000000 + ((a.natAbs % 1000000 : Nat) : Int)) = ((10 ^ 6 + a.natAbs % 1000000 : Nat) : Int) := by
    rw [IntKind.wrap_u64]
    omega
  rw [e1, e2, e3, fmt_ok _ (by omega), Option.bind_some]
  unfold textL at hl ⊢
  generalize a.natAbs / 1000000 = q at *
  generalize a.natAbs % 1000000 = p at *
  by_cases h0 : p = 0
  · rw [if_neg (by omega), if_pos h0, List.append_nil]
    rw [if_pos h0, List.append_nil] at hl
    by_cases hn : a < 0
    · rw [if_pos hn, decide_eq_true hn]
      rw [decide_eq_true hn] at hl
      rw [if_pos (by rw [mkB_size]; simp [signL] at hl; omega)]
      show some (mkB [45] ++ mkB (Lib.decDigits q)) = _
      rw [mkB_append]
      rfl
    · rw [if_neg hn, decide_eq_false hn]
      rfl
  · rw [if_pos (by omega), if_neg h0]
    rw [if_neg h0] at hl
    have hf := frac_parts p hp
    rw [fmt_ok _ (by omega), Option.bind_some, dec_pad 6 p (by omega), if_pos (by rw [mkB_size, List.length_cons]; omega), mkB_tail]
    have ht : strings_TrimRight.f (mkB (List.drop 1 (49 :: pad 6 p))) (mkB [48]) = some (mkB (fracL p)) := by
      unfold strings_TrimRight.f
      rw [if_pos ⟨by rw [mkB_size]; simp [pad_len], rfl⟩]
      simp [fracL]
    rw [show (⟨#[48]⟩ : ByteArray) = mkB [48] from rfl, ht, Option.bind_some]
    rw [show (⟨#[46]⟩ : ByteArray) = mkB [46] from rfl, mkB_append, mkB_append, if_pos (by rw [mkB_size]; omega), if_pos (by rw [mkB_size, mkB_size]; simp at hl ⊢; omega)]
    by_cases hn : a < 0
    · rw [if_pos hn, decide_eq_true hn]
      rw [if_pos (by rw [mkB_size]; simp at hl ⊢; omega), show (⟨#[45]⟩ : ByteArray) = mkB [45] from rfl, mkB_append]
      rfl
    · rw [if_neg hn, decide_eq_false hn]
      rfl
/-! The reference's text. -/
theorem one_digit (v : Nat) (hv : v < 18446744073709551616) : strOfNums [IntKind.u64.wrap (48 + Int.tmod (v : Int) 10) % 256] = mkB [dgt v] := by
  have e : IntKind.u64.wrap (48 + Int.tmod (v : Int) 10) % 256 = ((48 + v % 10 : Nat) : Int) := by
    rw [show Int.tmod (v : Int) 10 = ((v % 10 : Nat) : Int) from rfl, IntKind.wrap_u64]
    omega
  rw [e]
  rfl
theorem digits_run : ∀ (j k v : Nat) (x : Int) (acc : List UInt8), ¬ x < 0 → v < 10 ^ j → v < 18446744073709551616 → 0 < v → acc.length + j ≤ 1000 → odometerref01_Digits.l0 (k + j + 1) x v (mkB acc) = some (mkB (Lib.decDigits v ++ acc))
  | 0, k, v, x, acc, hx, h, hv, h0, hl => by simp at h; omega
  | j + 1, k, v, x, acc, hx, h, hv, h0, hl => by
    rw [show k + (j + 1) + 1 = (k + j + 1) + 1 by omega]
    obtain ⟨K, hK⟩ : ∃ K, K = k + j + 1 := ⟨_, rfl⟩
    rw [← hK]
    simp only [odometerref01_Digits.l0]
    have ed : IntKind.u64.wrap (Int.tdiv (v : Int) 10) = ((v / 10 : Nat) : Int) := by
      rw [show Int.tdiv (v : Int) 10 = ((v / 10 : Nat) : Int) from rfl, IntKind.wrap_u64]
      omega
    rw [if_pos (by omega), Option.bind_some, one_digit v hv, ed, mkB_append, if_pos (by rw [mkB_size, mkB_size]; simp; omega)]
    by_cases h1 : v < 10
    · rw [show v / 10 = 0 by omega, dec_small h1, hK]
      simp only [odometerref01_Digits.l0]
      rw [if_neg (by omega), if_neg (by rw [mkB_toList]; simp), if_neg hx]
    · rw [hK, digits_run j k (v / 10) x ([dgt v] ++ acc) hx (by rw [Nat.pow_succ] at h; omega) (by omega) (by omega) (by simp; omega), dec_big h1, List.append_assoc]
theorem digits_ok (q k : Nat) (hq : q < 9223372036854775808) : odometerref01_Digits.f (k + 30) (q : Int) = some (mkB (Lib.decDigits q)) := by
  unfold odometerref01_Digits.f
  rw [if_neg (by omega), show IntKind.u64.wrap (q : Int) = (q : Int) by rw [IntKind.wrap_u64]; omega, show k + 30 = (k + 29) + 1 from rfl]
  simp only [odometerref01_Digits.j0]
  rcases Nat.eq_zero_or_pos q with h0 | h0
  · subst h0
    obtain ⟨K, hK⟩ : ∃ K, K = k + 28 := ⟨_, rfl⟩
    rw [show k + 29 = K + 1 by omega, show (⟨#[]⟩ : ByteArray) = mkB [] from rfl]
    simp only [odometerref01_Digits.l0]
    have e1 := one_digit 0 (by omega)
    rw [if_neg (by omega), if_pos (mkB_toList []), Option.bind_some, e1, mkB_append, if_pos (by rw [mkB_size, mkB_size]; decide), show IntKind.u64.wrap (Int.tdiv (((0 : Nat) : Int)) 10) = 0 from rfl, hK]
    obtain ⟨K2, hK2⟩ : ∃ K2, K2 = k + 27 := ⟨_, rfl⟩
    rw [show k + 28 = K2 + 1 by omega]
    simp only [odometerref01_Digits.l0]
    rw [if_neg (by omega), if_neg (by rw [mkB_toList]; simp), if_neg (by omega), dec_small (by omega), List.append_nil]
  · have := digits_run 20 (k + 8) q (q : Int) [] (by omega) (by omega) (by omega) h0 (by simp)
    rw [List.append_nil] at this
    rw [show k + 29 = k + 8 + 20 + 1 from rfl, show (⟨#[]⟩ : ByteArray) = mkB [] from rfl, this]
theorem tl_run : ∀ (j k p : Nat) (x3 : Int) (x4 : ByteArray) (acc : List UInt8) (i : Nat), i + j = 6 → p < 1000000 → acc.length + j ≤ 100 → odometerref01_Text.l0 (k + j) x3 x4 p (mkB acc) i = odometerref01_Text.l0 k x3 x4 (p / 10 ^ j : Nat) (mkB (gF j p acc)) 6
  | 0, k, p, x3, x4, acc, i, hi, hp, hl => by
    obtain rfl : i = 6 := by omega
    simp [gF]
  | j + 1, k, p, x3, x4, acc, i, hi, hp, hl => by
    rw [show k + (j + 1) = (k + j) + 1 by omega]
    have ed : IntKind.u64.wrap (Int.tdiv (p : Int) 10) = ((p / 10 : Nat) : Int) := by
      rw [show Int.tdiv (p : Int) 10 = ((p / 10 : Nat) : Int) from rfl, IntKind.wrap_u64]
      omega
    have ei : wrap64 ((i : Int) + 1) = ((i + 1 : Nat) : Int) := by unfold wrap64; omega
    have em : Int.tmod (p : Int) 10 = ((p % 10 : Nat) : Int) := rfl
    have hpw : p / 10 ^ (j + 1) = p / 10 / 10 ^ j := by rw [Nat.pow_succ, Nat.mul_comm, ← Nat.div_div_eq_div_mul]
    rw [hpw, gF]
    have ih1 := tl_run j k (p / 10) x3 x4 (dgt p :: acc) (i + 1) (by omega) (by omega) (by simp; omega)
    have ih2 := tl_run j k (p / 10) x3 x4 acc (i + 1) (by omega) (by omega) (by omega)
    have h1d := one_digit p (by omega)
    conv => lhs; simp only [odometerref01_Text.l0]
    rw [if_pos (by omega), Option.bind_some, h1d, ed, ei, mkB_append]
    by_cases h : 0 < p % 10
    · rw [if_pos (by rw [em]; omega), if_pos (Or.inl h), if_pos (by rw [mkB_size, mkB_size]; simp; omega)]
      exact ih1
    · rw [if_neg (by rw [em]; omega)]
      by_cases ha : acc = []
      · rw [if_pos (by rw [mkB_toList]; exact ha), if_neg (by rw [ha]; simp; omega)]
        exact ih2
      · rw [if_neg (by rw [mkB_toList]; exact ha), if_pos (Or.inr ha), if_pos (by rw [mkB_size, mkB_size]; simp; omega)]
        exact ih1
theorem ref_tail (u k : Nat) (neg : Bool) (hu : u < 18446744073709551616) : odometerref01_Text.l0 (k + 31) u (mkB (signL neg)) (0 : Nat) (mkB (fracL (u % 1000000))) 6 = some (mkB (textL neg u)) := by
  have hl := text_len neg u hu
  have hp : u % 1000000 < 1000000 := Nat.mod_lt _ (by omega)
  have hf := frac_parts (u % 1000000) hp
  have eq : wrap64 (IntKind.u64.wrap (Int.tdiv (u : Int) 1000000)) = ((u / 1000000 : Nat) : Int) := by
    rw [show Int.tdiv (u : Int) 1000000 = ((u / 1000000 : Nat) : Int) from rfl, IntKind.wrap_u64]
    unfold wrap64
    omega
  obtain ⟨K, hK⟩ : ∃ K, K = k + 30 := ⟨_, rfl⟩
  rw [show k + 31 = K + 1 by omega]
  simp only [odometerref01_Text.l0]
  rw [if_neg (by omega), hK, eq, digits_ok (u / 1000000) k (by omega), Option.bind_some, Option.bind_some]
  unfold textL at hl ⊢
  by_cases h0 : u % 1000000 = 0
  · rw [if_pos (by rw [mkB_toList]; exact hf.2.2.2.1 h0), if_pos h0]
    rw [if_pos h0] at hl
    rw [hf.2.2.2.1 h0, mkB_append, mkB_append, if_pos (by rw [mkB_size, mkB_size]; simp at hl; omega), if_pos (by rw [mkB_size, mkB_size]; simp at hl ⊢; omega), List.append_assoc]
  · have hne : fracL (u % 1000000) ≠ [] := fun e => h0 (hf.2.2.2.2 e)
    rw [if_neg (by rw [mkB_toList]; exact hne), if_neg h0]
    rw [if_neg h0] at hl
    simp only [List.length_append, List.length_cons] at hl
    rw [if_pos (by rw [mkB_size]; omega), show (⟨#[46]⟩ : ByteArray) = mkB [46] from rfl, mkB_append, mkB_append, mkB_append, if_pos (by rw [mkB_size, mkB_size]; omega), if_pos (by rw [mkB_size, mkB_size]; simp; omega), List.append_assoc]
    rfl
theorem ref_text (a : Int) (k : Nat) (a1 : -9223372036854775808 ≤ a) (a2 : a ≤ 9223372036854775807) : odometerref01_Text.f (k + 38) a = some (mkB (textL (decide (a < 0)) a.natAbs)) := by
  have hu : a.natAbs < 18446744073709551616 := by omega
  have hj : ∀ neg, odometerref01_Text.j0 (k + 38) ((a.natAbs : Nat) : Int) (mkB (signL neg)) = some (mkB (textL neg a.natAbs)) := by
    intro neg
    rw [show k + 38 = (k + 37) + 1 from rfl]
    simp only [odometerref01_Text.j0]
    have h1 := tl_run 6 (k + 31) (a.natAbs % 1000000) ((a.natAbs : Nat) : Int) (mkB (signL neg)) [] 0 rfl (Nat.mod_lt _ (by omega)) (by simp)
    rw [gF_nil, show a.natAbs % 1000000 / 10 ^ 6 = 0 from Nat.div_eq_of_lt (Nat.mod_lt _ (by omega))] at h1
    have h2 := ref_tail a.natAbs k neg hu
    rw [show Int.tmod ((a.natAbs : Nat) : Int) 1000000 = ((a.natAbs % 1000000 : Nat) : Int) from rfl]
    exact h1.trans h2
  unfold odometerref01_Text.f
  by_cases h : a < 0
  · rw [if_pos h, show IntKind.u64.wrap (-(IntKind.u64.wrap a)) = ((a.natAbs : Nat) : Int) by rw [IntKind.wrap_u64, IntKind.wrap_u64]; omega, decide_eq_true h]
    exact hj true
  · rw [if_neg h, show IntKind.u64.wrap a = ((a.natAbs : Nat) : Int) by rw [IntKind.wrap_u64]; omega, decide_eq_false h]
    exact hj false
/-! What the texts come to. -/
theorem signed_ok (a : Int) (a1 : -9223372036854775808 ≤ a) (a2 : a ≤ 9223372036854775807) : (if a.natAbs = 0 then ((0 : Int), (0 : Int)) else signedF a.natAbs (decide (a < 0))) = (a, 0) := by
  by_cases h0 : a.natAbs = 0
  · rw [if_pos h0, show a = 0 by omega]
  · rw [if_neg h0]
    unfold signedF
    by_cases h : a < 0
    · rw [if_pos ⟨decide_eq_true h, by omega⟩, show -((a.natAbs : Nat) : Int) = a by omega]
    · rw [if_neg (by rw [decide_eq_false h]; simp), if_pos ⟨decide_eq_false h, by omega⟩, show ((a.natAbs : Nat) : Int) = a by omega]
theorem parse_gen (a : Int) (D E : List UInt8) (b : Bool) (a1 : -9223372036854775808 ≤ a) (a2 : a ≤ 9223372036854775807) (hD : Dig D) (h0 : D ≠ []) (hE : Dig E) (hl : D.length + E.length ≤ 1000)
    (hv : natOf (D ++ E) * 1000000 = a.natAbs * 10 ^ E.length) : parseF (signL (decide (a < 0)) ++ (D ++ (46 :: E ++ expL b))) = (a, 0) := by
  unfold parseF
  rw [not_word _ D _ hD h0, if_neg (by simp), parts_point _ D E b hD h0 hE]
  show numF _ _ _ = _
  rw [numF_val _ (D ++ E) E.length a.natAbs (hD.append hE) (by omega) hv (by rw [List.length_append]; omega)]
  exact signed_ok a a1 a2
theorem parse_plain (a : Int) (D : List UInt8) (a1 : -9223372036854775808 ≤ a) (a2 : a ≤ 9223372036854775807) (hD : Dig D) (h0 : D ≠ []) (hl : D.length ≤ 1000)
    (hv : natOf D * 1000000 = a.natAbs) : parseF (signL (decide (a < 0)) ++ D) = (a, 0) := by
  unfold parseF
  have hw := not_word (decide (a < 0)) D [] hD h0
  rw [List.append_nil] at hw
  rw [hw, if_neg (by simp), parts_plain _ D hD h0]
  show numF _ _ _ = _
  have := numF_val (decide (a < 0)) D 0 a.natAbs hD (by omega) (by rw [Nat.pow_zero, Nat.mul_one]; exact hv) (by omega)
  rw [show -(((0 : Nat)) : Int) = 0 from rfl] at this
  rw [this]
  exact signed_ok a a1 a2
def Asc (l : List UInt8) : Prop := ∀ c ∈ l, c.toNat < 128
theorem Dig.asc {l : List UInt8} (h : Dig l) : Asc l := fun c hc => by have := h c hc; omega
theorem Asc.append {a b : List UInt8} (h : Asc a) (k : Asc b) : Asc (a ++ b) := fun c hc => (List.mem_append.1 hc).elim (h c) (k c)
theorem asc_sign (neg : Bool) : Asc (signL neg) := by cases neg <;> (intro c hc; simp [signL] at hc; try (subst hc; decide))
theorem asc_exp (b : Bool) : Asc (46 :: expL b) := by
  cases b <;> (intro c hc; simp [expL] at hc; rcases hc with rfl | rfl | rfl | rfl | rfl <;> decide)
theorem parsed {l : List UInt8} {a : Int} (hl : l.length ≤ 1000000) (ha : Asc l) (h : parseF l = (a, 0)) : fix_Parse.f (mkB l) = some (a, 0) := by
  unfold fix_Parse.f
  rw [if_pos ⟨by rw [mkB_size]; exact hl, by rw [mkB_data, List.all_eq_true]; exact fun c hc => decide_eq_true (ha c hc)⟩, mkB_data, h]
theorem read_ok {t : ByteArray} {a : Int} (h : fix_Parse.f t = some (a, 0)) : odometerlaw01_reads.f t a = some true := by
  unfold odometerlaw01_reads.f
  rw [h, Option.bind_some]
  simp
theorem rep_dig : ∀ n, Dig (Lib.repeatL [48] n)
  | 0 => Dig.nil
  | n + 1 => fun c hc => (List.mem_append.1 hc).elim (fun h => by rw [List.mem_singleton.1 h]; decide) (rep_dig n c)
theorem rep_comm : ∀ n, Lib.repeatL [48] n ++ [48] = 48 :: Lib.repeatL [48] n
  | 0 => rfl
  | n + 1 => by
    show 48 :: (Lib.repeatL [48] n ++ [48]) = _
    rw [rep_comm n]
    rfl
/-- With zeros ahead and behind. -/
def midL (u z : Nat) : List UInt8 := Lib.repeatL [48] z ++ Lib.decDigits (u / 1000000) ++ 46 :: (fracL (u % 1000000) ++ Lib.repeatL [48] z)
theorem mid_parse (a : Int) (z : Nat) (b : Bool) (a1 : -9223372036854775808 ≤ a) (a2 : a ≤ 9223372036854775807) (hz : z ≤ 40) : parseF (signL (decide (a < 0)) ++ midL a.natAbs z ++ expL b) = (a, 0) := by
  have hf := frac_parts (a.natAbs % 1000000) (Nat.mod_lt _ (by omega))
  have hu := Nat.div_add_mod a.natAbs 1000000
  have hlen := dec_len (u := a.natAbs / 1000000) (j := 19) (by omega)
  have h := parse_gen a (Lib.repeatL [48] z ++ Lib.decDigits (a.natAbs / 1000000)) (fracL (a.natAbs % 1000000) ++ Lib.repeatL [48] z) b a1 a2 ((rep_dig z).append (dec_dig _)) (by simp [dec_ne]) (hf.1.append (rep_dig z))
    (by rw [List.length_append, List.length_append, rep_len]; omega) (by
      rw [natOf_append, natOf_append, natOf_append, natOf_zeros, dec_val, List.length_append, rep_len, Nat.zero_mul, Nat.zero_add, Nat.add_zero, Nat.pow_add, Nat.add_mul]
      rw [Nat.mul_right_comm (natOf _), hf.2.2.1]
      generalize (fracL (a.natAbs % 1000000)).length = j at *
      generalize a.natAbs / 1000000 = q at *
      generalize a.natAbs % 1000000 = p at *
      rw [← hu, Nat.mul_assoc p, Nat.add_mul, Nat.mul_right_comm q, Nat.mul_comm q])
  unfold midL
  rw [← h]
  simp only [List.append_assoc, List.cons_append]
theorem mid_len (u z : Nat) (hu : u < 18446744073709551616) (hz : z ≤ 40) : (midL u z).length ≤ 110 := by
  have hf := frac_parts (u % 1000000) (Nat.mod_lt _ (by omega))
  have hlen := dec_len (u := u / 1000000) (j := 19) (by omega)
  unfold midL
  simp only [List.length_append, List.length_cons, rep_len]
  omega
theorem mid_asc (u z : Nat) : Asc (midL u z) := by
  have hf := frac_parts (u % 1000000) (Nat.mod_lt _ (by omega))
  unfold midL
  refine Asc.append (Dig.asc (Dig.append (rep_dig z) (dec_dig _))) ?_
  intro c hc
  rcases List.mem_cons.1 hc with rfl | hc
  · decide
  · exact Dig.asc (Dig.append hf.1 (rep_dig z)) c hc
theorem text_parse (a : Int) (a1 : -9223372036854775808 ≤ a) (a2 : a ≤ 9223372036854775807) : fix_Parse.f (mkB (textL (decide (a < 0)) a.natAbs)) = some (a, 0) := by
  have hlen := text_len (decide (a < 0)) a.natAbs (by omega)
  have hd := dec_len (u := a.natAbs / 1000000) (j := 19) (by omega)
  have hu := Nat.div_add_mod a.natAbs 1000000
  have hf := frac_parts (a.natAbs % 1000000) (Nat.mod_lt _ (by omega))
  refine parsed (by omega) ?_ ?_
  · unfold textL
    refine Asc.append (asc_sign _) (Asc.append (Dig.asc (dec_dig _)) ?_)
    split
    · exact Dig.asc Dig.nil
    · intro c hc
      rcases List.mem_cons.1 hc with rfl | hc
      · decide
      · exact Dig.asc hf.1 c hc
  · unfold textL
    split
    · rename_i h0
      rw [List.append_nil]
      refine parse_plain a _ a1 a2 (dec_dig _) (dec_ne _) (by omega) ?_
      rw [dec_val]
      omega
    · have h := mid_parse a 0 false a1 a2 (by omega)
      unfold midL at h
      simpa [Lib.repeatL, expL] using h
/-! The law's loops. -/
theorem bt_mk (r : List UInt8) (i : Nat) (h : i < r.length) : bt (mkB r) (i : Int) = (r[i].toNat : Int) := by
  unfold bt
  rw [dif_pos (by rw [mkB_size]; simpa using h)]
  simp
  rfl
theorem pt_run (x0 x1 : Int) (x8 : ByteArray) (r : List UInt8) (hr : r.length ≤ 1000) : ∀ (m i k : Nat) (b : Bool), i + m = r.length →
    odometerlaw01_FixTexts.l0 (k + m + 1) x0 x1 x8 (mkB r) b i = if (b || (r.drop i).any (· == 46)) = true then odometerlaw01_FixTexts.j4 k x0 x1 x8 (mkB r) else odometerlaw01_FixTexts.j4 k x0 x1 x8 (mkB (r ++ [46]))
  | 0, i, k, b, hi => by
    rw [List.drop_of_length_le (by omega)]
    simp only [odometerlaw01_FixTexts.l0]
    rw [if_neg (by rw [mkB_size]; omega), show (⟨#[46]⟩ : ByteArray) = mkB [46] from rfl, mkB_append, if_pos (by rw [mkB_size]; omega : (mkB r).size + 1 ≤ 9223372036854775807)]
    cases b <;> simp
  | m + 1, i, k, b, hi => by
    have hi' : i < r.length := by omega
    obtain ⟨K, hK⟩ : ∃ K, K = k + m + 1 := ⟨_, rfl⟩
    rw [show k + (m + 1) + 1 = K + 1 by omega]
    simp only [odometerlaw01_FixTexts.l0]
    have ei : wrap64 ((i : Int) + 1) = ((i + 1 : Nat) : Int) := by unfold wrap64; omega
    rw [if_pos (by rw [mkB_size]; omega), ei, bt_mk r i hi', List.drop_eq_getElem_cons hi', List.any_cons]
    cases b with
    | true =>
      rw [if_pos rfl, hK, pt_run x0 x1 x8 r hr m (i + 1) k true (by omega)]
      simp
    | false =>
      rw [if_neg (by simp), if_pos (by omega), hK, pt_run x0 x1 x8 r hr m (i + 1) k _ (by omega)]
      have e : (((r[i].toNat : Nat) : Int) == 46) = (r[i] == 46) := by
        rw [Bool.eq_iff_iff, beq_iff_eq, beq_iff_eq]
        constructor
        · intro h
          exact UInt8.toNat_inj.1 (show r[i].toNat = (46 : UInt8).toNat by simp; omega)
        · intro h
          rw [h]
          rfl
      rw [e]
      simp
theorem no_point {l : List UInt8} (h : Dig l) : l.any (· == 46) = false := by
  rw [List.any_eq_false]
  intro c hc he
  have h1 := h c hc
  have h2 : c = 46 := by simpa using he
  rw [h2] at h1
  simp at h1
theorem z_run (a : Int) (z : Nat) (neg : Bool) (k : Nat) (hz : z ≤ 40) (hu : a.natAbs < 18446744073709551616) (h1 : fix_Parse.f (mkB (signL neg ++ midL a.natAbs z)) = some (a, 0)) (h2 : fix_Parse.f (mkB (signL neg ++ midL a.natAbs z ++ [69, 43, 48, 48])) = some (a, 0)) :
    ∀ (m i : Nat), i + m = z → odometerlaw01_FixTexts.l1 (k + m + 1) a z (mkB (signL neg)) (mkB (midL a.natAbs i)) i = some true
  | 0, i, hi => by
    obtain rfl : i = z := by omega
    have hl := mid_len a.natAbs i hu hz
    have hs : (signL neg).length ≤ 1 := by unfold signL; split <;> simp
    simp only [odometerlaw01_FixTexts.l1]
    rw [if_neg (by omega), mkB_append, if_pos (by rw [mkB_size, mkB_size]; omega), read_ok h1, Option.bind_some, if_pos rfl, show (⟨#[69, 43, 48, 48]⟩ : ByteArray) = mkB [69, 43, 48, 48] from rfl, mkB_append, if_pos (by rw [mkB_size]; simp; omega), read_ok h2, Option.bind_some, if_pos rfl, known_ok, Option.bind_some]
  | m + 1, i, hi => by
    have hl := mid_len a.natAbs i hu (by omega)
    obtain ⟨K, hK⟩ : ∃ K, K = k + m + 1 := ⟨_, rfl⟩
    rw [show k + (m + 1) + 1 = K + 1 by omega]
    simp only [odometerlaw01_FixTexts.l1]
    have ei : wrap64 ((i : Int) + 1) = ((i + 1 : Nat) : Int) := by unfold wrap64; omega
    have em : [48] ++ midL a.natAbs i ++ [48] = midL a.natAbs (i + 1) := by
      unfold midL
      have := rep_comm i
      simp only [List.append_assoc, List.cons_append, List.nil_append, Lib.repeatL]
      rw [this]
    rw [if_pos (by omega), show (⟨#[48]⟩ : ByteArray) = mkB [48] from rfl, mkB_append, mkB_append, em, ei, if_pos (by rw [mkB_size]; omega), if_pos (by rw [mkB_size]; simp; omega)]
    rw [hK]
    exact z_run a z neg k hz hu h1 h2 m (i + 1) (by omega)
theorem main_ok (a z : Int) (a1 : -9223372036854775808 ≤ a) (a2 : a ≤ 9223372036854775807) (z0 : 0 ≤ z) (z1 : z ≤ 40) : odometerlaw01_FixTexts.j0 399 a z false = some true := by
  obtain ⟨n, rfl⟩ : ∃ n : Nat, z = n := ⟨z.toNat, by omega⟩
  have hu : a.natAbs < 18446744073709551616 := by omega
  have hlen := text_len (decide (a < 0)) a.natAbs hu
  have hf := frac_parts (a.natAbs % 1000000) (Nat.mod_lt _ (by omega))
  have hml := mid_len a.natAbs n hu (by omega)
  have hs : (signL (decide (a < 0))).length ≤ 1 := by unfold signL; split <;> simp
  have hp1 : fix_Parse.f (mkB (signL (decide (a < 0)) ++ midL a.natAbs n)) = some (a, 0) := by
    refine parsed (by rw [List.length_append]; omega) ((asc_sign _).append (mid_asc _ _)) ?_
    have := mid_parse a n false a1 a2 (by omega)
    rwa [show expL false = [] from rfl, List.append_nil] at this
  have hp2 : fix_Parse.f (mkB (signL (decide (a < 0)) ++ midL a.natAbs n ++ [69, 43, 48, 48])) = some (a, 0) := by
    refine parsed (by rw [List.length_append, List.length_append]; simp; omega) (((asc_sign _).append (mid_asc _ _)).append (fun c hc => asc_exp true c (List.mem_cons_of_mem _ hc))) ?_
    exact mid_parse a n true a1 a2 (by omega)
  have hz := fun k => z_run a n (decide (a < 0)) k (by omega) hu hp1 hp2 n 0 (by omega)
  -- the rest, with its point
  have hrest : ∀ (x8 : ByteArray) (k : Nat), odometerlaw01_FixTexts.l0 (k + 45) a n x8 (mkB (Lib.decDigits (a.natAbs / 1000000) ++ (if a.natAbs % 1000000 = 0 then [] else 46 :: fracL (a.natAbs % 1000000)))) false (0 : Nat) = odometerlaw01_FixTexts.j4 (k + 44 - (Lib.decDigits (a.natAbs / 1000000) ++ (if a.natAbs % 1000000 = 0 then [] else 46 :: fracL (a.natAbs % 1000000))).length) a n x8 (mkB (midL a.natAbs 0)) := by
    intro x8 k
    have hl2 : (Lib.decDigits (a.natAbs / 1000000) ++ (if a.natAbs % 1000000 = 0 then [] else 46 :: fracL (a.natAbs % 1000000))).length ≤ 40 := by
      unfold textL at hlen
      rw [List.length_append] at hlen
      omega
    have h := pt_run a n x8 (Lib.decDigits (a.natAbs / 1000000) ++ (if a.natAbs % 1000000 = 0 then [] else 46 :: fracL (a.natAbs % 1000000))) (by omega) _ 0 (k + 44 - (Lib.decDigits (a.natAbs / 1000000) ++ (if a.natAbs % 1000000 = 0 then [] else 46 :: fracL (a.natAbs % 1000000))).length) false (Nat.zero_add _)
    rw [show k + 44 - (Lib.decDigits (a.natAbs / 1000000) ++ (if a.natAbs % 1000000 = 0 then [] else 46 :: fracL (a.natAbs % 1000000))).length + (Lib.decDigits (a.natAbs / 1000000) ++ (if a.natAbs % 1000000 = 0 then [] else 46 :: fracL (a.natAbs % 1000000))).length + 1 = k + 45 by omega] at h
    rw [h, List.drop_zero, Bool.false_or, List.any_append, no_point (dec_dig _), Bool.false_or]
    unfold midL
    by_cases h0 : a.natAbs % 1000000 = 0
    · rw [if_pos h0, hf.2.2.2.1 h0, if_neg (by simp), List.append_nil]
      rfl
    · rw [if_neg h0, List.any_cons]
      simp [Lib.repeatL]
  have hj4 : ∀ K, 60 ≤ K → odometerlaw01_FixTexts.j4 K a n (mkB (signL (decide (a < 0)))) (mkB (midL a.natAbs 0)) = some true := by
    intro K hK
    obtain ⟨k, rfl⟩ : ∃ k, K = (k + n + 1) + 1 := ⟨K - n - 2, by omega⟩
    simp only [odometerlaw01_FixTexts.j4]
    exact hz k
  have hl2 : (Lib.decDigits (a.natAbs / 1000000) ++ (if a.natAbs % 1000000 = 0 then [] else 46 :: fracL (a.natAbs % 1000000))).length ≤ 40 := by
    unfold textL at hlen
    rw [List.length_append] at hlen
    omega
  have hj2 : odometerlaw01_FixTexts.j2 397 a n (mkB (signL (decide (a < 0)))) (mkB (Lib.decDigits (a.natAbs / 1000000) ++ (if a.natAbs % 1000000 = 0 then [] else 46 :: fracL (a.natAbs % 1000000)))) = some true := by
    rw [show 397 = 396 + 1 from rfl]
    simp only [odometerlaw01_FixTexts.j2]
    rw [show 396 = 351 + 45 from rfl, show (0 : Int) = ((0 : Nat) : Int) from rfl, hrest]
    exact hj4 _ (by omega)
  have hj1 : odometerlaw01_FixTexts.j1 398 a n (mkB (textL (decide (a < 0)) a.natAbs)) false = some true := by
    rw [show 398 = 397 + 1 from rfl]
    simp only [odometerlaw01_FixTexts.j1]
    rw [if_neg (by simp)]
    by_cases hn : a < 0
    · rw [if_pos hn, mkB_tail, decide_eq_true hn]
      rw [decide_eq_true hn] at hj2
      rw [if_pos (by rw [mkB_size]; unfold textL signL; simp; omega)]
      exact hj2
    · rw [if_neg hn, decide_eq_false hn]
      rw [decide_eq_false hn] at hj2
      exact hj2
  rw [show 399 = 398 + 1 from rfl]
  simp only [odometerlaw01_FixTexts.j0]
  rw [if_neg (by simp), show 398 = 360 + 38 from rfl, ref_text a 360 a1 a2, Option.bind_some, text_parse a a1 a2, Option.bind_some, text_ok a a1 a2, Option.bind_some, if_pos rfl]
  show (if (0 : Int) = 0 then odometerlaw01_FixTexts.j1 (360 + 38) a n (mkB (textL (decide (a < 0)) a.natAbs)) (a != a) else _) = _
  rw [if_pos rfl, show (a != a) = false by simp]
  exact hj1
theorem FixTexts : odometerlaw01_FixTexts.Pure := by
  intro a z ha hz
  have ba := bounds_i64 ha
  refine ⟨399, ?_⟩
  unfold odometerlaw01_FixTexts.f
  have hk : odometerlaw01_FixTexts.j0 399 a z true = some true := by
    rw [show 399 = 398 + 1 from rfl]
    simp only [odometerlaw01_FixTexts.j0]
    rw [if_pos trivial, known_ok, Option.bind_some]
  by_cases h : z < 0
  · rw [if_pos h]
    exact hk
  · rw [if_neg h]
    by_cases h2 : z > 40
    · rw [decide_eq_true h2]
      exact hk
    · rw [decide_eq_false h2]
      exact main_ok a z ba.1 ba.2 (by omega) (by omega)
end Go.Proofs.YtdgmgbcjlmighaaDoor.Pure
