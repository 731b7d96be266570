import Derived.Test.YtdgmgbcjlmighaaDoorGParse
import Derived.Lib.ItoaNum
/-! The number of a text of digits, a point, digits: fix.Parse's plain answer. -/
namespace Go.Proofs.YtdgmgbcjlmighaaDoor
open Go.RowKit Go.Proofs.YtdgmgbcjlmighaaDoorW.PrintWords
set_option linter.unusedVariables false
set_option linter.unusedSimpArgs false
def Dig (l : List UInt8) : Prop := ∀ c ∈ l, 48 ≤ c.toNat ∧ c.toNat ≤ 57
theorem Dig.nil : Dig [] := fun c h => by cases h
theorem Dig.append {a b : List UInt8} (h : Dig a) (k : Dig b) : Dig (a ++ b) := fun c hc => (List.mem_append.1 hc).elim (h c) (k c)
theorem Dig.cons {c : UInt8} {r : List UInt8} (h : Dig (c :: r)) : (48 ≤ c.toNat ∧ c.toNat ≤ 57) ∧ Dig r := ⟨h c (List.mem_cons_self ..), fun d hd => h d (List.mem_cons_of_mem _ hd)⟩
theorem prun_append : ∀ (a b : List UInt8) (i : Nat) (x : PS), prun (a ++ b) i x = (prun a i x).bind fun y => prun b (i + a.length) y
  | [], b, i, x => rfl
  | c :: r, b, i, x => by
    rw [List.cons_append, prun, prun, Option.bind_assoc]
    cases pstep i c.toNat x with
    | none => rfl
    | some y =>
      rw [Option.bind_some, Option.bind_some, prun_append r b (i + 1) y, List.length_cons, show i + 1 + r.length = i + (r.length + 1) by omega]
theorem ofNat_toNat (c : UInt8) : UInt8.ofNat c.toNat = c := by simp
theorem step_whole {i : Nat} {c : UInt8} {x : PS} (h : 48 ≤ c.toNat ∧ c.toNat ≤ 57) (ha : x.at_ = 0 ∨ x.at_ = 1) : pstep i c.toNat x = some { x with at_ := 1, ds := x.ds ++ [c] } := by
  unfold pstep
  rw [if_neg (by omega), if_pos h, if_neg (by omega), if_pos ha, ofNat_toNat]
theorem step_frac {i : Nat} {c : UInt8} {x : PS} (h : 48 ≤ c.toNat ∧ c.toNat ≤ 57) (ha : x.at_ = 2 ∨ x.at_ = 3) : pstep i c.toNat x = some { x with at_ := 3, e := x.e - 1, ds := x.ds ++ [c] } := by
  unfold pstep
  rw [if_neg (by omega), if_pos h, if_pos ha, ofNat_toNat]
theorem run_whole : ∀ (D : List UInt8) (i : Nat) (neg : Bool) (ds : List UInt8), Dig D → prun D i ⟨neg, 0, 1, 0, false, ds⟩ = some ⟨neg, 0, 1, 0, false, ds ++ D⟩
  | [], i, neg, ds, _ => by rw [List.append_nil]; rfl
  | c :: r, i, neg, ds, h => by
    rw [prun, step_whole h.cons.1 (Or.inr rfl), Option.bind_some]
    show prun r (i + 1) ⟨neg, 0, 1, 0, false, ds ++ [c]⟩ = _
    rw [run_whole r (i + 1) neg (ds ++ [c]) h.cons.2, List.append_assoc, List.singleton_append]
theorem run_first (D : List UInt8) (i : Nat) (neg : Bool) (h : Dig D) (h0 : D ≠ []) : prun D i ⟨neg, 0, 0, 0, false, []⟩ = some ⟨neg, 0, 1, 0, false, D⟩ := by
  cases D with
  | nil => exact absurd rfl h0
  | cons c r =>
    rw [prun, step_whole h.cons.1 (Or.inl rfl), Option.bind_some]
    show prun r (i + 1) ⟨neg, 0, 1, 0, false, [] ++ [c]⟩ = _
    rw [run_whole r (i + 1) neg _ h.cons.2]
    rfl
theorem run_frac : ∀ (D : List UInt8) (i : Nat) (neg : Bool) (e : Int) (ds : List UInt8), Dig D → prun D i ⟨neg, e, 3, 0, false, ds⟩ = some ⟨neg, e - D.length, 3, 0, false, ds ++ D⟩
  | [], i, neg, e, ds, _ => by rw [List.append_nil]; simp [prun]
  | c :: r, i, neg, e, ds, h => by
    rw [prun, step_frac h.cons.1 (Or.inr rfl), Option.bind_some]
    show prun r (i + 1) ⟨neg, e - 1, 3, 0, false, ds ++ [c]⟩ = _
    rw [run_frac r (i + 1) neg (e - 1) (ds ++ [c]) h.cons.2, List.append_assoc, List.singleton_append, List.length_cons]
    congr 2
    push_cast
    omega
/-- A point, and digits behind it. -/
theorem run_point (D : List UInt8) (i : Nat) (neg : Bool) (ds : List UInt8) (h : Dig D) : ∃ a, (a = 2 ∨ a = 3) ∧ prun (46 :: D) i ⟨neg, 0, 1, 0, false, ds⟩ = some ⟨neg, -(D.length : Int), a, 0, false, ds ++ D⟩ := by
  have h1 : pstep i (46 : UInt8).toNat ⟨neg, 0, 1, 0, false, ds⟩ = some ⟨neg, 0, 2, 0, false, ds⟩ := by
    unfold pstep
    rw [if_neg (by simp), if_neg (by simp), if_pos (by simp)]
  cases D with
  | nil => exact ⟨2, Or.inl rfl, by rw [prun, h1, Option.bind_some, List.append_nil]; rfl⟩
  | cons c r =>
    refine ⟨3, Or.inr rfl, ?_⟩
    rw [prun, h1, Option.bind_some, prun, step_frac h.cons.1 (Or.inl rfl), Option.bind_some]
    show prun r (i + 1 + 1) ⟨neg, 0 - 1, 3, 0, false, ds ++ [c]⟩ = _
    rw [run_frac r _ neg (0 - 1) (ds ++ [c]) h.cons.2, List.append_assoc, List.singleton_append, List.length_cons]
    congr 2
    push_cast
    omega
/-- 'E+00' behind digits: nothing. -/
theorem run_exp (i : Nat) (neg : Bool) (e : Int) (a : Nat) (ds : List UInt8) (ha : a < 4) (hd : 0 < ds.length) (hi : 0 < i) : prun [69, 43, 48, 48] i ⟨neg, e, a, 0, false, ds⟩ = some ⟨neg, e, 6, 0, false, ds⟩ := by
  have h1 : pstep i (69 : UInt8).toNat ⟨neg, e, a, 0, false, ds⟩ = some ⟨neg, e, 4, 0, false, ds⟩ := by
    unfold pstep
    rw [if_neg (by simp), if_neg (by simp), if_neg (by simp), if_pos ⟨Or.inr rfl, ha, hd⟩]
  have h2 : pstep (i + 1) (43 : UInt8).toNat ⟨neg, e, 4, 0, false, ds⟩ = some ⟨neg, e, 5, 0, false, ds⟩ := by
    unfold pstep
    rw [if_neg (by simp), if_neg (by simp), if_neg (by simp), if_neg (by simp), if_pos (by simp)]
    rfl
  have h3 : ∀ (b i : Nat), b = 5 ∨ b = 6 → pstep i (48 : UInt8).toNat ⟨neg, e, b, 0, false, ds⟩ = some ⟨neg, e, 6, 0, false, ds⟩ := by
    intro b i hb
    unfold pstep
    rw [if_neg (by simp), if_pos (by simp), if_neg (by simp only; omega), if_neg (by simp only; omega)]
    rfl
  rw [prun, h1, Option.bind_some, prun, h2, Option.bind_some, prun, h3 5 _ (Or.inl rfl), Option.bind_some, prun, h3 6 _ (Or.inr rfl), Option.bind_some]
  rfl
def signL (neg : Bool) : List UInt8 := if neg then [45] else []
theorem run_sign (neg : Bool) (r : List UInt8) : prun (signL neg ++ r) 0 PS.start = prun r (signL neg).length ⟨neg, 0, 0, 0, false, []⟩ := by
  cases neg with
  | false => rfl
  | true => rfl
/-- A text: sign, digits; a point and digits, or none; 'E+00', or nothing. -/
def expL (b : Bool) : List UInt8 := if b then [69, 43, 48, 48] else []
theorem parts_plain (neg : Bool) (D : List UInt8) (h : Dig D) (h0 : D ≠ []) : partsF (signL neg ++ D) = some (neg, D, 0) := by
  unfold partsF
  rw [run_sign, run_first D _ neg h h0, Option.bind_some, if_pos ⟨List.length_pos_iff.2 h0, by simp, by simp⟩]
  rfl
theorem parts_point (neg : Bool) (D E : List UInt8) (b : Bool) (h : Dig D) (h0 : D ≠ []) (hE : Dig E) : partsF (signL neg ++ (D ++ (46 :: E ++ expL b))) = some (neg, D ++ E, -(E.length : Int)) := by
  unfold partsF
  have hl : 0 < (D ++ E).length := by rw [List.length_append]; have := List.length_pos_iff.2 h0; omega
  obtain ⟨a, ha, hp⟩ := run_point E ((signL neg).length + D.length) neg D hE
  rw [run_sign, prun_append, run_first D _ neg h h0, Option.bind_some, prun_append, hp, Option.bind_some]
  cases b with
  | false =>
    show (some (PS.mk neg (-(E.length : Int)) a 0 false (D ++ E))).bind _ = _
    rw [Option.bind_some, if_pos ⟨hl, by simp only; omega, by simp only; omega⟩]
    simp
  | true =>
    show (prun [69, 43, 48, 48] _ _).bind _ = _
    rw [run_exp _ neg _ a _ (by omega) hl (by have := List.length_pos_iff.2 h0; omega), Option.bind_some, if_pos ⟨hl, by simp only; omega, by simp only; omega⟩]
    simp
theorem lower_id (c : UInt8) (h : c.toNat < 65) : Lib.lowerB c = c := by
  unfold Lib.lowerB Lib.isUpperB
  rw [if_neg]
  simp only [Bool.and_eq_true, decide_eq_true_eq, UInt8.le_iff_toNat_le]
  intro hh
  have : (65 : UInt8).toNat = 65 := rfl
  omega
theorem byte_ne {c : UInt8} {n : Nat} (h : c.toNat ≠ n) (hn : n < 256) : c ≠ UInt8.ofNat n := by
  intro e
  apply h
  rw [e]
  simp
  omega
/-- Such a text is no word. -/
theorem not_word (neg : Bool) (D r : List UInt8) (h : Dig D) (h0 : D ≠ []) : wordF (signL neg ++ (D ++ r)) = false := by
  cases D with
  | nil => exact absurd rfl h0
  | cons c D =>
    have hc := h.cons.1
    have hlow := lower_id c (by omega)
    have n43 : c ≠ 43 := byte_ne (n := 43) (by omega) (by omega)
    have n45 : c ≠ 45 := byte_ne (n := 45) (by omega) (by omega)
    have n110 : c ≠ 110 := byte_ne (n := 110) (by omega) (by omega)
    have n105 : c ≠ 105 := byte_ne (n := 105) (by omega) (by omega)
    have hu : ∃ l, unsign (Lib.toLowerA (signL neg ++ (c :: D ++ r))) = c :: l := by
      cases neg with
      | false =>
        refine ⟨Lib.toLowerA (D ++ r), ?_⟩
        show unsign (Lib.lowerB c :: Lib.toLowerA (D ++ r)) = _
        rw [hlow]
        exact if_neg (by rintro (h | h); exact n43 h; exact n45 h)
      | true =>
        refine ⟨Lib.toLowerA (D ++ r), ?_⟩
        show unsign (Lib.lowerB 45 :: Lib.lowerB c :: Lib.toLowerA (D ++ r)) = _
        rw [hlow, lower_id 45 (by decide)]
        exact unsign_yes (Or.inr rfl)
    obtain ⟨l, hl⟩ := hu
    unfold wordF wordL
    rw [hl]
    simp [n110, n105]
/-! Values. -/
theorem foldl_acc : ∀ (l : List UInt8) (a : Nat), l.foldl (fun n c => n * 10 + (c.toNat - 48)) a = a * 10 ^ l.length + natOf l
  | [], a => by simp [natOf]
  | c :: r, a => by
    unfold natOf
    rw [List.foldl_cons, List.foldl_cons, foldl_acc r, foldl_acc r (0 * 10 + (c.toNat - 48)), List.length_cons, Nat.pow_succ, Nat.zero_mul, Nat.zero_add, Nat.add_mul, Nat.add_assoc, Nat.mul_assoc, Nat.mul_comm 10]
theorem natOf_append (a b : List UInt8) : natOf (a ++ b) = natOf a * 10 ^ b.length + natOf b := by
  unfold natOf
  rw [List.foldl_append]
  exact foldl_acc b _
theorem natOf_cons (c : UInt8) (r : List UInt8) : natOf (c :: r) = (c.toNat - 48) * 10 ^ r.length + natOf r := by
  have := natOf_append [c] r
  rw [List.singleton_append] at this
  rw [this]
  simp [natOf]
theorem natOf_zeros : ∀ n, natOf (Lib.repeatL [48] n) = 0
  | 0 => rfl
  | n + 1 => by
    show natOf ([48] ++ Lib.repeatL [48] n) = 0
    rw [natOf_append, natOf_zeros n]
    simp [natOf]
theorem rep_len (n : Nat) : (Lib.repeatL [48] n).length = n := by rw [Lib.repeatL_length]; simp
theorem natOf_trimL : ∀ l : List UInt8, natOf (Lib.trimLeftB l 48) = natOf l
  | [] => rfl
  | c :: r => by
    unfold Lib.trimLeftB
    rw [List.dropWhile_cons]
    split
    · rename_i h
      have e : c = 48 := by simpa using h
      have := natOf_trimL r
      unfold Lib.trimLeftB at this
      rw [this, natOf_cons, e]
      simp
    · rfl
/-- A text is what is left without its zeros at the end, and these. -/
theorem trimR_parts : ∀ l : List UInt8, ∃ t, l = Lib.trimRightB l 48 ++ Lib.repeatL [48] t := by
  intro l
  unfold Lib.trimRightB
  generalize hr : l.reverse = m
  have : ∀ m : List UInt8, ∃ t, m.reverse = (m.dropWhile (fun x => x == 48)).reverse ++ Lib.repeatL [48] t := by
    intro m
    induction m with
    | nil => exact ⟨0, rfl⟩
    | cons c r ih =>
      rw [List.dropWhile_cons]
      split
      · rename_i h
        have e : c = 48 := by simpa using h
        obtain ⟨t, ht⟩ := ih
        refine ⟨t + 1, ?_⟩
        rw [List.reverse_cons, ht, List.append_assoc, e]
        congr 1
        clear ht h e
        induction t with
        | zero => rfl
        | succ t ih =>
          show 48 :: (Lib.repeatL [48] t ++ [48]) = 48 :: Lib.repeatL [48] (t + 1)
          rw [ih]
      · exact ⟨0, by rw [Lib.repeatL, List.append_nil]⟩
  obtain ⟨t, ht⟩ := this m
  exact ⟨t, by rw [← ht, ← hr, List.reverse_reverse]⟩
theorem trimL_head : ∀ l : List UInt8, Lib.trimLeftB l 48 ≠ [] → Dig l → ∃ c r, Lib.trimLeftB l 48 = c :: r ∧ 49 ≤ c.toNat
  | [], h, _ => absurd rfl h
  | c :: r, h, hd => by
    unfold Lib.trimLeftB at h ⊢
    rw [List.dropWhile_cons] at h ⊢
    by_cases hc : (c == 48) = true
    · rw [if_pos hc] at h ⊢
      exact trimL_head r h hd.cons.2
    · rw [if_neg hc]
      refine ⟨c, r, rfl, ?_⟩
      have h1 := hd.cons.1
      have h2 : c ≠ 48 := by simpa using hc
      rcases Nat.lt_or_ge c.toNat 49 with h3 | h3
      · exact absurd (UInt8.toNat_inj.1 (show c.toNat = (48 : UInt8).toNat by simp; omega)) h2
      · exact h3
theorem trimR_last : ∀ l : List UInt8, Lib.trimRightB l 48 ≠ [] → Dig l → ∃ a c, Lib.trimRightB l 48 = a ++ [c] ∧ 49 ≤ c.toNat := by
  intro l h hd
  have hr : Dig l.reverse := fun c hc => hd c (List.mem_reverse.1 hc)
  have h2 : Lib.trimLeftB l.reverse 48 ≠ [] := by
    intro e
    apply h
    unfold Lib.trimRightB
    rw [show List.dropWhile (fun x => x == 48) l.reverse = [] from e]
    rfl
  obtain ⟨c, r, e, hc⟩ := trimL_head l.reverse h2 hr
  refine ⟨r.reverse, c, ?_, hc⟩
  unfold Lib.trimRightB
  rw [show List.dropWhile (fun x => x == 48) l.reverse = c :: r from e, List.reverse_cons]
theorem dig_trimL {l : List UInt8} (h : Dig l) : Dig (Lib.trimLeftB l 48) := fun c hc => h c ((List.dropWhile_sublist _).mem hc)
theorem trimL_zero : ∀ l : List UInt8, Dig l → natOf l = 0 → Lib.trimLeftB l 48 = []
  | [], _, _ => rfl
  | c :: r, hd, h0 => by
    rw [natOf_cons] at h0
    have hp : 0 < 10 ^ r.length := Nat.pow_pos (by omega)
    have h1 : (c.toNat - 48) * 10 ^ r.length = 0 := by omega
    have h2 : c.toNat - 48 = 0 := by
      rcases Nat.mul_eq_zero.1 h1 with h | h
      · exact h
      · omega
    have hc := hd.cons.1
    have e : c = 48 := UInt8.toNat_inj.1 (show c.toNat = (48 : UInt8).toNat by simp; omega)
    unfold Lib.trimLeftB
    rw [List.dropWhile_cons, if_pos (by rw [e]; rfl)]
    exact trimL_zero r hd.cons.2 (by omega)
/-- The number of digits, where a number of millionths stands behind them. -/
theorem numF_val (neg : Bool) (ds : List UInt8) (k u : Nat) (hd : Dig ds) (hu : u < 10000000000000000000) (hv : natOf ds * 1000000 = u * 10 ^ k) (hk : ds.length + k < 1000000) : numF neg ds (-(k : Int)) = if u = 0 then (0, 0) else signedF u neg := by
  have hpk : 0 < 10 ^ k := Nat.pow_pos (by omega)
  by_cases h0 : u = 0
  · rw [if_pos h0]
    refine if_pos (trimL_zero ds hd ?_)
    rw [h0, Nat.zero_mul] at hv
    omega
  · rw [if_neg h0]
    have hne : Lib.trimLeftB ds 48 ≠ [] := by
      intro e
      have h1 := natOf_trimL ds
      rw [e] at h1
      have h2 : natOf ds = 0 := h1.symm
      rw [h2, Nat.zero_mul] at hv
      have := Nat.mul_pos (Nat.pos_of_ne_zero h0) hpk
      omega
    obtain ⟨t, ht⟩ := trimR_parts (Lib.trimLeftB ds 48)
    obtain ⟨c, r, hcr, hc⟩ := trimL_head ds hne hd
    have hDd := dig_trimL hd
    have hS : shortF ds = Lib.trimRightB (Lib.trimLeftB ds 48) 48 := rfl
    have hSne : shortF ds ≠ [] := by
      intro e
      rw [hS] at e
      rw [e, List.nil_append, hcr] at ht
      have : c ∈ Lib.repeatL [48] t := by rw [← ht]; simp
      have h48 : ∀ n, ∀ d ∈ Lib.repeatL [48] n, d = 48 := by
        intro n
        induction n with
        | zero => intro d hd; cases hd
        | succ n ih =>
          intro d hd
          rcases List.mem_append.1 hd with hd | hd
          · exact List.mem_singleton.1 hd
          · exact ih d hd
      have := h48 t c this
      rw [this] at hc
      simp at hc
    obtain ⟨a, z, haz, hz⟩ := trimR_last (Lib.trimLeftB ds 48) (by rw [← hS]; exact hSne) hDd
    have hval : natOf ds = natOf (shortF ds) * 10 ^ t := by
      rw [← natOf_trimL ds]
      conv => lhs; rw [ht]
      rw [natOf_append, natOf_zeros, rep_len, Nat.add_zero, hS]
    have hlen : (Lib.trimLeftB ds 48).length = (shortF ds).length + t := by
      conv => lhs; rw [ht]
      rw [List.length_append, rep_len, hS]
    have hsd : Dig (shortF ds) := fun d hd' => hDd d (by rw [ht]; exact List.mem_append_left _ (by rw [← hS]; exact hd'))
    have hlast : natOf (shortF ds) % 10 ≠ 0 := by
      rw [hS, haz, natOf_append]
      have hzd := hDd z (by rw [ht]; exact List.mem_append_left _ (by rw [haz]; simp))
      simp [natOf]
      omega
    have hhead : 10 ^ ((shortF ds).length - 1) ≤ natOf (shortF ds) := by
      obtain ⟨c', r', hc'⟩ : ∃ c' r', shortF ds = c' :: r' := by
        cases e : shortF ds with
        | nil => exact absurd e hSne
        | cons c' r' => exact ⟨c', r', rfl⟩
      have hcc : c' = c := by
        rw [← hS, hc', hcr, List.cons_append] at ht
        exact (List.cons.inj ht).1.symm
      rw [hc', natOf_cons, hcc, List.length_cons, Nat.add_sub_cancel]
      have := Nat.mul_le_mul_right (10 ^ r'.length) (show 1 ≤ c.toNat - 48 by omega)
      omega
    rw [hval, Nat.mul_assoc] at hv
    generalize hSL : shortF ds = S at *
    have e6 : (1000000 : Nat) = 10 ^ 6 := by decide
    have hkt : k ≤ t + 6 := by
      rcases Nat.lt_or_ge (t + 6) k with h | h
      · exfalso
        obtain ⟨j, rfl⟩ : ∃ j, k = t + 6 + 1 + j := ⟨k - (t + 6 + 1), by omega⟩
        rw [e6, ← Nat.pow_add, show t + 6 + 1 + j = (t + 6) + (1 + j) by omega, Nat.pow_add 10 (t + 6), ← Nat.mul_assoc, Nat.mul_right_comm] at hv
        have h2 := Nat.eq_of_mul_eq_mul_right (Nat.pow_pos (by omega)) hv
        apply hlast
        rw [h2, Nat.pow_add, Nat.pow_one, ← Nat.mul_assoc]
        rw [Nat.mul_right_comm]
        exact Nat.mul_mod_left _ _
      · exact h
    obtain ⟨z2, hz2⟩ : ∃ z2, t + 6 = k + z2 := ⟨t + 6 - k, by omega⟩
    have hu2 : natOf S * 10 ^ z2 = u := by
      rw [e6, ← Nat.pow_add, hz2, Nat.pow_add, Nat.mul_comm (10 ^ k), ← Nat.mul_assoc] at hv
      exact Nat.eq_of_mul_eq_mul_right hpk hv
    have hzer : zerosF ds (-(k : Int)) = (z2 : Int) := by
      unfold zerosF
      rw [hlen, hSL]
      omega
    have h19 : S.length + z2 ≤ 19 := by
      rcases Nat.lt_or_ge 19 (S.length + z2) with h | h
      · exfalso
        have hS1 : 1 ≤ S.length := List.length_pos_iff.2 hSne
        have h1 : 10 ^ (S.length - 1) * 10 ^ z2 ≤ u := by rw [← hu2]; exact Nat.mul_le_mul_right _ hhead
        rw [← Nat.pow_add] at h1
        have h2 : (10 : Nat) ^ 19 ≤ 10 ^ (S.length - 1 + z2) := Nat.pow_le_pow_right (by omega) (by omega)
        have e19 : (10 : Nat) ^ 19 = 10000000000000000000 := by decide
        omega
      · exact h
    have h3 := numF_num (neg := neg) (ds := ds) (e := -(k : Int)) hne (by rw [hzer, hSL]; omega)
    rw [h3, hzer, hSL, Int.toNat_natCast, natOf_append, natOf_zeros, rep_len, Nat.add_zero, hu2]
end Go.Proofs.YtdgmgbcjlmighaaDoor
