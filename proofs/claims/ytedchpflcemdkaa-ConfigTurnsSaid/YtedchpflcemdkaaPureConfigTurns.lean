import Derived.Test.YtedchpflcemdkaaPTurx
/-! What the law of turns computes is true. -/
namespace Go.Proofs.Ytedchpflcemdkaa.Pure
open Go.RowKit Go.Proofs.Ytedchpflcemdkaa Go.Proofs.Ytedchpflcemdkaa.PTur Go.Proofs.YtedchpflcemdkaaW.PrintWords
set_option linter.unusedVariables false
set_option linter.unusedSimpArgs false
theorem known_40 : odometerlaw13_known.f 40 = some true := by kernel_rfl
theorem known_f : ∀ n, odometerlaw13_known.f (n + 40) = some true
  | 0 => known_40
  | n + 1 => odometerlaw13_known.mono (n + 40) _ (known_f n)
theorem known_ge (k : Nat) (h : 40 ≤ k) : odometerlaw13_known.f k = some true := by
  obtain ⟨n, rfl⟩ : ∃ n, k = n + 40 := ⟨k - 40, by omega⟩
  exact known_f n
/-! ### the number of some texts -/
def stepH (n c : Int) : Int := IntKind.u64.wrap ((Go.bits .xor .u64 n (IntKind.u64.wrap c)) * 1099511628211)
def nb (s : ByteArray) : List Int := s.data.toList.map fun b => (b.toNat : Int)
theorem nb_append (s t : ByteArray) : nb (s ++ t) = nb s ++ nb t := by simp [nb, ByteArray.data_append]
theorem nb_length (s : ByteArray) : (nb s).length = s.size := by simp [nb]
theorem nb_drop (s : ByteArray) (j : Nat) (h : j < s.size) : (nb s).drop j = bt s (j : Int) :: (nb s).drop (j + 1) := by
  rw [List.drop_eq_getElem_cons (by rw [nb_length]; exact h)]
  congr 1
  rw [← bt_at s (j : Int) (by simpa using h)]
  simp only [nb, List.getElem_map]
  rfl
theorem wrapU_eq (x : Int) : IntKind.u64.wrap x = x % 18446744073709551616 := by
  simp only [IntKind.wrap, IntKind.bits, IntKind.signed, Bool.false_and, Bool.false_eq_true, if_false]
  rfl
theorem wrapU (x : Int) : 0 ≤ IntKind.u64.wrap x ∧ IntKind.u64.wrap x < 18446744073709551616 := by
  rw [wrapU_eq]
  omega
theorem wrapU_of (x : Int) (h0 : 0 ≤ x) (h1 : x < 18446744073709551616) : IntKind.u64.wrap x = x := by
  rw [wrapU_eq]
  omega
theorem l1_go (L : List ByteArray) (q i : Int) (s : ByteArray) (hs : s.size ≤ 1099511627776) : ∀ (n m j : Nat) (x : Int), j + n = s.size →
    config_number.l1 (m + (n + 1)) x s L q i (s.size : Int) (j : Int) = config_number.l0 m (((nb s).drop j).foldl stepH x) L q (wrap64 (i + 1))
  | 0, m, j, x, h => by
    obtain rfl : j = s.size := by omega
    rw [config_number.l1, if_neg (by omega), List.drop_of_length_le (by rw [nb_length]; exact Nat.le_refl _)]
    rfl
  | n + 1, m, j, x, h => by
    have hw : wrap64 ((j : Int) + 1) = ((j + 1 : Nat) : Int) := by rw [wrap_of] <;> omega
    rw [show m + (n + 1 + 1) = (m + (n + 1)) + 1 by omega, config_number.l1, if_pos (by omega), if_pos (by omega), if_pos (by omega), hw, l1_go L q i s hs n m (j + 1) _ (by omega), nb_drop s j (by omega), List.foldl_cons]
    rfl
theorem j1_go (L : List ByteArray) (q i : Int) (s : ByteArray) (hs : s.size ≤ 1099511627776) (m : Nat) (x : Int) :
    config_number.j1 (m + (s.size + 2)) x s L q i = config_number.l0 m ((nb s).foldl stepH x) L q (wrap64 (i + 1)) := by
  rw [show m + (s.size + 2) = (m + (s.size + 1)) + 1 by omega, config_number.j1]
  have := l1_go L q i s hs s.size m 0 x (by omega)
  simpa using this
def hashT (a b c : ByteArray) : Int := ((nb a ++ [0]) ++ nb b ++ [0] ++ nb c).foldl stepH 14695981039346656037
theorem number_f (a b c : ByteArray) (k : Nat) (ha : a.size ≤ 10000) (hb : b.size ≤ 10000) (hc : c.size ≤ 10000) (hk : 40000 ≤ k) : config_number.f k [a, b, c] = some (hashT a b c) := by
  have z1 : ∀ s : ByteArray, ((⟨#[0]⟩ : ByteArray) ++ s).size = 1 + s.size := fun s => by rw [ByteArray.size_append]; rfl
  have nz : ∀ s : ByteArray, nb ((⟨#[0]⟩ : ByteArray) ++ s) = 0 :: nb s := fun s => by rw [nb_append]; rfl
  have w1 : wrap64 ((0 : Int) + 1) = 1 := by rw [wrap_of] <;> omega
  have w2 : wrap64 ((1 : Int) + 1) = 2 := by rw [wrap_of] <;> omega
  have w3 : wrap64 ((2 : Int) + 1) = 3 := by rw [wrap_of] <;> omega
  obtain ⟨m, rfl⟩ : ∃ m, k = ((((m + 1) + (((⟨#[0]⟩ : ByteArray) ++ c).size + 2) + 1) + (((⟨#[0]⟩ : ByteArray) ++ b).size + 2)) + 1) + (a.size + 2) + 1 := ⟨k - 1 - (a.size + 2) - 1 - ((1 + b.size) + 2) - 1 - ((1 + c.size) + 2) - 1, by rw [z1, z1]; omega⟩
  have hr0 : rdOf ByteArray.empty [a, b, c] 0 = a := rfl
  have hr1 : rdOf ByteArray.empty [a, b, c] 1 = b := rfl
  have hr2 : rdOf ByteArray.empty [a, b, c] 2 = c := rfl
  unfold config_number.f
  simp only [List.length_cons, List.length_nil]
  rw [show (((0 + 1 + 1 + 1 : Nat)) : Int) = 3 from rfl]
  rw [config_number.l0, if_pos (by omega), if_pos (by omega), if_pos (by simp), if_neg (by omega), hr0, j1_go _ _ _ a (by omega), w1]
  rw [config_number.l0, if_pos (by omega), if_pos (by omega), if_pos (by simp), if_pos (by omega), hr1, if_pos (by omega), j1_go _ _ _ _ (by rw [z1]; omega), w2]
  rw [config_number.l0, if_pos (by omega), if_pos (by omega), if_pos (by simp), if_pos (by omega), hr2, if_pos (by omega), j1_go _ _ _ _ (by rw [z1]; omega), w3]
  rw [config_number.l0, if_neg (by omega), nz, nz]
  unfold hashT
  rw [List.foldl_append, List.foldl_append, List.foldl_append, List.foldl_append, List.foldl_cons, List.foldl_cons]
  rfl
theorem fold_range : ∀ (l : List Int) (x : Int), 0 ≤ x ∧ x < 18446744073709551616 → 0 ≤ l.foldl stepH x ∧ l.foldl stepH x < 18446744073709551616
  | [], _, h => h
  | c :: r, x, _ => fold_range r _ (wrapU _)
theorem hash_range (a b c : ByteArray) : 0 ≤ hashT a b c ∧ hashT a b c < 18446744073709551616 := fold_range _ _ ⟨by omega, by omega⟩
theorem offset_val (H I : Int) (h0 : 0 ≤ H) (h1 : H < 18446744073709551616) (hI : 1 ≤ I) (hI2 : I ≤ 1073741824) : wrap64 (Int.tmod H (IntKind.u64.wrap I)) = H % I := by
  rw [wrapU_of I (by omega) (by omega), Int.tmod_eq_emod_of_nonneg h0]
  have a := Int.emod_nonneg H (show I ≠ 0 by omega)
  have b := Int.emod_lt_of_pos H (show 0 < I by omega)
  rw [wrap_of] <;> omega
theorem within_f (x a b : Int) (h1 : a ≤ x) (h2 : x ≤ b) : config_within_int64.f x a b = some true := by
  unfold config_within_int64.f
  rw [if_pos h1]
  simp [h2]
theorem within_not (x a b : Int) (h : x < a ∨ b < x) : config_within_int64.f x a b = some false := by
  unfold config_within_int64.f
  by_cases h1 : x ≥ a
  · rw [if_pos h1]
    have : ¬ x ≤ b := by omega
    simp [this]
  · rw [if_neg h1]
section
variable {a b c : ByteArray} {I J : Int} {k : Nat}
theorem offset_f (ha : a.size ≤ 10000) (hb : b.size ≤ 10000) (hc : c.size ≤ 10000) (hk : 40000 ≤ k) (hI : 1 ≤ I) (hI2 : I ≤ 1073741824) : config_Offset.f k a b c I J = some (hashT a b c % I) := by
  unfold config_Offset.f
  have hu : IntKind.u64.wrap I = I := wrapU_of I (by omega) (by omega)
  rw [within_f I 1 _ hI hI2, Option.bind_some, if_pos rfl, number_f a b c k ha hb hc hk, Option.bind_some, if_neg (by rw [hu]; omega), offset_val _ _ (hash_range a b c).1 (hash_range a b c).2 hI hI2]
theorem refOffset_go (s a b c : ByteArray) (hs : s.size ≤ 1099511627776) (hI : 1 ≤ I) (hI2 : I ≤ 1073741824) : ∀ (n k j : Nat) (x : Int), j + n = s.size → n < k → (0 ≤ x ∧ x < 18446744073709551616) →
    odometerref13_Offset.l0 k s x (j : Int) a b c I J = some ((((nb s).drop j).foldl stepH x) % I)
  | 0, k + 1, j, x, h, hk, hx => by
    obtain rfl : j = s.size := by omega
    have hu : IntKind.u64.wrap I = I := wrapU_of I (by omega) (by omega)
    rw [odometerref13_Offset.l0, if_neg (by omega), if_neg (by rw [hu]; omega), offset_val _ _ hx.1 hx.2 hI hI2, List.drop_of_length_le (by rw [nb_length]; exact Nat.le_refl _)]
    rfl
  | n + 1, k + 1, j, x, h, hk, hx => by
    have hw : wrap64 ((j : Int) + 1) = ((j + 1 : Nat) : Int) := by rw [wrap_of] <;> omega
    rw [odometerref13_Offset.l0, if_pos (by omega), if_pos (by omega), hw, refOffset_go s a b c hs hI hI2 n k (j + 1) _ (by omega) (by omega) (wrapU _), nb_drop s j (by omega), List.foldl_cons]
    rfl
theorem refOffset_f (ha : a.size ≤ 10000) (hb : b.size ≤ 10000) (hc : c.size ≤ 10000) (hk : 40000 ≤ k) (hI : 1 ≤ I) (hI2 : I ≤ 1073741824) : odometerref13_Offset.f k a b c I J = some (hashT a b c % I) := by
  have z : (⟨#[0]⟩ : ByteArray).size = 1 := rfl
  have s1 : (a ++ (⟨#[0]⟩ : ByteArray)).size = a.size + 1 := by rw [ByteArray.size_append, z]
  have s2 : ((a ++ (⟨#[0]⟩ : ByteArray)) ++ b).size = a.size + 1 + b.size := by rw [ByteArray.size_append, s1]
  have s3 : (((a ++ (⟨#[0]⟩ : ByteArray)) ++ b) ++ (⟨#[0]⟩ : ByteArray)).size = a.size + 1 + b.size + 1 := by rw [ByteArray.size_append, s2, z]
  have s4 : ((((a ++ (⟨#[0]⟩ : ByteArray)) ++ b) ++ (⟨#[0]⟩ : ByteArray)) ++ c).size = a.size + 1 + b.size + 1 + c.size := by rw [ByteArray.size_append, s3]
  unfold odometerref13_Offset.f
  rw [if_pos (by omega), if_pos (by omega), if_pos (by omega), if_pos (by omega)]
  have := refOffset_go (I := I) (J := J) ((((a ++ (⟨#[0]⟩ : ByteArray)) ++ b) ++ (⟨#[0]⟩ : ByteArray)) ++ c) a b c (by omega) hI hI2 _ k 0 14695981039346656037 (Nat.zero_add _) (by omega) ⟨by omega, by omega⟩
  rw [List.drop_zero, nb_append, nb_append, nb_append, nb_append] at this
  exact this
end
/-! ### turns -/
def clampT (x : Int) : Int := if x < 0 then 0 else if x > 1125899906842624 then 1125899906842624 else x
theorem clamp_range (x : Int) : 0 ≤ clampT x ∧ clampT x ≤ 1125899906842624 := by
  unfold clampT
  split
  · omega
  · split <;> omega
theorem mn_mx (x : Int) : mn (mx x 0) 1125899906842624 = clampT x := by
  unfold mn mx clampT
  repeat' split
  all_goals omega
theorem clamp_id (x : Int) (h0 : 0 ≤ x) (h1 : x ≤ 1125899906842624) : clampT x = x := by
  unfold clampT
  rw [if_neg (by omega), if_neg (by omega)]
/-- How many turns there are ahead of x. -/
def bef (off I x : Int) : Int := (x - off + I - 1) / I
def dueT (off I x : Int) : Int := off + bef off I x * I
theorem bef_bounds (off I x : Int) (hI : 1 ≤ I) (h1 : 0 ≤ off) (h2 : off < I) (hx : 0 ≤ x) : 0 ≤ bef off I x ∧ bef off I x ≤ x - off + I - 1 ∧ 0 ≤ bef off I x * I ∧ bef off I x * I ≤ x - off + I - 1 := by
  have h0 : 0 ≤ bef off I x := Int.ediv_nonneg (by omega) (by omega)
  have h3 : bef off I x * I ≤ x - off + I - 1 := Int.ediv_mul_le _ (by omega)
  have h4 : bef off I x * 1 ≤ bef off I x * I := Int.mul_le_mul_of_nonneg_left hI h0
  exact ⟨h0, by omega, Int.mul_nonneg h0 (by omega), h3⟩
theorem bef_mono (off I x y : Int) (hI : 1 ≤ I) (h : x ≤ y) : bef off I x ≤ bef off I y := Int.ediv_le_ediv (by omega) (by omega)
theorem due_eq (off I x : Int) (hI : 1 ≤ I) (h1 : 0 ≤ off) (h2 : off < I) (hx : 0 ≤ x) : (if x % I ≤ off then x - x % I + off else x - x % I + I + off) = dueT off I x := by
  have hq : I * (x / I) + x % I = x := Int.mul_ediv_add_emod x I
  have hr0 := Int.emod_nonneg x (show I ≠ 0 by omega)
  have hr1 := Int.emod_lt_of_pos x (show 0 < I by omega)
  have hc : I * (x / I) = x / I * I := Int.mul_comm _ _
  rw [hc] at hq
  unfold dueT bef
  by_cases h : x % I ≤ off
  · rw [if_pos h]
    have : (x - off + I - 1) / I = x / I := by
      rw [show x - off + I - 1 = (x % I - off + I - 1) + x / I * I by omega, Int.add_mul_ediv_right _ _ (by omega), Int.ediv_eq_zero_of_lt (by omega) (by omega), Int.zero_add]
    rw [this]
    omega
  · rw [if_neg h]
    have : (x - off + I - 1) / I = x / I + 1 := by
      rw [show x - off + I - 1 = (x % I - off - 1) + (x / I + 1) * I by rw [Int.add_mul]; omega, Int.add_mul_ediv_right _ _ (by omega), Int.ediv_eq_zero_of_lt (by omega) (by omega), Int.zero_add]
    rw [this, Int.add_mul]
    omega
section
variable {a b c : ByteArray} {I J : Int} {k : Nat}
theorem before_f (ha : a.size ≤ 10000) (hb : b.size ≤ 10000) (hc : c.size ≤ 10000) (hk : 40000 ≤ k) (hI : 1 ≤ I) (hI2 : I ≤ 1073741824) (x : Int) : config_before.f k a b c I J x = some (bef (hashT a b c % I) I (clampT x)) := by
  have h1 := Int.emod_nonneg (hashT a b c) (show I ≠ 0 by omega)
  have h2 := Int.emod_lt_of_pos (hashT a b c) (show 0 < I by omega)
  have h3 := clamp_range x
  have hbb := bef_bounds (hashT a b c % I) I (clampT x) hI h1 h2 h3.1
  unfold config_before.f config_bound.f
  rw [Option.bind_some, mn_mx, offset_f ha hb hc hk hI hI2, Option.bind_some, if_neg (by omega)]
  generalize hashT a b c % I = o at *
  generalize clampT x = y at *
  rw [wrap_of (y - o) (by omega) (by omega), wrap_of (y - o + I) (by omega) (by omega), wrap_of (y - o + I - 1) (by omega) (by omega), Int.tdiv_eq_ediv_of_nonneg (by omega)]
  unfold bef at hbb ⊢
  rw [wrap_of _ (by omega) (by omega)]
theorem due_f (ha : a.size ≤ 10000) (hb : b.size ≤ 10000) (hc : c.size ≤ 10000) (hk : 40000 ≤ k) (hI : 1 ≤ I) (hI2 : I ≤ 1073741824) (x : Int) : config_Due.f k a b c I J x = some (dueT (hashT a b c % I) I (clampT x)) := by
  have h1 := Int.emod_nonneg (hashT a b c) (show I ≠ 0 by omega)
  have h2 := Int.emod_lt_of_pos (hashT a b c) (show 0 < I by omega)
  have h3 := clamp_range x
  have hbb := bef_bounds (hashT a b c % I) I (clampT x) hI h1 h2 h3.1
  unfold config_Due.f
  rw [within_f I 1 _ hI hI2, Option.bind_some, if_pos rfl, offset_f ha hb hc hk hI hI2, Option.bind_some, before_f ha hb hc hk hI hI2, Option.bind_some]
  unfold dueT
  rw [wrap_of (bef _ _ _ * I) (by omega) (by omega), wrap_of _ (by omega) (by omega)]
theorem turns_f (ha : a.size ≤ 10000) (hb : b.size ≤ 10000) (hc : c.size ≤ 10000) (hk : 40000 ≤ k) (hI : 1 ≤ I) (hI2 : I ≤ 1073741824) (x y : Int) :
    config_Turns.f k a b c I J x y = some (mx (bef (hashT a b c % I) I (clampT y) - bef (hashT a b c % I) I (clampT x)) 0) := by
  have h1 := Int.emod_nonneg (hashT a b c) (show I ≠ 0 by omega)
  have h2 := Int.emod_lt_of_pos (hashT a b c) (show 0 < I by omega)
  have h3 := clamp_range x
  have h4 := clamp_range y
  have hbx := bef_bounds (hashT a b c % I) I (clampT x) hI h1 h2 h3.1
  have hby := bef_bounds (hashT a b c % I) I (clampT y) hI h1 h2 h4.1
  unfold config_Turns.f
  rw [within_f I 1 _ hI hI2, Option.bind_some, if_pos rfl, before_f ha hb hc hk hI hI2, Option.bind_some, before_f ha hb hc hk hI hI2, Option.bind_some, wrap_of _ (by omega) (by omega)]
theorem refDue_f (ha : a.size ≤ 10000) (hb : b.size ≤ 10000) (hc : c.size ≤ 10000) (hk : 40000 ≤ k) (hI : 1 ≤ I) (hI2 : I ≤ 1073741824) (x : Int) (hx : 0 ≤ x) (hx2 : x ≤ 1125899906842624) : odometerref13_Due.f k a b c I J x = some (dueT (hashT a b c % I) I x) := by
  have h1 := Int.emod_nonneg (hashT a b c) (show I ≠ 0 by omega)
  have h2 := Int.emod_lt_of_pos (hashT a b c) (show 0 < I by omega)
  have hr0 := Int.emod_nonneg x (show I ≠ 0 by omega)
  have hr1 := Int.emod_lt_of_pos x (show 0 < I by omega)
  have hr2 : x % I ≤ x := by
    have e1 := Int.mul_ediv_add_emod x I
    have e2 : 0 ≤ I * (x / I) := Int.mul_nonneg (by omega) (Int.ediv_nonneg hx (by omega))
    omega
  have hd := due_eq (hashT a b c % I) I x hI h1 h2 hx
  unfold odometerref13_Due.f
  rw [if_neg (by omega), refOffset_f ha hb hc hk hI hI2, Option.bind_some, Int.tmod_eq_emod_of_nonneg hx, ← hd]
  generalize hashT a b c % I = o at *
  generalize x % I = r at *
  by_cases h : r ≤ o
  · rw [if_pos h, if_pos h, wrap_of (x - r) (by omega) (by omega), wrap_of _ (by omega) (by omega)]
  · rw [if_neg h, if_neg h, wrap_of (x - r) (by omega) (by omega), wrap_of (x - r + I) (by omega) (by omega), wrap_of _ (by omega) (by omega)]
end
/-- The law, told of its arguments' parts. -/
def TurnsPure : Prop := ∀ (a b c : ByteArray) (I J now more : Int), a.size ≤ 140737488351232 → b.size ≤ 140737488351232 → c.size ≤ 140737488351232 → ∃ k, odometerlaw13_ConfigTurns.f k a b c I J now more = some true
theorem ConfigTurns : TurnsPure := by
  intro a b c I J now more ha hb hc
  unfold odometerlaw13_ConfigTurns.f
  have hw : wrap64 (wrap64 ((a.size : Int) + (b.size : Int)) + (c.size : Int)) = (a.size : Int) + b.size + c.size := by
    rw [wrap_of ((a.size : Int) + b.size) (by omega) (by omega), wrap_of _ (by omega) (by omega)]
  rw [hw]
  by_cases hbig : (a.size : Int) + b.size + c.size > 6000
  · exact ⟨40, by rw [if_pos hbig, known_40]; rfl⟩
  · refine ⟨50000, ?_⟩
    rw [if_neg hbig]
    have ha' : a.size ≤ 10000 := by omega
    have hb' : b.size ≤ 10000 := by omega
    have hc' : c.size ≤ 10000 := by omega
    clear hw hbig ha hb hc
    have hout : (I < 1 ∨ 1073741824 < I) → odometerlaw13_ConfigTurns.j0 50000 now more true a b c I J = some true := by
      intro h
      rw [odometerlaw13_ConfigTurns.j0, if_pos rfl]
      unfold config_Offset.f config_Due.f config_Turns.f
      rw [within_not I 1 _ h, known_ge 49999 (by omega)]
      rfl
    by_cases h1 : I < 1
    · rw [if_pos h1, hout (Or.inl h1)]
    · rw [if_neg h1]
      by_cases h2 : I > 1073741824
      · rw [show decide (I > 1073741824) = true by simpa using h2, hout (Or.inr h2)]
      · rw [show decide (I > 1073741824) = false by simpa using h2, odometerlaw13_ConfigTurns.j0, if_neg (by simp), mn_mx, mn_mx]
        have hI : 1 ≤ I := by omega
        have hI2 : I ≤ 1073741824 := by omega
        have o1 := Int.emod_nonneg (hashT a b c) (show I ≠ 0 by omega)
        have o2 := Int.emod_lt_of_pos (hashT a b c) (show 0 < I by omega)
        have c1 := clamp_range now
        have c2 := clamp_range more
        have b1 := bef_bounds (hashT a b c % I) I (clampT now) hI o1 o2 c1.1
        have b2 := bef_bounds (hashT a b c % I) I (clampT more) hI o1 o2 c2.1
        have hmn : 0 ≤ mn (dueT (hashT a b c % I) I (clampT now)) 1125899906842624 ∧ mn (dueT (hashT a b c % I) I (clampT now)) 1125899906842624 ≤ 1125899906842624 := by
          have : 0 ≤ dueT (hashT a b c % I) I (clampT now) := by unfold dueT; omega
          unfold mn
          split <;> omega
        rw [refDue_f ha' hb' hc' (by omega) hI hI2 _ c1.1 c1.2, Option.bind_some, offset_f ha' hb' hc' (by omega) hI hI2, Option.bind_some, refOffset_f ha' hb' hc' (by omega) hI hI2, Option.bind_some, if_pos rfl,
          due_f ha' hb' hc' (by omega) hI hI2, Option.bind_some, if_pos rfl, due_f ha' hb' hc' (by omega) hI hI2, Option.bind_some, clamp_id _ hmn.1 hmn.2, refDue_f ha' hb' hc' (by omega) hI hI2 _ hmn.1 hmn.2, Option.bind_some,
          show (dueT (hashT a b c % I) I (mn (dueT (hashT a b c % I) I (clampT now)) 1125899906842624) != dueT (hashT a b c % I) I (mn (dueT (hashT a b c % I) I (clampT now)) 1125899906842624)) = false by simp,
          odometerlaw13_ConfigTurns.j1, if_neg (by simp)]
        by_cases hlt : clampT more > clampT now
        · have hm := bef_mono (hashT a b c % I) I (clampT now) (clampT more) hI (by omega)
          rw [if_pos hlt, refDue_f ha' hb' hc' (by omega) hI hI2 _ c2.1 c2.2, Option.bind_some, if_neg (by omega), turns_f ha' hb' hc' (by omega) hI hI2, Option.bind_some, known_ge 49998 (by omega), Option.bind_some]
          have e : mx (bef (hashT a b c % I) I (clampT more) - bef (hashT a b c % I) I (clampT now)) 0 = wrap64 (Int.tdiv (wrap64 (dueT (hashT a b c % I) I (clampT more) - dueT (hashT a b c % I) I (clampT now))) I) := by
            have hd : dueT (hashT a b c % I) I (clampT more) - dueT (hashT a b c % I) I (clampT now) = (bef (hashT a b c % I) I (clampT more) - bef (hashT a b c % I) I (clampT now)) * I := by
              unfold dueT
              rw [Int.sub_mul]
              omega
            rw [wrap_of (dueT _ _ _ - dueT _ _ _) (by unfold dueT; omega) (by unfold dueT; omega), hd, Int.mul_tdiv_cancel _ (by omega), wrap_of _ (by omega) (by omega)]
            unfold mx
            split <;> omega
          rw [if_pos e]
        · have hm := bef_mono (hashT a b c % I) I (clampT more) (clampT now) hI (by omega)
          rw [if_neg hlt, turns_f ha' hb' hc' (by omega) hI hI2, Option.bind_some, known_ge 49998 (by omega), Option.bind_some, if_pos (by unfold mx; split <;> omega)]
end Go.Proofs.Ytedchpflcemdkaa.Pure
