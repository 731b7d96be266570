import Derived.Test.YtapfpnfdpcgpaaaPureLanLet
import Derived.Test.YtapfpnfdpcgpaaaPureLanEsc
import Derived.Lib.Join
/-! A series' name: the program's and the reference's, as one function. -/
namespace Go.Proofs.Ytapfpnfdpcgpaaa.PureLan
open Go.RowKit Go.Proofs.Ytapfpnfdpcgpaaa Go.Proofs.Ytapfpnfdpcgpaaa.PLan Go.Proofs.YtapfpnfdpcgpaaaW.PrintWords
set_option linter.unusedVariables false
set_option linter.unusedSimpArgs false
abbrev Lb := S45
def nmL (x : Lb) : ByteArray := x.f0
def vlL (x : Lb) : ByteArray := x.f1
def bl (s : ByteArray) : List UInt8 := s.data.toList
def ba (l : List UInt8) : ByteArray := ⟨l.toArray⟩
theorem bl_append (s t : ByteArray) : bl (s ++ t) = bl s ++ bl t := by simp [bl, ByteArray.data_append]
theorem bl_length (s : ByteArray) : (bl s).length = s.size := by simp [bl]
theorem ba_bl (s : ByteArray) : ba (bl s) = s := bytes_eta s
theorem bl_ba (l : List UInt8) : bl (ba l) = l := by simp [bl, ba]
theorem eq_ba {s : ByteArray} {l : List UInt8} (h : bl s = l) : s = ba l := by rw [← h, ba_bl]
theorem size_ba (l : List UInt8) : (ba l).size = l.length := by simp [ba, ByteArray.size]
/-- One label's text. -/
def one (x : Lb) : List UInt8 := bl x.f0 ++ [61, 34] ++ (bl x.f1).flatMap escByte ++ [34]
def render : List Lb → List UInt8
  | [] => []
  | x :: r => [123] ++ Lib.join ((x :: r).map one) [44] ++ [125]
def goodL (x : Lb) : Bool := namedB x.f0 95 && decide (x.f1.size ≤ 1024)
def nameF (a0 : ByteArray) (l : List Lb) : ByteArray × Int :=
  if namedB a0 58 = true ∧ l.length ≤ 16 ∧ l.all goodL = true ∧ (l.map nmL).Nodup then (ba (bl a0 ++ render (isort nmL l)), 0) else (⟨#[]⟩, 5)
/-- So few labels, so small, as the laws go through. -/
def Small (l : List Lb) : Prop := l.length ≤ 40 ∧ ∀ x ∈ l, x.f0.size ≤ 10000 ∧ x.f1.size ≤ 10000
theorem esc_len (v : List UInt8) : (v.flatMap escByte).length ≤ 2 * v.length := esc_le v
theorem one_len (x : Lb) (h : x.f0.size ≤ 10000 ∧ x.f1.size ≤ 10000) : (one x).length ≤ 30003 := by
  have h1 := esc_len (bl x.f1)
  rw [bl_length] at h1
  unfold one
  simp only [List.length_append, bl_length, List.length_cons, List.length_nil]
  omega
theorem small_perm {l ys : List Lb} (hp : ys.Perm l) (h : Small l) : Small ys := ⟨by rw [hp.length_eq]; exact h.1, fun x hx => h.2 x (hp.mem_iff.1 hx)⟩
theorem rd_get (xs : List Lb) (i : Nat) (h : i < xs.length) : rd_T45 xs (i : Int) = xs[i] := by
  simp [rd_T45, List.getD, List.getElem?_eq_getElem h]
/-! ### the program's -/
theorem tail_len : ∀ (r : List Lb), (∀ x ∈ r, x.f0.size ≤ 10000 ∧ x.f1.size ≤ 10000) → (Lib.joinTail [44] (r.map one)).length ≤ 30004 * r.length
  | [], _ => by simp [Lib.joinTail]
  | x :: r, h => by
    have h1 := tail_len r (fun y hy => h y (by simp [hy]))
    have h2 := one_len x (h x (by simp))
    simp only [Lib.joinTail, List.map_cons, List.flatten_cons, List.length_append, List.length_cons, List.length_nil] at h1 ⊢
    omega
theorem join_len (l : List Lb) (h : Small l) : (Lib.join (l.map one) [44]).length ≤ 1300000 := by
  obtain ⟨h1, h2⟩ := h
  cases l with
  | nil => simp [Lib.join_nil]
  | cons x r =>
    rw [List.map_cons, Lib.join_cons, List.length_append]
    have h3 := tail_len r (fun y hy => h2 y (by simp [hy]))
    have h4 := one_len x (h2 x (by simp))
    simp only [List.length_cons] at h1
    have h5 : 30004 * r.length ≤ 30004 * 40 := Nat.mul_le_mul_left _ (by omega)
    omega
theorem labelName_go (a0 : ByteArray) (ha : a0.size ≤ 10000) (s : List Lb) (hs : Small s) (hne : s ≠ []) : ∀ (n k i : Nat), i + n = s.length → n < k →
    label_Name.l0 k a0 ((s.take i).map fun x => ba (one x)) s (s.length : Int) (i : Int) = some (ba (bl a0 ++ render s), 0)
  | 0, k + 1, i, h, hk => by
    obtain rfl : i = s.length := by omega
    have hmap : ((s.map fun x => ba (one x)).map fun x => x.data.toList) = s.map one := by
      rw [List.map_map]
      apply List.map_congr_left
      intro x _
      exact bl_ba (one x)
    have hj := join_len s hs
    have z1 : (⟨#[123]⟩ : ByteArray).size = 1 := rfl
    have hJ : strings_Join.f (s.map fun x => ba (one x)) (⟨#[44]⟩ : ByteArray) = some (ba (Lib.join (s.map one) [44])) := by
      unfold strings_Join.f
      rw [hmap, if_pos ⟨by simp; have := hs.1; omega, by show (Lib.join (s.map one) [44]).length ≤ _; omega⟩]
      rfl
    have hJs : (ba (Lib.join (s.map one) [44])).size ≤ 1300000 := by rw [size_ba]; exact hj
    have hsa : (a0 ++ (⟨#[123]⟩ : ByteArray)).size = a0.size + 1 := by rw [ByteArray.size_append, z1]
    rw [label_Name.l0, if_neg (by omega), List.take_of_length_le (Nat.le_refl _), if_pos (by omega), hJ, Option.bind_some, if_pos (by omega), if_pos (by rw [ByteArray.size_append]; omega)]
    congr 2
    apply eq_ba
    rw [bl_append, bl_append, bl_append, bl_ba]
    cases s with
    | nil => exact absurd rfl hne
    | cons x r =>
      show bl a0 ++ [123] ++ Lib.join ((x :: r).map one) [44] ++ [125] = bl a0 ++ ([123] ++ Lib.join ((x :: r).map one) [44] ++ [125])
      simp only [List.append_assoc]
  | n + 1, k + 1, i, h, hk => by
    have hw : wrap64 ((i : Int) + 1) = ((i + 1 : Nat) : Int) := by have := hs.1; rw [wrap_of] <;> omega
    have hi : i < s.length := by omega
    have hx := hs.2 s[i] (List.getElem_mem hi)
    have hE : label_Escape.f (s[i]).f1 = some (ba ((bl (s[i]).f1).flatMap escByte)) := if_pos (by omega)
    have hEs : (ba ((bl (s[i]).f1).flatMap escByte)).size ≤ 20000 := by
      rw [size_ba]
      have := esc_len (bl (s[i]).f1)
      rw [bl_length] at this
      omega
    have z2 : (⟨#[61, 34]⟩ : ByteArray).size = 2 := rfl
    have hp : ∀ (x : Lb), (((x.f0 ++ (⟨#[61, 34]⟩ : ByteArray)) ++ ba ((bl x.f1).flatMap escByte)) ++ (⟨#[34]⟩ : ByteArray)) = ba (one x) := fun x => by
      apply eq_ba
      rw [bl_append, bl_append, bl_append, bl_ba]
      rfl
    rw [label_Name.l0, if_pos (by omega), if_pos (by omega), if_pos (by omega), rd_get s i hi, if_pos (by omega), hE, Option.bind_some, if_pos (by rw [ByteArray.size_append, z2]; omega), if_pos (by rw [ByteArray.size_append, ByteArray.size_append, z2]; omega), if_pos (by simp; have := hs.1; omega), hw, hp]
    have ht : ((s.take i).map fun x => ba (one x)) ++ [ba (one s[i])] = (s.take (i + 1)).map fun x => ba (one x) := by
      rw [List.take_succ_eq_append_getElem hi, List.map_append]
      rfl
    rw [ht]
    exact labelName_go a0 ha s hs hne n k (i + 1) (by omega) (by omega)
theorem bad_good (l : List Lb) : l.any (badL nmL vlL fun s => namedB s 95) = !(l.all goodL) := by
  induction l with
  | nil => rfl
  | cons x r ih =>
    rw [List.any_cons, List.all_cons, ih]
    have : badL nmL vlL (fun s => namedB s 95) x = !goodL x := by
      unfold badL goodL nmL vlL
      cases h0 : namedB x.f0 95
      · simp [h0]
      · by_cases h : x.f1.size ≤ 1024
        · have h' : ¬ 1024 < x.f1.size := by omega
          simp [h0, h, h']
        · have h' : 1024 < x.f1.size := by omega
          simp [h0, h, h']
    rw [this]
    cases goodL x <;> simp
theorem twins_nodup (l : List Lb) : (twins nmL (isort nmL l) = false) ↔ (l.map nmL).Nodup := by
  rw [twins_iff nmL _ (isort_rising nmL l)]
  exact ((isort_perm nmL l).map nmL).nodup_iff
theorem labelName_f (a0 : ByteArray) (ha : a0.size ≤ 10000) (l : List Lb) (hl : Small l) (k : Nat) (hk : 100 ≤ k) : label_Name.f k a0 l = some (nameF a0 l) := by
  have hS : label_series.f a0 l = some (seriesF nmL vlL (fun s => namedB s 95) (fun s => namedB s 58) a0 l) :=
    if_pos ⟨by omega, by have := hl.1; omega, fun x hx => by have := (hl.2 x hx).1; omega⟩
  have hI : ∀ c : Int, c ≠ 5 → errors_Is.f (some c) (some 5) = some true := fun c hc => if_pos ⟨rfl, fun e => hc (Option.some.inj e)⟩
  have hI0 : errors_Is.f none (some 5) = some false := if_pos ⟨rfl, by simp⟩
  unfold label_Name.f
  rw [hS, Option.bind_some]
  unfold seriesF nameF
  by_cases h1 : namedB a0 58 = true
  · rw [if_neg (by simp [h1])]
    by_cases h2 : 16 < l.length ∨ l.any (badL nmL vlL fun s => namedB s 95) = true
    · rw [if_pos h2, hI 102 (by decide), Option.bind_some, if_pos rfl, if_neg]
      rintro ⟨_, h3, h4, _⟩
      rcases h2 with h2 | h2
      · omega
      · rw [bad_good, h4] at h2; cases h2
    · rw [if_neg h2]
      by_cases h3 : twins nmL (isort nmL l) = true
      · rw [if_pos h3, hI 103 (by decide), Option.bind_some, if_pos rfl, if_neg]
        rintro ⟨_, _, _, h4⟩
        rw [(twins_nodup l).2 h4] at h3
        cases h3
      · have h3' : twins nmL (isort nmL l) = false := by simpa using h3
        have hlen : (isort nmL l).length = l.length := (isort_perm nmL l).length_eq
        rw [if_neg h3, hI0, Option.bind_some, if_neg (by simp), if_pos (c := _ ∧ _) ⟨h1, by omega, by
          have : ¬ l.any (badL nmL vlL fun s => namedB s 95) = true := fun h => h2 (Or.inr h)
          rw [bad_good] at this
          simpa using this, (twins_nodup l).1 h3'⟩]
        by_cases h0 : ((isort nmL l).length : Int) = 0
        · have : isort nmL l = [] := List.eq_nil_of_length_eq_zero (by omega)
          rw [if_pos h0, this]
          simp only [render, List.append_nil, ba_bl]
        · have hne : isort nmL l ≠ [] := fun e => h0 (by rw [e]; rfl)
          have := hl.1
          rw [if_neg h0]
          exact labelName_go a0 ha (isort nmL l) (small_perm (isort_perm nmL l) hl) hne (isort nmL l).length k 0 (by omega) (by omega)
  · rw [if_pos (by simpa using h1), hI 101 (by decide), Option.bind_some, if_pos rfl, if_neg (fun h => h1 h.1)]
/-! ### the reference's -/
/-- No earlier label of that name. -/
def noneBefore (l : List Lb) (x : Lb) : Nat → Nat → Bool
  | 0, _ => true
  | n + 1, j => !decide ((l.getD j x).f0.toList = x.f0.toList) && noneBefore l x n (j + 1)
def mayFrom (l : List Lb) : Nat → Nat → Bool
  | 0, _ => true
  | n + 1, i => goodL (l.getD i z45) && (noneBefore l (l.getD i z45) i 0 && mayFrom l n (i + 1))
theorem may_inner (l : List Lb) (hl : Small l) (i : Nat) (hi : i < l.length) (R : Bool) (K : Nat) (hR : ∀ k, K ≤ k → odometerref03_may.l0 k l ((i + 1 : Nat) : Int) = some R) : ∀ (n k j : Nat), j + n = i → n + 1 + K ≤ k →
    odometerref03_may.l1 k l (i : Int) (j : Int) = some (noneBefore l (l.getD i z45) n j && R)
  | 0, k, j, h, hk => by
    obtain ⟨k, rfl⟩ : ∃ q, k = q + 1 := ⟨k - 1, by omega⟩
    obtain rfl : j = i := by omega
    have hw : wrap64 ((j : Int) + 1) = ((j + 1 : Nat) : Int) := by have := hl.1; rw [wrap_of] <;> omega
    rw [odometerref03_may.l1, if_neg (by omega), hw, hR k (by omega)]
    simp [noneBefore]
  | n + 1, k, j, h, hk => by
    obtain ⟨k, rfl⟩ : ∃ q, k = q + 1 := ⟨k - 1, by omega⟩
    have hw : wrap64 ((j : Int) + 1) = ((j + 1 : Nat) : Int) := by have := hl.1; rw [wrap_of] <;> omega
    rw [odometerref03_may.l1, if_pos (by omega), if_pos (by omega), if_pos (by omega), if_pos (by omega), if_pos (by omega), hw, rd_get l i hi, rd_get l j (by omega), noneBefore]
    have g1 : l.getD i z45 = l[i] := by simp [List.getD, List.getElem?_eq_getElem hi]
    have g2 : l.getD j l[i] = l[j]'(by omega) := by simp [List.getD, List.getElem?_eq_getElem (show j < l.length by omega)]
    rw [g1, g2]
    by_cases he : (l[j]'(by omega)).f0.toList = (l[i]).f0.toList
    · rw [if_pos he]
      simp [he]
    · rw [if_neg he, may_inner l hl i hi R K hR n k (j + 1) (by omega) (by omega), g1]
      simp [he]
theorem may_go (l : List Lb) (hl : Small l) : ∀ (n k i : Nat), i + n = l.length → n * 50 + 30010 ≤ k → odometerref03_may.l0 k l (i : Int) = some (mayFrom l n i)
  | 0, k, i, h, hk => by
    obtain ⟨k, rfl⟩ : ∃ j, k = j + 1 := ⟨k - 1, by omega⟩
    obtain rfl : i = l.length := by omega
    rw [odometerref03_may.l0, if_neg (by omega)]
    rfl
  | n + 1, k, i, h, hk => by
    obtain ⟨k, rfl⟩ : ∃ j, k = j + 1 := ⟨k - 1, by omega⟩
    obtain ⟨k, rfl⟩ : ∃ j, k = j + 1 := ⟨k - 1, by omega⟩
    have hi : i < l.length := by omega
    have hx := hl.2 l[i] (List.getElem_mem hi)
    have g1 : l.getD i z45 = l[i] := by simp [List.getD, List.getElem?_eq_getElem hi]
    have hl1 := hl.1
    rw [odometerref03_may.l0, if_pos (by omega), if_pos (by omega), rd_get l i hi, word_f (k + 1) (l[i]).f0 (by omega) (by omega), Option.bind_some, mayFrom, g1]
    have key : odometerref03_may.j1 (k + 1) l (i : Int) false = some (noneBefore l l[i] i 0 && mayFrom l n (i + 1)) := by
      rw [odometerref03_may.j1, if_neg (by simp)]
      obtain ⟨K, hK⟩ : ∃ K, K = n * 50 + 30010 := ⟨_, rfl⟩
      have hrec : ∀ k', K ≤ k' → odometerref03_may.l0 k' l ((i + 1 : Nat) : Int) = some (mayFrom l n (i + 1)) := fun k' hk' => may_go l hl n k' (i + 1) (by omega) (by omega)
      have := may_inner l hl i hi (mayFrom l n (i + 1)) K hrec i k 0 (by omega) (by omega)
      rw [g1] at this
      exact this
    have bad : odometerref03_may.j1 (k + 1) l (i : Int) true = some false := by rw [odometerref03_may.j1, if_pos rfl]
    unfold goodL
    cases hw : namedB (l[i]).f0 95 with
    | false => rw [if_neg (by simp), bad]; simp
    | true =>
      rw [if_pos rfl]
      by_cases hv : (l[i]).f1.size ≤ 1024
      · rw [show decide (((l[i]).f1.size : Int) > 1024) = false by simp; omega, key]
        simp [hv]
      · rw [show decide (((l[i]).f1.size : Int) > 1024) = true by simp; omega, bad]
        simp [hv]
theorem noneBefore_iff (l : List Lb) (x : Lb) : ∀ (n j : Nat), noneBefore l x n j = true ↔ ∀ t, j ≤ t → t < j + n → (l.getD t x).f0 ≠ x.f0
  | 0, j => by simp [noneBefore]; intro t h1 h2; omega
  | n + 1, j => by
    rw [noneBefore, Bool.and_eq_true, noneBefore_iff l x n (j + 1)]
    simp only [Bool.not_eq_true', decide_eq_false_iff_not]
    constructor
    · rintro ⟨h1, h2⟩ t h3 h4
      rcases Nat.eq_or_lt_of_le h3 with rfl | h5
      · exact fun e => h1 (by rw [e])
      · exact h2 t (by omega) (by omega)
    · intro h
      exact ⟨fun e => h j (Nat.le_refl _) (by omega) (toList_inj e), fun t h1 h2 => h t (by omega) (by omega)⟩
theorem mayFrom_iff (l : List Lb) : ∀ (n i : Nat), i + n = l.length → (mayFrom l n i = true ↔ (∀ t, i ≤ t → (h : t < l.length) → goodL l[t] = true ∧ ∀ s, (hs : s < t) → (l[s]'(by omega)).f0 ≠ (l[t]).f0))
  | 0, i, h => by
    simp only [mayFrom, true_iff]
    intro t h1 h2
    omega
  | n + 1, i, h => by
    have hi : i < l.length := by omega
    have g1 : l.getD i z45 = l[i] := by simp [List.getD, List.getElem?_eq_getElem hi]
    rw [mayFrom, Bool.and_eq_true, Bool.and_eq_true, mayFrom_iff l n (i + 1) (by omega), g1, noneBefore_iff]
    have g2 : ∀ (s : Nat) (hs : s < i), l.getD s l[i] = l[s]'(by omega) := fun s hs => by simp [List.getD, List.getElem?_eq_getElem (show s < l.length by omega)]
    constructor
    · rintro ⟨h1, h2, h3⟩ t h4 h5
      rcases Nat.eq_or_lt_of_le h4 with rfl | h6
      · exact ⟨h1, fun s hs => by have := h2 s (by omega) (by omega); rwa [g2 s hs] at this⟩
      · exact h3 t (by omega) h5
    · intro h1
      refine ⟨(h1 i (Nat.le_refl _) hi).1, fun t _ ht => ?_, fun t ht h2 => h1 t (by omega) h2⟩
      rw [g2 t (by omega)]
      exact (h1 i (Nat.le_refl _) hi).2 t (by omega)
theorem may_iff (l : List Lb) : mayFrom l l.length 0 = true ↔ (l.all goodL = true ∧ (l.map nmL).Nodup) := by
  rw [mayFrom_iff l l.length 0 (by omega), List.all_eq_true]
  constructor
  · intro h
    refine ⟨fun x hx => ?_, ?_⟩
    · obtain ⟨t, ht, rfl⟩ := List.getElem_of_mem hx
      exact (h t (Nat.zero_le _) ht).1
    · rw [List.Nodup, List.pairwise_map, List.pairwise_iff_getElem]
      intro s t hs ht hst
      exact (h t (Nat.zero_le _) ht).2 s hst
  · rintro ⟨h1, h2⟩ t _ ht
    refine ⟨h1 _ (List.getElem_mem ht), fun s hs => ?_⟩
    rw [List.Nodup, List.pairwise_map, List.pairwise_iff_getElem] at h2
    exact h2 s t (by omega) ht hs
theorem may_f (l : List Lb) (hl : Small l) (k : Nat) (hk : 32010 ≤ k) : odometerref03_may.f k l = some (decide (l.length ≤ 16 ∧ l.all goodL = true ∧ (l.map nmL).Nodup)) := by
  unfold odometerref03_may.f
  by_cases h : (l.length : Int) > 16
  · rw [if_pos h, decide_eq_false]
    rintro ⟨h1, _⟩
    omega
  · have := hl.1
    rw [if_neg h]
    have := may_go l hl l.length k 0 (by omega) (by omega)
    rw [show ((0 : Nat) : Int) = 0 from rfl] at this
    rw [this]
    congr 1
    rw [Bool.eq_iff_iff, may_iff, decide_eq_true_eq]
    exact ⟨fun h2 => ⟨by omega, h2⟩, fun h2 => h2.2⟩
/-! Sorted -/
theorem sorted_inner (l : List Lb) (hl : Small l) (i : Nat) (hi : i < l.length) (acc R : List Lb) (hacc : acc.length ≤ i) (K : Nat) : ∀ (n k j : Nat), j + n = acc.length → n + 1 + K ≤ k →
    (∀ k, K ≤ k → odometerref03_Sorted.l0 k l (acc.take j ++ ins nmL l[i] (acc.drop j)) ((i + 1 : Nat) : Int) = some R) →
    odometerref03_Sorted.l1 k l acc (i : Int) (j : Int) = some R := by
  intro n
  have hl1 := hl.1
  have hwi : wrap64 ((i : Int) + 1) = ((i + 1 : Nat) : Int) := by rw [wrap_of] <;> omega
  have eta : ∀ x : Lb, (⟨x.f0, x.f1⟩ : Lb) = x := fun x => rfl
  induction n with
  | zero =>
    intro k j h hk hR
    obtain ⟨k, rfl⟩ : ∃ q, k = q + 1 := ⟨k - 1, by omega⟩
    obtain rfl : j = acc.length := by omega
    rw [odometerref03_Sorted.l1, if_neg (by omega), if_pos (by omega), if_pos (by omega)]
    simp only [Option.bind_some, Int.toNat_natCast, rd_get l i hi, hwi, eta, List.nil_append, List.take_length, List.drop_length, List.append_nil, List.length_nil, List.length_cons, List.length_append] at hR ⊢
    rw [if_pos (by omega), if_pos (by omega), if_pos (by omega), if_pos (by omega), if_pos (by omega)]
    exact hR k (by omega)
  | succ n ih =>
    intro k j h hk hR
    obtain ⟨k, rfl⟩ : ∃ q, k = q + 1 := ⟨k - 1, by omega⟩
    have hj : j < acc.length := by omega
    have hwj : wrap64 ((j : Int) + 1) = ((j + 1 : Nat) : Int) := by rw [wrap_of] <;> omega
    rw [odometerref03_Sorted.l1, if_pos (by omega), if_pos (by omega), if_pos (by omega), if_pos (by omega), rd_get l i hi, rd_get acc j hj, hwj, hwi]
    rw [List.drop_eq_getElem_cons hj] at hR
    by_cases hlt : Op.bytesLess ((acc[j]).f0).toList ((l[i]).f0).toList = true
    · rw [if_pos hlt]
      refine ih k (j + 1) (by omega) (by omega) ?_
      have e : ins nmL l[i] (acc[j] :: acc.drop (j + 1)) = acc[j] :: ins nmL l[i] (acc.drop (j + 1)) := by
        rw [ins, if_pos (show ltN nmL acc[j] l[i] = true from hlt)]
      rw [e] at hR
      rw [List.take_succ_eq_append_getElem hj, List.append_assoc]
      exact hR
    · have e : ins nmL l[i] (acc[j] :: acc.drop (j + 1)) = l[i] :: acc[j] :: acc.drop (j + 1) := by
        rw [ins, if_neg (show ¬ ltN nmL acc[j] l[i] = true from hlt)]
      rw [e, ← List.drop_eq_getElem_cons hj] at hR
      rw [if_neg hlt, if_pos (by omega)]
      have d1 : (acc.take j).length = j := by rw [List.length_take]; omega
      have d2 : (acc.drop j).length = acc.length - j := List.length_drop
      simp only [Option.bind_some, Int.toNat_natCast, eta, List.nil_append, List.length_nil, List.length_cons, List.length_append, d1, d2]
      rw [if_pos (by omega), if_pos (by omega), if_pos (by omega)]
      have := hR k (by omega)
      rwa [show acc.take j ++ l[i] :: acc.drop j = acc.take j ++ [l[i]] ++ acc.drop j by simp] at this
theorem sorted_go (l : List Lb) (hl : Small l) : ∀ (n k i : Nat) (acc : List Lb), i + n = l.length → acc.length = i → n * 50 + 1 ≤ k → odometerref03_Sorted.l0 k l acc (i : Int) = some ((l.drop i).foldl (fun acc x => ins nmL x acc) acc)
  | 0, k, i, acc, h, ha, hk => by
    obtain ⟨k, rfl⟩ : ∃ j, k = j + 1 := ⟨k - 1, by omega⟩
    obtain rfl : i = l.length := by omega
    rw [odometerref03_Sorted.l0, if_neg (by omega), List.drop_length]
    rfl
  | n + 1, k, i, acc, h, ha, hk => by
    obtain ⟨k, rfl⟩ : ∃ j, k = j + 1 := ⟨k - 1, by omega⟩
    have hi : i < l.length := by omega
    have hl1 := hl.1
    rw [odometerref03_Sorted.l0, if_pos (by omega), List.drop_eq_getElem_cons hi, List.foldl_cons]
    refine sorted_inner l hl i hi acc _ (by omega) (n * 50 + 1) acc.length k 0 (by omega) (by omega) ?_
    intro k' hk'
    rw [List.take_zero, List.drop_zero, List.nil_append]
    refine sorted_go l hl n k' (i + 1) _ (by omega) ?_ hk'
    rw [(ins_perm nmL l[i] acc).length_eq, List.length_cons, ha]
theorem sorted_f (l : List Lb) (hl : Small l) (k : Nat) (hk : 2001 ≤ k) : odometerref03_Sorted.f k l = some (isort nmL l) := by
  have hl1 := hl.1
  exact sorted_go l hl l.length k 0 [] (by omega) rfl (by omega)
/-! Name -/
def refRest (s : List Lb) : Nat → Nat → List UInt8
  | 0, _ => if s.length > 0 then [125] else []
  | n + 1, i => (if i = 0 then [123] else [44]) ++ one (s.getD i z45) ++ refRest s n (i + 1)
theorem refName_go (s : List Lb) (hs : Small s) : ∀ (n k i : Nat) (t : ByteArray), i + n = s.length → n + 30010 ≤ k → t.size ≤ 10000 + 40000 * i →
    odometerref03_Name.l0 k s t (i : Int) = some (ba (bl t ++ refRest s n i), 0)
  | 0, k, i, t, h, hk, ht => by
    obtain ⟨k, rfl⟩ : ∃ j, k = j + 1 := ⟨k - 1, by omega⟩
    have hs1 := hs.1
    obtain rfl : i = s.length := by omega
    rw [odometerref03_Name.l0, if_neg (by omega)]
    by_cases h0 : s.length > 0
    · rw [if_pos (by omega), if_pos (by omega), refRest, if_pos h0]
      congr 2
    · rw [if_neg (by omega), refRest, if_neg h0, List.append_nil, ba_bl]
  | n + 1, k, i, t, h, hk, ht => by
    obtain ⟨k, rfl⟩ : ∃ j, k = j + 1 := ⟨k - 1, by omega⟩
    have hs1 := hs.1
    have hi : i < s.length := by omega
    have hw : wrap64 ((i : Int) + 1) = ((i + 1 : Nat) : Int) := by rw [wrap_of] <;> omega
    have hx := hs.2 s[i] (List.getElem_mem hi)
    have g1 : s.getD i z45 = s[i] := by simp [List.getD, List.getElem?_eq_getElem hi]
    have hE : odometerref03_Escape.f k (s[i]).f1 = some (ba ((bl (s[i]).f1).flatMap escByte)) := refEscape_f k _ (by omega) (by omega)
    have hEs : (ba ((bl (s[i]).f1).flatMap escByte)).size ≤ 20000 := by
      rw [size_ba]
      have := esc_len (bl (s[i]).f1)
      rw [bl_length] at this
      omega
    have z2 : (⟨#[61, 34]⟩ : ByteArray).size = 2 := rfl
    have z1 : ∀ c : UInt8, (⟨#[c]⟩ : ByteArray).size = 1 := fun _ => rfl
    have step : ∀ c : UInt8, c = (if i = 0 then 123 else 44) → ∀ R, odometerref03_Name.l0 k s (((((t ++ (⟨#[c]⟩ : ByteArray)) ++ (s[i]).f0) ++ (⟨#[61, 34]⟩ : ByteArray)) ++ ba ((bl (s[i]).f1).flatMap escByte)) ++ (⟨#[34]⟩ : ByteArray)) ((i + 1 : Nat) : Int) = R →
        R = some (ba (bl t ++ refRest s (n + 1) i), 0) := by
      intro c hc R hR
      have hsz : (((((t ++ (⟨#[c]⟩ : ByteArray)) ++ (s[i]).f0) ++ (⟨#[61, 34]⟩ : ByteArray)) ++ ba ((bl (s[i]).f1).flatMap escByte)) ++ (⟨#[34]⟩ : ByteArray)).size ≤ 10000 + 40000 * (i + 1) := by
        simp only [ByteArray.size_append, z1, z2]
        omega
      rw [← hR, refName_go s hs n k (i + 1) _ (by omega) (by omega) hsz, refRest, g1]
      congr 3
      simp only [bl_append, bl_ba, one, List.append_assoc]
      rw [hc]
      try (split <;> rfl)
    rw [odometerref03_Name.l0, if_pos (by omega), rd_get s i hi, hE, hw]
    simp only [Option.bind_some]
    by_cases h0 : i = 0
    · rw [if_pos (by omega : (i : Int) = 0), if_pos (by omega), if_pos (by omega), if_pos (by simp only [ByteArray.size_append, z1]; omega), if_pos (by simp only [ByteArray.size_append, z1]; omega), if_pos (by simp only [ByteArray.size_append, z1, z2]; omega), if_pos (by simp only [ByteArray.size_append, z1, z2]; omega)]
      exact step 123 (by rw [if_pos h0]) _ rfl
    · rw [if_neg (by omega : ¬ (i : Int) = 0), if_pos (by omega), if_pos (by omega), if_pos (by simp only [ByteArray.size_append, z1]; omega), if_pos (by simp only [ByteArray.size_append, z1]; omega), if_pos (by simp only [ByteArray.size_append, z1, z2]; omega), if_pos (by simp only [ByteArray.size_append, z1, z2]; omega)]
      exact step 44 (by rw [if_neg h0]) _ rfl
theorem rest_tail (s : List Lb) (h0 : s.length > 0) : ∀ (n i : Nat), i + n = s.length → 0 < i → refRest s n i = Lib.joinTail [44] ((s.drop i).map one) ++ [125]
  | 0, i, h, hi => by
    obtain rfl : i = s.length := by omega
    rw [refRest, if_pos h0, List.drop_length]
    rfl
  | n + 1, i, h, hi => by
    have hil : i < s.length := by omega
    have g1 : s.getD i z45 = s[i] := by simp [List.getD, List.getElem?_eq_getElem hil]
    rw [refRest, if_neg (by omega), g1, rest_tail s h0 n (i + 1) (by omega) (by omega), List.drop_eq_getElem_cons hil]
    simp only [Lib.joinTail, List.map_cons, List.flatten_cons, List.append_assoc]
theorem rest_render : ∀ s : List Lb, refRest s s.length 0 = render s
  | [] => rfl
  | x :: r => by
    have := rest_tail (x :: r) (by simp) r.length 1 (by simp; omega) (by omega)
    show [123] ++ one ((x :: r).getD 0 z45) ++ refRest (x :: r) r.length 1 = render (x :: r)
    rw [this, render, List.map_cons, Lib.join_cons]
    show [123] ++ one x ++ (Lib.joinTail [44] (r.map one) ++ [125]) = [123] ++ (one x ++ Lib.joinTail [44] (r.map one)) ++ [125]
    simp only [List.append_assoc]
theorem refName_f (a0 : ByteArray) (ha : a0.size ≤ 10000) (l : List Lb) (hl : Small l) (k : Nat) (hk : 40000 ≤ k) : odometerref03_Name.f k a0 l = some (nameF a0 l) := by
  obtain ⟨k, rfl⟩ : ∃ j, k = j + 1 := ⟨k - 1, by omega⟩
  have bad : odometerref03_Name.j0 (k + 1) a0 l true = some ((⟨#[]⟩ : ByteArray), 5) := by rw [odometerref03_Name.j0, if_pos rfl]
  unfold odometerref03_Name.f nameF
  rw [metric_f (k + 1) a0 (by omega) (by omega), Option.bind_some, may_f l hl (k + 1) (by omega)]
  by_cases h1 : namedB a0 58 = true
  · rw [if_pos h1, Option.bind_some]
    by_cases h2 : l.length ≤ 16 ∧ l.all goodL = true ∧ (l.map nmL).Nodup
    · have hp := isort_perm nmL l
      have hsm := small_perm hp hl
      have := hsm.1
      rw [if_pos (c := _ ∧ _) ⟨h1, h2⟩, decide_eq_true h2, Bool.not_true, odometerref03_Name.j0, if_neg (by simp), sorted_f l hl k (by omega), Option.bind_some]
      have := refName_go (isort nmL l) hsm (isort nmL l).length k 0 a0 (by omega) (by omega) (by omega)
      rw [show ((0 : Nat) : Int) = 0 from rfl, rest_render] at this
      exact this
    · rw [if_neg (fun h => h2 h.2), decide_eq_false h2, Bool.not_false, bad]
  · rw [if_neg h1, if_neg (fun h => h1 h.1), bad]
/-- In whichever order the labels are. -/
theorem nameF_perm (a0 : ByteArray) {l l' : List Lb} (hp : l'.Perm l) : nameF a0 l' = nameF a0 l := by
  unfold nameF
  have h1 : l'.length = l.length := hp.length_eq
  have h2 : l'.all goodL = l.all goodL := by
    rw [Bool.eq_iff_iff, List.all_eq_true, List.all_eq_true]
    exact ⟨fun h x hx => h x (hp.mem_iff.2 hx), fun h x hx => h x (hp.mem_iff.1 hx)⟩
  have h3 : (l'.map nmL).Nodup ↔ (l.map nmL).Nodup := (hp.map nmL).nodup_iff
  by_cases h : namedB a0 58 = true ∧ l.length ≤ 16 ∧ l.all goodL = true ∧ (l.map nmL).Nodup
  · have h' : namedB a0 58 = true ∧ l'.length ≤ 16 ∧ l'.all goodL = true ∧ (l'.map nmL).Nodup := ⟨h.1, by omega, by rw [h2]; exact h.2.2.1, h3.2 h.2.2.2⟩
    rw [if_pos h, if_pos h', sorted_unique nmL ((isort_perm nmL l').trans hp) (isort_rising nmL l') ((twins_nodup l').2 h'.2.2.2)]
  · rw [if_neg h, if_neg]
    rintro ⟨a, b, c, d⟩
    exact h ⟨a, by omega, by rw [← h2]; exact c, h3.1 d⟩
end Go.Proofs.Ytapfpnfdpcgpaaa.PureLan
