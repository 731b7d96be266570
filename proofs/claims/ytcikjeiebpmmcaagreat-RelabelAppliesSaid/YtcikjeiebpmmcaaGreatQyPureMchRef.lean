/- A text of this claim, pruned by a program of the session (prune.py) to what the theorem rests on. -/
import Derived.Test.YtcikjeiebpmmcaaGreatQyPMchx0
import Derived.Test.YtcikjeiebpmmcaaGreatQyPMchx1
import Derived.Test.YtcikjeiebpmmcaaGreatQyPMchx2
import Derived.Test.YtcikjeiebpmmcaaGreatQyPMchx3
import Derived.Test.YtcikjeiebpmmcaaGreatQyPMchx4
import Derived.Test.YtcikjeiebpmmcaaGreatQyPMchx5
import Derived.Test.YtcikjeiebpmmcaaGreatQyPMchx6
import Derived.Test.YtcikjeiebpmmcaaGreatQyPMchx7
import Derived.Test.YtcikjeiebpmmcaaGreatQyPMchx8
import Derived.Test.YtcikjeiebpmmcaaGreatQyPMchx9
import Derived.Test.YtcikjeiebpmmcaaGreatQyPMchx10
import Derived.Test.YtcikjeiebpmmcaaGreatQyPMchx11
import Derived.Test.YtcikjeiebpmmcaaGreatQyPMchx12
import Derived.Test.YtcikjeiebpmmcaaGreatQyPMchx13
import Derived.Test.YtcikjeiebpmmcaaGreatQyPMchx14
import Derived.Test.YtcikjeiebpmmcaaGreatQyPMchx15
import Derived.Test.YtcikjeiebpmmcaaGreatQyPMchx16
import Derived.Test.YtcikjeiebpmmcaaGreatQyPMchx17
import Derived.Test.YtcikjeiebpmmcaaGreatQyPMchx18
import Derived.Test.YtcikjeiebpmmcaaGreatQyPMchx19
import Derived.Test.YtcikjeiebpmmcaaGreatQyPMchx20
import Derived.Test.YtcikjeiebpmmcaaGreatQyPureMchName
import Derived.Test.YtcikjeiebpmmcaaGreatQyPureMchLet
import Derived.Test.YtcikjeiebpmmcaaGreatQyPureMchEsc
namespace Go.Proofs.YtcikjeiebpmmcaaGreat.PureMch
open Go.RowKit Go.Proofs.YtcikjeiebpmmcaaGreat Go.Proofs.YtcikjeiebpmmcaaGreat.PMch Go.Proofs.YtcikjeiebpmmcaaGreatW.PrintWords
set_option linter.unusedVariables false
set_option linter.unusedSimpArgs false
def noneBefore (l : List Lb) (x : Lb) : Nat → Nat → Bool
  | 0, _ => true
  | n + 1, j => !decide ((l.getD j x).f0.toList = x.f0.toList) && noneBefore l x n (j + 1)
def mayFrom (l : List Lb) : Nat → Nat → Bool
  | 0, _ => true
  | n + 1, i => goodL (l.getD i z96) && (noneBefore l (l.getD i z96) i 0 && mayFrom l n (i + 1))
theorem may_inner (l : List Lb) (hl : l.length ≤ 40 ∧ ∀ x ∈ l, x.f0.size ≤ 10000) (i : Nat) (hi : i < l.length) (R : Bool) (K : Nat) (hR : ∀ k, K ≤ k → odometerref03_may.l0 k l ((i + 1 : Nat) : Int) = some R) : ∀ (n k j : Nat), j + n = i → n + 1 + K ≤ k →
    odometerref03_may.l1 k l (i : Int) (j : Int) = some (noneBefore l (l.getD i z96) n j && R)
  | 0, k, j, h, hk => by
    obtain ⟨k, rfl⟩ : ∃ q, k = q + 1 := ⟨k - 1, by omega⟩
    obtain rfl : j = i := by omega
    have hw : wrap64 ((j : Int) + 1) = ((j + 1 : Nat) : Int) := by have := hl.1; rw [wrap_of] <;> omega
    rw [odometerref03_may.l1, if_neg (by omega), hw, hR k (by omega)]
    simp [noneBefore]
  | n + 1, k, j, h, hk => by
    obtain ⟨k, rfl⟩ : ∃ q, k = q + 1 := ⟨k - 1, by omega⟩
    have hw : wrap64 ((j : Int) + 1) = ((j + 1 : Nat) : Int) := by have := hl.1; rw [wrap_of] <;> omega
    rw [odometerref03_may.l1, if_pos (by omega), if_pos (by omega), if_pos (by omega), if_pos (by omega), if_pos (by omega), hw, rd_get l i hi, rd_get l j (by omega), noneBefore]
    have g1 : l.getD i z96 = l[i] := by simp [List.getD, List.getElem?_eq_getElem hi]
    have g2 : l.getD j l[i] = l[j]'(by omega) := by simp [List.getD, List.getElem?_eq_getElem (show j < l.length by omega)]
    rw [g1, g2]
    by_cases he : (l[j]'(by omega)).f0.toList = (l[i]).f0.toList
    · rw [if_pos he]
      simp [he]
    · rw [if_neg he, may_inner l hl i hi R K hR n k (j + 1) (by omega) (by omega), g1]
      simp [he]
theorem may_go (l : List Lb) (hl : l.length ≤ 40 ∧ ∀ x ∈ l, x.f0.size ≤ 10000) : ∀ (n k i : Nat), i + n = l.length → n * 50 + 30010 ≤ k → odometerref03_may.l0 k l (i : Int) = some (mayFrom l n i)
  | 0, k, i, h, hk => by
    obtain ⟨k, rfl⟩ : ∃ j, k = j + 1 := ⟨k - 1, by omega⟩
    obtain rfl : i = l.length := by omega
    rw [odometerref03_may.l0, if_neg (by omega)]
    rfl
  | n + 1, k, i, h, hk => by
    obtain ⟨k, rfl⟩ : ∃ j, k = j + 1 := ⟨k - 1, by omega⟩
    obtain ⟨k, rfl⟩ : ∃ j, k = j + 1 := ⟨k - 1, by omega⟩
    have hi : i < l.length := by omega
    have hx := hl.2 l[i] (List.getElem_mem hi)
    have g1 : l.getD i z96 = l[i] := by simp [List.getD, List.getElem?_eq_getElem hi]
    have hl1 := hl.1
    rw [odometerref03_may.l0, if_pos (by omega), if_pos (by omega), rd_get l i hi, word_f (k + 1) (l[i]).f0 (by omega) (by omega), Option.bind_some, mayFrom, g1]
    have key : odometerref03_may.j1 (k + 1) l (i : Int) false = some (noneBefore l l[i] i 0 && mayFrom l n (i + 1)) := by
      rw [odometerref03_may.j1, if_neg (by simp)]
      obtain ⟨K, hK⟩ : ∃ K, K = n * 50 + 30010 := ⟨_, rfl⟩
      have hrec : ∀ k', K ≤ k' → odometerref03_may.l0 k' l ((i + 1 : Nat) : Int) = some (mayFrom l n (i + 1)) := fun k' hk' => may_go l hl n k' (i + 1) (by omega) (by omega)
      have := may_inner l hl i hi (mayFrom l n (i + 1)) K hrec i k 0 (by omega) (by omega)
      rw [g1] at this
      exact this
    have bad : odometerref03_may.j1 (k + 1) l (i : Int) true = some false := by rw [odometerref03_may.j1, if_pos rfl]
    unfold goodL
    cases hw : namedB (l[i]).f0 95 with
    | false => rw [if_neg (by simp), bad]; simp
    | true =>
      rw [if_pos rfl]
      by_cases hv : (l[i]).f1.size ≤ 1024
      · rw [show decide (((l[i]).f1.size : Int) > 1024) = false by simp; omega, key]
        simp [hv]
      · rw [show decide (((l[i]).f1.size : Int) > 1024) = true by simp; omega, bad]
        simp [hv]
theorem noneBefore_iff (l : List Lb) (x : Lb) : ∀ (n j : Nat), noneBefore l x n j = true ↔ ∀ t, j ≤ t → t < j + n → (l.getD t x).f0 ≠ x.f0
  | 0, j => by simp [noneBefore]; intro t h1 h2; omega
  | n + 1, j => by
    rw [noneBefore, Bool.and_eq_true, noneBefore_iff l x n (j + 1)]
    simp only [Bool.not_eq_true', decide_eq_false_iff_not]
    constructor
    · rintro ⟨h1, h2⟩ t h3 h4
      rcases Nat.eq_or_lt_of_le h3 with rfl | h5
      · exact fun e => h1 (by rw [e])
      · exact h2 t (by omega) (by omega)
    · intro h
      exact ⟨fun e => h j (Nat.le_refl _) (by omega) (toList_inj e), fun t h1 h2 => h t (by omega) (by omega)⟩
theorem mayFrom_iff (l : List Lb) : ∀ (n i : Nat), i + n = l.length → (mayFrom l n i = true ↔ (∀ t, i ≤ t → (h : t < l.length) → goodL l[t] = true ∧ ∀ s, (hs : s < t) → (l[s]'(by omega)).f0 ≠ (l[t]).f0))
  | 0, i, h => by
    simp only [mayFrom, true_iff]
    intro t h1 h2
    omega
  | n + 1, i, h => by
    have hi : i < l.length := by omega
    have g1 : l.getD i z96 = l[i] := by simp [List.getD, List.getElem?_eq_getElem hi]
    rw [mayFrom, Bool.and_eq_true, Bool.and_eq_true, mayFrom_iff l n (i + 1) (by omega), g1, noneBefore_iff]
    have g2 : ∀ (s : Nat) (hs : s < i), l.getD s l[i] = l[s]'(by omega) := fun s hs => by simp [List.getD, List.getElem?_eq_getElem (show s < l.length by omega)]
    constructor
    · rintro ⟨h1, h2, h3⟩ t h4 h5
      rcases Nat.eq_or_lt_of_le h4 with rfl | h6
      · exact ⟨h1, fun s hs => by have := h2 s (by omega) (by omega); rwa [g2 s hs] at this⟩
      · exact h3 t (by omega) h5
    · intro h1
      refine ⟨(h1 i (Nat.le_refl _) hi).1, fun t _ ht => ?_, fun t ht h2 => h1 t (by omega) h2⟩
      rw [g2 t (by omega)]
      exact (h1 i (Nat.le_refl _) hi).2 t (by omega)
theorem may_iff (l : List Lb) : mayFrom l l.length 0 = true ↔ (l.all goodL = true ∧ (l.map nmL).Nodup) := by
  rw [mayFrom_iff l l.length 0 (by omega), List.all_eq_true]
  constructor
  · intro h
    refine ⟨fun x hx => ?_, ?_⟩
    · obtain ⟨t, ht, rfl⟩ := List.getElem_of_mem hx
      exact (h t (Nat.zero_le _) ht).1
    · rw [List.Nodup, List.pairwise_map, List.pairwise_iff_getElem]
      intro s t hs ht hst
      exact (h t (Nat.zero_le _) ht).2 s hst
  · rintro ⟨h1, h2⟩ t _ ht
    refine ⟨h1 _ (List.getElem_mem ht), fun s hs => ?_⟩
    rw [List.Nodup, List.pairwise_map, List.pairwise_iff_getElem] at h2
    exact h2 s t (by omega) ht hs
theorem may_f (l : List Lb) (hl : l.length ≤ 40 ∧ ∀ x ∈ l, x.f0.size ≤ 10000) (k : Nat) (hk : 32010 ≤ k) : odometerref03_may.f k l = some (decide (l.length ≤ 16 ∧ l.all goodL = true ∧ (l.map nmL).Nodup)) := by
  unfold odometerref03_may.f
  by_cases h : (l.length : Int) > 16
  · rw [if_pos h, decide_eq_false]
    rintro ⟨h1, _⟩
    omega
  · have := hl.1
    rw [if_neg h]
    have := may_go l hl l.length k 0 (by omega) (by omega)
    rw [show ((0 : Nat) : Int) = 0 from rfl] at this
    rw [this]
    congr 1
    rw [Bool.eq_iff_iff, may_iff, decide_eq_true_eq]
    exact ⟨fun h2 => ⟨by omega, h2⟩, fun h2 => h2.2⟩
theorem sorted_inner (l : List Lb) (hl : Small l) (i : Nat) (hi : i < l.length) (acc R : List Lb) (hacc : acc.length ≤ i) (K : Nat) : ∀ (n k j : Nat), j + n = acc.length → n + 1 + K ≤ k →
    (∀ k, K ≤ k → odometerref03_Sorted.l0 k l (acc.take j ++ ins nmL l[i] (acc.drop j)) ((i + 1 : Nat) : Int) = some R) →
    odometerref03_Sorted.l1 k l acc (i : Int) (j : Int) = some R := by
  intro n
  have hl1 := hl.1
  have hwi : wrap64 ((i : Int) + 1) = ((i + 1 : Nat) : Int) := by rw [wrap_of] <;> omega
  have eta : ∀ x : Lb, (⟨x.f0, x.f1⟩ : Lb) = x := fun x => rfl
  induction n with
  | zero =>
    intro k j h hk hR
    obtain ⟨k, rfl⟩ : ∃ q, k = q + 1 := ⟨k - 1, by omega⟩
    obtain rfl : j = acc.length := by omega
    rw [odometerref03_Sorted.l1, if_neg (by omega), if_pos (by omega), if_pos (by omega)]
    simp only [Option.bind_some, Int.toNat_natCast, rd_get l i hi, hwi, eta, List.nil_append, List.take_length, List.drop_length, List.append_nil, List.length_nil, List.length_cons, List.length_append] at hR ⊢
    rw [if_pos (by omega), if_pos (by omega), if_pos (by omega), if_pos (by omega), if_pos (by omega)]
    exact hR k (by omega)
  | succ n ih =>
    intro k j h hk hR
    obtain ⟨k, rfl⟩ : ∃ q, k = q + 1 := ⟨k - 1, by omega⟩
    have hj : j < acc.length := by omega
    have hwj : wrap64 ((j : Int) + 1) = ((j + 1 : Nat) : Int) := by rw [wrap_of] <;> omega
    rw [odometerref03_Sorted.l1, if_pos (by omega), if_pos (by omega), if_pos (by omega), if_pos (by omega), rd_get l i hi, rd_get acc j hj, hwj, hwi]
    rw [List.drop_eq_getElem_cons hj] at hR
    by_cases hlt : Op.bytesLess ((acc[j]).f0).toList ((l[i]).f0).toList = true
    · rw [if_pos hlt]
      refine ih k (j + 1) (by omega) (by omega) ?_
      have e : ins nmL l[i] (acc[j] :: acc.drop (j + 1)) = acc[j] :: ins nmL l[i] (acc.drop (j + 1)) := by
        rw [ins, if_pos (show ltN nmL acc[j] l[i] = true from hlt)]
      rw [e] at hR
      rw [List.take_succ_eq_append_getElem hj, List.append_assoc]
      exact hR
    · have e : ins nmL l[i] (acc[j] :: acc.drop (j + 1)) = l[i] :: acc[j] :: acc.drop (j + 1) := by
        rw [ins, if_neg (show ¬ ltN nmL acc[j] l[i] = true from hlt)]
      rw [e, ← List.drop_eq_getElem_cons hj] at hR
      rw [if_neg hlt, if_pos (by omega)]
      have d1 : (acc.take j).length = j := by rw [List.length_take]; omega
      have d2 : (acc.drop j).length = acc.length - j := List.length_drop
      simp only [Option.bind_some, Int.toNat_natCast, eta, List.nil_append, List.length_nil, List.length_cons, List.length_append, d1, d2]
      rw [if_pos (by omega), if_pos (by omega), if_pos (by omega)]
      have := hR k (by omega)
      rwa [show acc.take j ++ l[i] :: acc.drop j = acc.take j ++ [l[i]] ++ acc.drop j by simp] at this
theorem sorted_go (l : List Lb) (hl : Small l) : ∀ (n k i : Nat) (acc : List Lb), i + n = l.length → acc.length = i → n * 50 + 1 ≤ k → odometerref03_Sorted.l0 k l acc (i : Int) = some ((l.drop i).foldl (fun acc x => ins nmL x acc) acc)
  | 0, k, i, acc, h, ha, hk => by
    obtain ⟨k, rfl⟩ : ∃ j, k = j + 1 := ⟨k - 1, by omega⟩
    obtain rfl : i = l.length := by omega
    rw [odometerref03_Sorted.l0, if_neg (by omega), List.drop_length]
    rfl
  | n + 1, k, i, acc, h, ha, hk => by
    obtain ⟨k, rfl⟩ : ∃ j, k = j + 1 := ⟨k - 1, by omega⟩
    have hi : i < l.length := by omega
    have hl1 := hl.1
    rw [odometerref03_Sorted.l0, if_pos (by omega), List.drop_eq_getElem_cons hi, List.foldl_cons]
    refine sorted_inner l hl i hi acc _ (by omega) (n * 50 + 1) acc.length k 0 (by omega) (by omega) ?_
    intro k' hk'
    rw [List.take_zero, List.drop_zero, List.nil_append]
    refine sorted_go l hl n k' (i + 1) _ (by omega) ?_ hk'
    rw [(ins_perm nmL l[i] acc).length_eq, List.length_cons, ha]
theorem sorted_f (l : List Lb) (hl : Small l) (k : Nat) (hk : 2001 ≤ k) : odometerref03_Sorted.f k l = some (isort nmL l) := by
  have hl1 := hl.1
  exact sorted_go l hl l.length k 0 [] (by omega) rfl (by omega)
def refRest (s : List Lb) : Nat → Nat → List UInt8
  | 0, _ => if s.length > 0 then [125] else []
  | n + 1, i => (if i = 0 then [123] else [44]) ++ one (s.getD i z96) ++ refRest s n (i + 1)
theorem refName_go (s : List Lb) (hs : Small s) : ∀ (n k i : Nat) (t : ByteArray), i + n = s.length → n + 30010 ≤ k → t.size ≤ 10000 + 40000 * i →
    odometerref03_Name.l0 k s t (i : Int) = some (ba (bl t ++ refRest s n i), 0)
  | 0, k, i, t, h, hk, ht => by
    obtain ⟨k, rfl⟩ : ∃ j, k = j + 1 := ⟨k - 1, by omega⟩
    have hs1 := hs.1
    obtain rfl : i = s.length := by omega
    rw [odometerref03_Name.l0, if_neg (by omega)]
    by_cases h0 : s.length > 0
    · rw [if_pos (by omega), if_pos (by omega), refRest, if_pos h0]
      congr 2
    · rw [if_neg (by omega), refRest, if_neg h0, List.append_nil, ba_bl]
  | n + 1, k, i, t, h, hk, ht => by
    obtain ⟨k, rfl⟩ : ∃ j, k = j + 1 := ⟨k - 1, by omega⟩
    have hs1 := hs.1
    have hi : i < s.length := by omega
    have hw : wrap64 ((i : Int) + 1) = ((i + 1 : Nat) : Int) := by rw [wrap_of] <;> omega
    have hx := hs.2 s[i] (List.getElem_mem hi)
    have g1 : s.getD i z96 = s[i] := by simp [List.getD, List.getElem?_eq_getElem hi]
    have hE : odometerref03_Escape.f k (s[i]).f1 = some (ba ((bl (s[i]).f1).flatMap escByte)) := refEscape_f k _ (by omega) (by omega)
    have hEs : (ba ((bl (s[i]).f1).flatMap escByte)).size ≤ 20000 := by
      rw [size_ba]
      have := esc_len (bl (s[i]).f1)
      rw [bl_length] at this
      omega
    have z2 : (⟨#[61, 34]⟩ : ByteArray).size = 2 := rfl
    have z1 : ∀ c : UInt8, (⟨#[c]⟩ : ByteArray).size = 1 := fun _ => rfl
    have step : ∀ c : UInt8, c = (if i = 0 then 123 else 44) → ∀ R, odometerref03_Name.l0 k s (((((t ++ (⟨#[c]⟩ : ByteArray)) ++ (s[i]).f0) ++ (⟨#[61, 34]⟩ : ByteArray)) ++ ba ((bl (s[i]).f1).flatMap escByte)) ++ (⟨#[34]⟩ : ByteArray)) ((i + 1 : Nat) : Int) = R →
        R = some (ba (bl t ++ refRest s (n + 1) i), 0) := by
      intro c hc R hR
      have hsz : (((((t ++ (⟨#[c]⟩ : ByteArray)) ++ (s[i]).f0) ++ (⟨#[61, 34]⟩ : ByteArray)) ++ ba ((bl (s[i]).f1).flatMap escByte)) ++ (⟨#[34]⟩ : ByteArray)).size ≤ 10000 + 40000 * (i + 1) := by
        simp only [ByteArray.size_append, z1, z2]
        omega
      rw [← hR, refName_go s hs n k (i + 1) _ (by omega) (by omega) hsz, refRest, g1]
      congr 3
      simp only [bl_append, bl_ba, one, List.append_assoc]
      rw [hc]
      try (split <;> rfl)
    rw [odometerref03_Name.l0, if_pos (by omega), rd_get s i hi, hE, hw]
    simp only [Option.bind_some]
    by_cases h0 : i = 0
    · rw [if_pos (by omega : (i : Int) = 0), if_pos (by omega), if_pos (by omega), if_pos (by simp only [ByteArray.size_append, z1]; omega), if_pos (by simp only [ByteArray.size_append, z1]; omega), if_pos (by simp only [ByteArray.size_append, z1, z2]; omega), if_pos (by simp only [ByteArray.size_append, z1, z2]; omega)]
      exact step 123 (by rw [if_pos h0]) _ rfl
    · rw [if_neg (by omega : ¬ (i : Int) = 0), if_pos (by omega), if_pos (by omega), if_pos (by simp only [ByteArray.size_append, z1]; omega), if_pos (by simp only [ByteArray.size_append, z1]; omega), if_pos (by simp only [ByteArray.size_append, z1, z2]; omega), if_pos (by simp only [ByteArray.size_append, z1, z2]; omega)]
      exact step 44 (by rw [if_neg h0]) _ rfl
theorem rest_tail (s : List Lb) (h0 : s.length > 0) : ∀ (n i : Nat), i + n = s.length → 0 < i → refRest s n i = Lib.joinTail [44] ((s.drop i).map one) ++ [125]
  | 0, i, h, hi => by
    obtain rfl : i = s.length := by omega
    rw [refRest, if_pos h0, List.drop_length]
    rfl
  | n + 1, i, h, hi => by
    have hil : i < s.length := by omega
    have g1 : s.getD i z96 = s[i] := by simp [List.getD, List.getElem?_eq_getElem hil]
    rw [refRest, if_neg (by omega), g1, rest_tail s h0 n (i + 1) (by omega) (by omega), List.drop_eq_getElem_cons hil]
    simp only [Lib.joinTail, List.map_cons, List.flatten_cons, List.append_assoc]
theorem rest_render : ∀ s : List Lb, refRest s s.length 0 = render s
  | [] => rfl
  | x :: r => by
    have := rest_tail (x :: r) (by simp) r.length 1 (by simp; omega) (by omega)
    show [123] ++ one ((x :: r).getD 0 z96) ++ refRest (x :: r) r.length 1 = render (x :: r)
    rw [this, render, List.map_cons, Lib.join_cons]
    show [123] ++ one x ++ (Lib.joinTail [44] (r.map one) ++ [125]) = [123] ++ (one x ++ Lib.joinTail [44] (r.map one)) ++ [125]
    simp only [List.append_assoc]
theorem refName_f (a0 : ByteArray) (ha : a0.size ≤ 10000) (l : List Lb) (hl : Small l) (k : Nat) (hk : 40000 ≤ k) : odometerref03_Name.f k a0 l = some (nameF a0 l) := by
  obtain ⟨k, rfl⟩ : ∃ j, k = j + 1 := ⟨k - 1, by omega⟩
  have bad : odometerref03_Name.j0 (k + 1) a0 l true = some ((⟨#[]⟩ : ByteArray), 5) := by rw [odometerref03_Name.j0, if_pos rfl]
  unfold odometerref03_Name.f nameF
  rw [metric_f (k + 1) a0 (by omega) (by omega), Option.bind_some, may_f l ⟨hl.1, fun x hx => (hl.2 x hx).1⟩ (k + 1) (by omega)]
  by_cases h1 : namedB a0 58 = true
  · rw [if_pos h1, Option.bind_some]
    by_cases h2 : l.length ≤ 16 ∧ l.all goodL = true ∧ (l.map nmL).Nodup
    · have hp := isort_perm nmL l
      have hsm := small_perm hp hl
      have := hsm.1
      rw [if_pos (c := _ ∧ _) ⟨h1, h2⟩, decide_eq_true h2, Bool.not_true, odometerref03_Name.j0, if_neg (by simp), sorted_f l hl k (by omega), Option.bind_some]
      have := refName_go (isort nmL l) hsm (isort nmL l).length k 0 a0 (by omega) (by omega) (by omega)
      rw [show ((0 : Nat) : Int) = 0 from rfl, rest_render] at this
      exact this
    · rw [if_neg (fun h => h2 h.2), decide_eq_false h2, Bool.not_false, bad]
  · rw [if_neg h1, if_neg (fun h => h1 h.1), bad]
end Go.Proofs.YtcikjeiebpmmcaaGreat.PureMch
