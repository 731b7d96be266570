/- A text of this claim, pruned by a program of the session (prune.py) to what the theorem rests on. -/
import Derived.Test.YtcikjeiebpmmcaaGreatQyPureMchAny
import Derived.Test.YtcikjeiebpmmcaaGreatQyPureMchRef
import Derived.Test.YtcikjeiebpmmcaaGreatQyPureMchUnr
namespace Go.Proofs.YtcikjeiebpmmcaaGreat.PureMch
open Go.RowKit Go.Proofs.YtcikjeiebpmmcaaGreat Go.Proofs.YtcikjeiebpmmcaaGreat.PMch Go.Proofs.YtcikjeiebpmmcaaGreatW.PrintWords
set_option linter.unusedVariables false
set_option linter.unusedSimpArgs false
theorem data_len (s : ByteArray) : s.data.toList.length = s.size := by simp
theorem mul_step (p : Nat) : (p + 1) * (p + 1 + 8) = p * (p + 8) + (2 * p + 9) := by
  rw [Nat.add_mul, Nat.one_mul, show p + 1 + 8 = (p + 8) + 1 from rfl, Nat.mul_add, Nat.mul_one]
  omega
theorem mul_bound (p k : Nat) (h : (p + 1) * (p + 1 + 8) + 100000 ≤ k + 1) : p * (p + 8) + (2 * p + 9) + 100000 ≤ k + 1 := by rwa [mul_step] at h
theorem wrap_add (a b : Nat) (h : a + b ≤ 9000000) : wrap64 ((a : Int) + (b : Int)) = ((a + b : Nat) : Int) := by rw [wrap_of] <;> omega
theorem wrap_plus2 (n : Nat) (h : n ≤ 8000000) : wrap64 ((n : Int) + 2) = ((n + 2 : Nat) : Int) := by rw [wrap_of] <;> omega
theorem wrap_less (n : Nat) (h0 : 1 ≤ n) (h : n ≤ 8000000) : wrap64 ((n : Int) - 1) = ((n - 1 : Nat) : Int) := by rw [wrap_of] <;> omega
theorem quoted_any (s : ByteArray) (hs : s.size ≤ 4000000) : ∀ (n k i : Nat), s.size ≤ i + n → i ≤ s.size + 1 → n < k → ∃ t, odometerref03_quoted.l0 k s (i : Int) = some t ∧ (t = -1 ∨ ∃ q : Nat, t = (q : Int) ∧ i ≤ q ∧ q < s.size) := by
  intro n
  induction n using Nat.strongRecOn with
  | _ n ih =>
    intro k i h hi hk
    obtain ⟨k, rfl⟩ : ∃ j, k = j + 1 := ⟨k - 1, by omega⟩
    rw [odometerref03_quoted.l0]
    by_cases hlt : i < s.size
    · have hw := wrap_one i (by omega)
      have hw2 := wrap_two i (by omega)
      rw [if_pos (by omega), if_pos (by omega), hw, hw2]
      by_cases h92 : bt s (i : Int) = 92
      · rw [if_pos h92]
        obtain ⟨t, h1, h2⟩ := ih (n - 1) (by omega) k (i + 2) (by omega) (by omega) (by omega)
        exact ⟨t, h1, h2.imp id (fun ⟨q, e, h3, h4⟩ => ⟨q, e, by omega, h4⟩)⟩
      · rw [if_neg h92]
        by_cases h34 : bt s (i : Int) = 34
        · rw [if_pos h34]
          exact ⟨_, rfl, Or.inr ⟨i, rfl, Nat.le_refl _, hlt⟩⟩
        · rw [if_neg h34]
          obtain ⟨t, h1, h2⟩ := ih (n - 1) (by omega) k (i + 1) (by omega) (by omega) (by omega)
          exact ⟨t, h1, h2.imp id (fun ⟨q, e, h3, h4⟩ => ⟨q, e, by omega, h4⟩)⟩
    · rw [if_neg (by omega)]
      exact ⟨_, rfl, Or.inl rfl⟩
theorem bt_mid (A B : List UInt8) (c : UInt8) (n : Nat) (hn : n = A.length) : bt (ba (A ++ c :: B)) (n : Int) = (c.toNat : Int) := by
  subst hn
  have hl : A.length < (A ++ c :: B).length := by simp
  rw [bt_ba _ _ hl]
  have : (A ++ c :: B)[A.length]'hl = c := by simp
  rw [this]
set_option maxHeartbeats 1000000 in
theorem quoted_go (v r : List UInt8) (hv : (v.flatMap escByte).length ≤ 20000) (hr : r.length ≤ 2000000) : ∀ (w d : List UInt8) (k : Nat), v = d ++ w → w.length < k →
    odometerref03_quoted.l0 k (ba (34 :: (v.flatMap escByte ++ 34 :: r))) ((1 + (d.flatMap escByte).length : Nat) : Int) = some ((1 + (v.flatMap escByte).length : Nat) : Int) := by
  intro w
  induction w with
  | nil =>
    intro d k hd hk
    obtain ⟨k, rfl⟩ : ∃ j, k = j + 1 := ⟨k - 1, by simp at hk; omega⟩
    rw [List.append_nil] at hd
    subst hd
    generalize v.flatMap escByte = E at *
    have hsz : (ba (34 :: (E ++ 34 :: r))).size = E.length + 2 + r.length := by rw [size_ba]; simp; omega
    have hb : bt (ba (34 :: (E ++ 34 :: r))) ((1 + E.length : Nat) : Int) = 34 := by
      rw [show (34 :: (E ++ 34 :: r) : List UInt8) = (34 :: E) ++ 34 :: r by simp, bt_mid (34 :: E) r 34 _ (by simp; omega)]
      rfl
    rw [odometerref03_quoted.l0, if_pos (by omega), if_pos (by omega), hb, if_neg (by decide), if_pos rfl]
  | cons c w ih =>
    intro d k hd hk
    obtain ⟨k, rfl⟩ : ∃ j, k = j + 1 := ⟨k - 1, by omega⟩
    simp only [List.length_cons] at hk
    have hd2 : v = (d ++ [c]) ++ w := by rw [hd]; simp
    have ih' := ih (d ++ [c]) k hd2 (by omega)
    have hsplit : (34 :: (v.flatMap escByte ++ 34 :: r) : List UInt8) = (34 :: d.flatMap escByte) ++ (escByte c ++ (w.flatMap escByte ++ 34 :: r)) := by
      rw [hd, List.flatMap_append, esc_cons]
      simp
    have hlen : (v.flatMap escByte).length = (d.flatMap escByte).length + ((escByte c).length + (w.flatMap escByte).length) := by
      rw [hd, List.flatMap_append, esc_cons, List.length_append, List.length_append]
    have hd3 : ((d ++ [c]).flatMap escByte).length = (d.flatMap escByte).length + (escByte c).length := by
      rw [List.flatMap_append, List.length_append]
      simp
    rw [hd3] at ih'
    have hsz : (ba (34 :: (v.flatMap escByte ++ 34 :: r))).size = (v.flatMap escByte).length + 2 + r.length := by rw [size_ba]; simp; omega
    clear ih
    generalize d.flatMap escByte = D at *
    generalize v.flatMap escByte = V at *
    generalize w.flatMap escByte = Wf at *
    have hcases : (∃ e, escByte c = [92, e]) ∨ (escByte c = [c] ∧ ¬ (c = 92 ∨ c = 34)) := by
      unfold escByte
      by_cases h1 : c = 92 ∨ c = 34
      · exact Or.inl ⟨c, by rw [if_pos h1]⟩
      · by_cases h2 : c = 10
        · exact Or.inl ⟨110, by rw [if_neg h1, if_pos h2]⟩
        · exact Or.inr ⟨by rw [if_neg h1, if_neg h2], h1⟩
    generalize escByte c = Ec at *
    have hone : 1 ≤ Ec.length := by rcases hcases with ⟨e, h⟩ | ⟨h, _⟩ <;> rw [h] <;> simp
    have f1 : ((1 + D.length : Nat) : Int) < ((ba (34 :: (V ++ 34 :: r))).size : Int) := by rw [hsz]; omega
    have hw := wrap_one (1 + D.length) (by omega)
    have hw2 := wrap_two (1 + D.length) (by omega)
    have f2 : (0 : Int) ≤ ((1 + D.length : Nat) : Int) := Int.natCast_nonneg _
    rw [odometerref03_quoted.l0, if_pos f1, if_pos f2, hw, hw2]
    rcases hcases with ⟨e, h⟩ | ⟨h, h1⟩
    · subst h
      have hb : bt (ba (34 :: (V ++ 34 :: r))) ((1 + D.length : Nat) : Int) = 92 := by
        rw [hsplit, show ([92, e] ++ (Wf ++ 34 :: r) : List UInt8) = 92 :: (e :: (Wf ++ 34 :: r)) from rfl, bt_mid (34 :: D) _ 92 _ (by simp; omega)]
        rfl
      rw [if_pos hb]
      rw [show 1 + (D.length + [92, e].length) = 1 + D.length + 2 by simp; omega] at ih'
      exact ih'
    · subst h
      have hb : bt (ba (34 :: (V ++ 34 :: r))) ((1 + D.length : Nat) : Int) = (c.toNat : Int) := by
        rw [hsplit, show ([c] ++ (Wf ++ 34 :: r) : List UInt8) = c :: (Wf ++ 34 :: r) from rfl, bt_mid (34 :: D) _ c _ (by simp; omega)]
      have n92 : ¬ ((c.toNat : Int) = 92) := fun h => h1 (Or.inl (by rw [← byte_iff c 92]; exact h))
      have n34 : ¬ ((c.toNat : Int) = 34) := fun h => h1 (Or.inr (by rw [← byte_iff c 34]; exact h))
      rw [hb, if_neg n92, if_neg n34]
      rw [show 1 + (D.length + [c].length) = 1 + D.length + 1 by simp; omega] at ih'
      exact ih'
theorem quoted_f (v r : List UInt8) (hv : v.length ≤ 10000) (hr : r.length ≤ 2000000) (k : Nat) (hk : 10001 ≤ k) :
    odometerref03_quoted.f k (ba (34 :: (v.flatMap escByte ++ 34 :: r))) = some ((1 + (v.flatMap escByte).length : Nat) : Int) := by
  have h1 := esc_len v
  exact quoted_go v r (by omega) hr v [] k rfl (by omega)
theorem l2_any (s : ByteArray) (hs : s.size ≤ 10000) (m : ByteArray) (l : List Lb) (K : Nat) (i : Nat) (hj : ∀ (k at' : Nat), K ≤ k → i ≤ at' → at' ≤ s.size → Good s (odometerref03_Parse.j4 k s (at' : Int) m l (i : Int))) :
    ∀ (n k a : Nat), a + n = s.size → i ≤ a → n + 1 + K ≤ k → Good s (odometerref03_Parse.l2 k s (a : Int) m l (i : Int))
  | 0, k, a, h, hi, hk => by
    obtain ⟨k, rfl⟩ : ∃ j, k = j + 1 := ⟨k - 1, by omega⟩
    rw [odometerref03_Parse.l2, if_neg (by omega)]
    exact hj k a (by omega) hi (by omega)
  | n + 1, k, a, h, hi, hk => by
    obtain ⟨k, rfl⟩ : ∃ j, k = j + 1 := ⟨k - 1, by omega⟩
    rw [odometerref03_Parse.l2, if_pos (by omega), if_pos (by omega), wrap_one a (by omega)]
    by_cases hb : bt s (a : Int) = 61
    · rw [if_pos hb]
      exact hj k a (by omega) hi (by omega)
    · rw [if_neg hb]
      exact l2_any s hs m l K i hj n k (a + 1) (by omega) (by omega) (by omega)
end Go.Proofs.YtcikjeiebpmmcaaGreat.PureMch
