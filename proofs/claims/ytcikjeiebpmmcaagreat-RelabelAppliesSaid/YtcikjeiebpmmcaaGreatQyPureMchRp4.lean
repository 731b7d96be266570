/- A text of this claim, pruned by a program of the session (prune.py) to what the theorem rests on. -/
import Derived.Test.YtcikjeiebpmmcaaGreatQyPureMchRp3
namespace Go.Proofs.YtcikjeiebpmmcaaGreat.PureMch
open Go.RowKit Go.Proofs.YtcikjeiebpmmcaaGreat Go.Proofs.YtcikjeiebpmmcaaGreat.PMch Go.Proofs.YtcikjeiebpmmcaaGreatW.PrintWords
set_option linter.unusedVariables false
set_option linter.unusedSimpArgs false
theorem refParse_name (a0 : ByteArray) (ha : a0.size ≤ 10000) (l : List Lb) (hl : Small l) (hr : Right a0 l) (k : Nat) (hk : 500000 ≤ k) :
    odometerref03_Parse.f k (ba (bl a0 ++ render (isort nmL l))) = some (a0, isort nmL l, 0) := by
  have hp := isort_perm nmL l
  have hsS := small_perm hp hl
  have hsR := right_perm hp hr
  have hnF : nameF a0 (isort nmL l) = (ba (bl a0 ++ render (isort nmL l)), 0) := by rw [nameF_perm a0 hp, nameF_right hr]
  have hm := metric_no a0 hr.1
  have ham := named_size a0 58 hr.1
  generalize isort nmL l = s at *
  have hblen : (bl a0).length = a0.size := bl_length _
  have h16 := hsR.2.1
  -- the metric goes up to a brace, or to the end
  have go : ∀ (rest : List UInt8) (X : Option (ByteArray × List Lb × Int)), (rest = [] ∨ ∃ t, rest = 123 :: t) → rest.length ≤ 2000000 → (∀ k, 450000 ≤ k → odometerref03_Parse.j1 k (ba (bl a0 ++ rest)) ((bl a0).length : Int) = X) →
      ∀ (w d : List UInt8) (k : Nat), bl a0 = d ++ w → 450000 + w.length + 1 ≤ k → odometerref03_Parse.l0 k (ba (bl a0 ++ rest)) (d.length : Int) = X := by
    intro rest X hrest hlen hX w
    have hz : (ba (bl a0 ++ rest)).size = (bl a0).length + rest.length := by rw [size_ba, List.length_append]
    induction w with
    | nil =>
      intro d k hd hk
      obtain ⟨k, rfl⟩ : ∃ j, k = j + 1 := ⟨k - 1, by omega⟩
      rw [List.append_nil] at hd
      subst hd
      rw [odometerref03_Parse.l0]
      rcases hrest with rfl | ⟨t, rfl⟩
      · rw [List.length_nil] at hz hk
        rw [if_neg (by omega)]
        exact hX k (by omega)
      · have hb := bt_mid (bl a0) t 123 (bl a0).length rfl
        simp only [List.length_cons] at hz
        rw [List.length_nil] at hk
        rw [if_pos (by omega), if_pos (by omega), if_pos (by rw [hb]; rfl)]
        exact hX k (by omega)
    | cons c w ih =>
      intro d k hd hk
      obtain ⟨k, rfl⟩ : ∃ j, k = j + 1 := ⟨k - 1, by omega⟩
      simp only [List.length_cons] at hk
      have hc : c ≠ 123 := fun e => hm (by rw [hd, e]; simp)
      have n123 : ¬ ((c.toNat : Int) = 123) := fun e => hc (by rw [← byte_iff c 123]; exact e)
      have hb := bt_mid d (w ++ rest) c d.length rfl
      rw [show d ++ c :: (w ++ rest) = bl a0 ++ rest by rw [hd]; simp] at hb
      have hdl : (bl a0).length = d.length + (w.length + 1) := by rw [hd]; simp
      rw [odometerref03_Parse.l0, if_pos (by omega), if_pos (by omega), hb, if_neg n123, wrap_one _ (by omega)]
      have := ih (d ++ [c]) k (by rw [hd]; simp) (by omega)
      rwa [show ((d ++ [c]).length : Int) = ((d.length + 1 : Nat) : Int) by simp] at this
  have hx0 : ∀ rest : List UInt8, (ba (bl a0 ++ rest)).extract 0 ((bl a0).length : Int).toNat = a0 := by
    intro rest
    rw [extract_ba, Int.toNat_natCast, List.take_left, List.drop_zero, ba_bl]
  cases s with
  | nil =>
    have hj : ∀ k, 450000 ≤ k → odometerref03_Parse.j1 k (ba (bl a0 ++ [])) ((bl a0).length : Int) = some (a0, [], 0) := by
      intro k hk
      obtain ⟨k, rfl⟩ : ∃ j, k = j + 2 := ⟨k - 2, by omega⟩
      have hz : (ba (bl a0 ++ [])).size = (bl a0).length := by rw [size_ba, List.append_nil]
      have hnF' : nameF a0 [] = (ba (bl a0 ++ []), 0) := hnF
      rw [odometerref03_Parse.j1, if_pos (by omega), if_pos (by omega), hx0, odometerref03_Parse.l1, if_neg (by omega), refName_f a0 ha [] hsS k (by omega), Option.bind_some, hnF', if_pos rfl, if_pos rfl]
    have := go [] _ (Or.inl rfl) (by simp) hj (bl a0) [] k rfl (by omega)
    exact this
  | cons x r =>
    have ht : bl a0 ++ render (x :: r) = bl a0 ++ 123 :: ltext (x :: r) := by
      rw [ltext_join]
      simp [render]
    rw [ht] at hnF ⊢
    have hg : ∀ z ∈ x :: r, namedB z.f0 95 = true := fun z hz => by
      have := List.all_eq_true.1 hsR.2.2.1 z hz
      unfold goodL at this
      rw [Bool.and_eq_true] at this
      exact this.1
    have htl := ltext_len (x :: r) hsS.2
    have htl2 : (ltext (x :: r)).length ≤ 500000 := by
      have : 30004 * (x :: r).length ≤ 30004 * 16 := Nat.mul_le_mul_left _ h16
      omega
    have hj : ∀ k, 450000 ≤ k → odometerref03_Parse.j1 k (ba (bl a0 ++ 123 :: ltext (x :: r))) ((bl a0).length : Int) = some (a0, x :: r, 0) := by
      intro k hk
      obtain ⟨k, rfl⟩ : ∃ j, k = j + 1 := ⟨k - 1, by omega⟩
      have hz : (ba (bl a0 ++ 123 :: ltext (x :: r))).size = (bl a0).length + ((ltext (x :: r)).length + 1) := by rw [size_ba, List.length_append, List.length_cons]
      rw [odometerref03_Parse.j1, if_pos (by omega), if_pos (by omega), hx0]
      have := l1_name a0 ha (ba (bl a0 ++ 123 :: ltext (x :: r))) (x :: r) [] (bl a0) 123 k (by simp) (by simpa using hsS) (by simpa using h16) hg (by simpa using hnF) rfl (by omega) (by omega)
      rw [List.nil_append] at this
      exact this
    exact go (123 :: ltext (x :: r)) _ (Or.inr ⟨_, rfl⟩) (by simp; omega) hj (bl a0) [] k rfl (by omega)
end Go.Proofs.YtcikjeiebpmmcaaGreat.PureMch
