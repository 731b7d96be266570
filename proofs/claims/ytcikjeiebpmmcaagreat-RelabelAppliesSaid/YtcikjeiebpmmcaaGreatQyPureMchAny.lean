/- A text of this claim, pruned by a program of the session (prune.py) to what the theorem rests on. -/
import Derived.Test.YtcikjeiebpmmcaaGreatQyPMchx0
import Derived.Test.YtcikjeiebpmmcaaGreatQyPMchx1
import Derived.Test.YtcikjeiebpmmcaaGreatQyPMchx2
import Derived.Test.YtcikjeiebpmmcaaGreatQyPMchx3
import Derived.Test.YtcikjeiebpmmcaaGreatQyPMchx4
import Derived.Test.YtcikjeiebpmmcaaGreatQyPMchx5
import Derived.Test.YtcikjeiebpmmcaaGreatQyPMchx6
import Derived.Test.YtcikjeiebpmmcaaGreatQyPMchx7
import Derived.Test.YtcikjeiebpmmcaaGreatQyPMchx8
import Derived.Test.YtcikjeiebpmmcaaGreatQyPMchx9
import Derived.Test.YtcikjeiebpmmcaaGreatQyPMchx10
import Derived.Test.YtcikjeiebpmmcaaGreatQyPMchx11
import Derived.Test.YtcikjeiebpmmcaaGreatQyPMchx12
import Derived.Test.YtcikjeiebpmmcaaGreatQyPMchx13
import Derived.Test.YtcikjeiebpmmcaaGreatQyPMchx14
import Derived.Test.YtcikjeiebpmmcaaGreatQyPMchx15
import Derived.Test.YtcikjeiebpmmcaaGreatQyPMchx16
import Derived.Test.YtcikjeiebpmmcaaGreatQyPMchx17
import Derived.Test.YtcikjeiebpmmcaaGreatQyPMchx18
import Derived.Test.YtcikjeiebpmmcaaGreatQyPMchx19
import Derived.Test.YtcikjeiebpmmcaaGreatQyPMchx20
import Derived.Test.YtcikjeiebpmmcaaGreatQyPureMchPar
namespace Go.Proofs.YtcikjeiebpmmcaaGreat.PureMch
open Go.RowKit Go.Proofs.YtcikjeiebpmmcaaGreat Go.Proofs.YtcikjeiebpmmcaaGreat.PMch Go.Proofs.YtcikjeiebpmmcaaGreatW.PrintWords
set_option linter.unusedVariables false
set_option linter.unusedSimpArgs false
def Answer (s : ByteArray) (r : ByteArray × List Lb × Int) : Prop :=
  r = (⟨#[]⟩, [], 5) ∨ (r.2.2 = 0 ∧ r.1.size ≤ 10000 ∧ Small r.2.1 ∧ nameF r.1 r.2.1 = (s, 0))
def Good (s : ByteArray) (X : Option (ByteArray × List Lb × Int)) : Prop := ∃ r, X = some r ∧ Answer s r
theorem good_bad (s : ByteArray) : Good s (some (⟨#[]⟩, [], 5)) := ⟨_, rfl, Or.inl rfl⟩
theorem cut_len (s sep : List UInt8) : (Lib.cut s sep).1.length ≤ s.length ∧ (Lib.cut s sep).2.1.length ≤ s.length := by
  unfold Lib.cut
  split
  · exact ⟨by rw [List.length_take]; omega, by rw [List.length_drop]; omega⟩
  · exact ⟨Nat.le_refl _, by simp⟩
theorem cut_any (S Sep : ByteArray) (h : S.size ≤ 4000000) : ∃ p r b, strings_Cut.f S Sep = some (p, r, b) ∧ p.size ≤ S.size ∧ r.size ≤ S.size := by
  unfold strings_Cut.f
  rw [if_pos (by omega)]
  have := cut_len S.data.toList Sep.data.toList
  have e : S.data.toList.length = S.size := by simp
  exact ⟨_, _, _, rfl, by show (ba _).size ≤ _; rw [size_ba]; omega, by show (ba _).size ≤ _; rw [size_ba]; omega⟩
theorem prefix_any (S : ByteArray) : ∃ b, strings_HasPrefix.f S (⟨#[44]⟩ : ByteArray) = some b ∧ (b = true → 1 ≤ S.size) := by
  have hz : ((⟨#[44]⟩ : ByteArray).size : Int) = 1 := rfl
  unfold strings_HasPrefix.f stringslite_HasPrefix.f
  rw [hz]
  by_cases h : (S.size : Int) ≥ 1
  · rw [if_pos h, if_pos (by omega), if_pos (by omega)]
    exact ⟨_, rfl, fun _ => by omega⟩
  · rw [if_neg h]
    exact ⟨_, rfl, fun h => by cases h⟩
theorem unescR_len (l : List UInt8) : (unescR [] l).1.size ≤ l.length := by
  unfold unescR
  cases h : unesc l with
  | none => exact Nat.zero_le _
  | some m =>
    show (ba ([] ++ m)).size ≤ _
    rw [List.nil_append, size_ba]
    exact unesc_le l m h
theorem extract_size (s : ByteArray) (i j : Nat) (hj : j ≤ s.size) : (s.extract i j).size = j - i := by simp [ByteArray.size_extract]; omega
theorem value_any (s : ByteArray) (hs : s.size ≤ 10000) : ∀ (n k i : Nat), s.size ≤ i + n → i ≤ s.size + 1 → n + 30000 ≤ k → ∃ v r b, label_value.l0 k s (i : Int) = some (v, r, b) ∧ v.size ≤ s.size ∧ (b = true → r.size < s.size) := by
  intro n
  induction n using Nat.strongRecOn with
  | _ n ih =>
    intro k i h hi hk
    obtain ⟨k, rfl⟩ : ∃ j, k = j + 1 := ⟨k - 1, by omega⟩
    have z0 : (⟨#[]⟩ : ByteArray).size = 0 := rfl
    rw [label_value.l0]
    by_cases hlt : i < s.size
    · have hw := wrap_one i (by omega)
      have hw2 := wrap_two i (by omega)
      rw [if_pos (by omega), if_pos (by omega), hw, hw2]
      by_cases h92 : bt s (i : Int) = 92
      · rw [if_pos h92]
        exact ih (n - 1) (by omega) k (i + 2) (by omega) (by omega) (by omega)
      · rw [if_neg h92]
        by_cases h34 : bt s (i : Int) = 34
        · have hx := extract_size s 0 i (by omega)
          have hy := extract_size s (i + 1) s.size (Nat.le_refl _)
          have hl := unescR_len (s.extract 0 i).data.toList
          have e : (s.extract 0 i).data.toList.length = (s.extract 0 i).size := by simp
          rw [if_pos h34, if_pos (by omega), Int.toNat_natCast, unescape_f k _ (by omega) (by omega), Option.bind_some, if_pos (by omega), if_pos (by omega), Int.toNat_natCast]
          exact ⟨_, _, _, rfl, by omega, fun _ => by omega⟩
        · rw [if_neg h34]
          exact ih (n - 1) (by omega) k (i + 1) (by omega) (by omega) (by omega)
    · rw [if_neg (by omega)]
      exact ⟨_, _, _, rfl, by omega, fun h => by cases h⟩
theorem labels_any : ∀ (n k : Nat) (t : ByteArray) (acc : List Lb), t.size ≤ n → n ≤ 10000 → acc.length ≤ 17 → (∀ x ∈ acc, x.f0.size ≤ 10000 ∧ x.f1.size ≤ 10000) → 2 * n + 50000 ≤ k →
    ∃ l b, label_labels.l0 k t acc = some (l, b) ∧ Small l := by
  intro n
  induction n using Nat.strongRecOn with
  | _ n ih =>
    intro k t acc ht hn ha hs hk
    obtain ⟨k, rfl⟩ : ∃ j, k = j + 2 := ⟨k - 2, by omega⟩
    obtain ⟨p, r, f, hcut, hp, hr⟩ := cut_any t (⟨#[61, 34]⟩ : ByteArray) (by omega)
    obtain ⟨v, rest, b, hv, hvs, hrs⟩ := value_any r (by omega) r.size (k + 1) 0 (by omega) (by omega) (by omega)
    rw [show ((0 : Nat) : Int) = 0 from rfl] at hv
    have hv' : label_value.f (k + 1) r = some (v, rest, b) := hv
    have bad : ∃ l b', label_labels.j1 (k + 1) acc p v rest true = some (l, b') ∧ Small l := ⟨[], false, by rw [label_labels.j1, if_pos rfl], by simp, by simp⟩
    rw [label_labels.l0, hcut, Option.bind_some, hv', Option.bind_some]
    cases f with
    | false => rw [if_neg (by simp)]; exact bad
    | true =>
      rw [if_pos rfl]
      cases b with
      | false => rw [if_neg (by simp)]; exact bad
      | true =>
        have hrs' := hrs rfl
        rw [if_pos rfl]
        by_cases h16 : (acc.length : Int) > 16
        · rw [decide_eq_true h16]; exact bad
        · have hs2 : ∀ x ∈ acc ++ [(⟨p, v⟩ : Lb)], x.f0.size ≤ 10000 ∧ x.f1.size ≤ 10000 := by
            intro x hx
            rcases List.mem_append.1 hx with hx | hx
            · exact hs x hx
            · rw [List.mem_singleton.1 hx]
              exact ⟨by show p.size ≤ _; omega, by show v.size ≤ _; omega⟩
          have hl2 : (acc ++ [(⟨p, v⟩ : Lb)]).length ≤ 17 := by rw [List.length_append, List.length_singleton]; omega
          rw [decide_eq_false h16, label_labels.j1, if_neg (by simp), if_pos (by omega), Option.bind_some]
          by_cases hend : rest.toList = ([125] : List UInt8)
          · rw [if_pos hend]
            exact ⟨_, _, rfl, Nat.le_trans hl2 (by omega), hs2⟩
          · obtain ⟨b, hb, hb1⟩ := prefix_any rest
            rw [if_neg hend, hb, Option.bind_some]
            cases b with
            | false => rw [if_neg (by simp)]; exact ⟨[], false, rfl, by simp, by simp⟩
            | true =>
              have h1 := hb1 rfl
              have he := extract_size rest 1 rest.size (Nat.le_refl _)
              rw [if_pos rfl, if_pos (show (1 : Int) ≤ (rest.size : Int) by omega)]
              exact ih (n - 1) (by omega) k _ _ (show (rest.extract 1 rest.size).size ≤ n - 1 by omega) (by omega) hl2 hs2 (by omega)
theorem small_nil' : Small [] := ⟨by simp, by simp⟩
theorem good_name (a0 p : ByteArray) (l : List Lb) (hp : p.size ≤ 10000) (hl : Small l) (R : ByteArray × Int) (hR : R = nameF p l) :
    Good a0 (if R.2 = 0 then (if R.1.toList = a0.toList then (some (p, l, 0)) else (some ((⟨#[]⟩ : ByteArray), ([] : List Lb), 5))) else (some ((⟨#[]⟩ : ByteArray), ([] : List Lb), 5))) := by
  by_cases h1 : R.2 = 0
  · rw [if_pos h1]
    by_cases h2 : R.1.toList = a0.toList
    · rw [if_pos h2]
      refine ⟨_, rfl, Or.inr ⟨rfl, hp, hl, ?_⟩⟩
      show nameF p l = (a0, 0)
      rw [← hR, ← h1, ← toList_inj h2]
    · rw [if_neg h2]
      exact good_bad a0
  · rw [if_neg h1]
    exact good_bad a0
theorem parse_any (a0 : ByteArray) (ha : a0.size ≤ 10000) (k : Nat) (hk : 80000 ≤ k) : Good a0 (label_Parse.f k a0) := by
  obtain ⟨p, r, b, hcut, hp, hr⟩ := cut_any a0 (⟨#[123]⟩ : ByteArray) (by omega)
  unfold label_Parse.f
  rw [hcut, Option.bind_some]
  cases b with
  | false =>
    rw [if_neg (by simp), labelName_f p (by omega) [] small_nil' k (by omega), Option.bind_some]
    exact good_name a0 p [] (by omega) small_nil' _ rfl
  | true =>
    obtain ⟨l, b, hL, hl⟩ := labels_any r.size k r [] (Nat.le_refl _) (by omega) (by simp) (by simp) (by omega)
    have hL' : label_labels.f k r = some (l, b) := hL
    rw [if_pos rfl, hL', Option.bind_some]
    cases b with
    | false => rw [if_neg (by simp)]; exact good_bad a0
    | true =>
      rw [if_pos rfl, labelName_f p (by omega) l hl k (by omega), Option.bind_some]
      exact good_name a0 p l (by omega) hl _ rfl
end Go.Proofs.YtcikjeiebpmmcaaGreat.PureMch
