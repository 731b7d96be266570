/- Texts of this claim, joined by a program of the session (join.py). -/
import Derived.Test.YtcikjeiebpmmcaaGreatQyPMchx0
import Derived.Test.YtcikjeiebpmmcaaGreatQyPMchx1
import Derived.Test.YtcikjeiebpmmcaaGreatQyPMchx3
import Derived.Test.YtcikjeiebpmmcaaGreatQyPMchx4
import Derived.Test.YtcikjeiebpmmcaaGreatQyPMchx5
import Derived.Test.YtcikjeiebpmmcaaGreatQyPMchx6
import Derived.Test.YtcikjeiebpmmcaaGreatQyPMchx7
import Derived.Test.YtcikjeiebpmmcaaGreatQyPMchx8
import Derived.Test.YtcikjeiebpmmcaaGreatQyPMchx9
import Derived.Test.YtcikjeiebpmmcaaGreatQyPMchx10
import Derived.Test.YtcikjeiebpmmcaaGreatQyPMchx11
import Derived.Test.YtcikjeiebpmmcaaGreatQyPMchx12
import Derived.Test.YtcikjeiebpmmcaaGreatQyPMchx13
import Derived.Test.YtcikjeiebpmmcaaGreatQyPMchx14
import Derived.Test.YtcikjeiebpmmcaaGreatQyPMchx15
import Derived.Test.YtcikjeiebpmmcaaGreatQyPMchx16
import Derived.Test.YtcikjeiebpmmcaaGreatQyPMchx17
import Derived.Test.YtcikjeiebpmmcaaGreatQyPMchx18
import Derived.Test.YtcikjeiebpmmcaaGreatQyPMchx19
import Derived.Test.YtcikjeiebpmmcaaGreatQyPMchx20
import Derived.Test.YtcikjeiebpmmcaaGreatQyPMchx21
import Derived.Lib.Join
import Derived.Lib.IndexMore
import Derived.Test.YtcikjeiebpmmcaaGreatQyGFits
section
/- Pruned. -/
namespace Go.Proofs.YtcikjeiebpmmcaaGreat.PureMch
open Go.RowKit Go.Proofs.YtcikjeiebpmmcaaGreat Go.Proofs.YtcikjeiebpmmcaaGreat.PMch Go.Proofs.YtcikjeiebpmmcaaGreatW.PrintWords
set_option linter.unusedVariables false
set_option linter.unusedSimpArgs false
set_option maxRecDepth 100000 in
theorem known_K : l29_known.f 60 = some true := by kernel_rfl
theorem known_f : ∀ n, l29_known.f (n + 60) = some true
  | 0 => known_K
  | n + 1 => l29_known.mono (n + 60) _ (known_f n)
theorem known_ge (k : Nat) (h : 60 ≤ k) : l29_known.f k = some true := by
  obtain ⟨n, rfl⟩ : ∃ n, k = n + 60 := ⟨k - 60, by omega⟩
  exact known_f n
theorem wrap_in (n : Int) (h1 : -9223372036854775808 ≤ n) (h2 : n ≤ 9223372036854775807) : wrap64 n = n := by unfold wrap64; omega
theorem bt_nat (s : ByteArray) (i : Nat) (h : i < s.size) : bt s (i : Int) = (s[i].toNat : Int) := by simp [bt, h]
theorem ba_size (acc : List UInt8) : (⟨acc.toArray⟩ : ByteArray).size = acc.length := by simp [ByteArray.size]
theorem ba_app (acc : List UInt8) (x : ByteArray) : (⟨acc.toArray⟩ : ByteArray) ++ x = ⟨(acc ++ x.data.toList).toArray⟩ := by
  apply ByteArray.ext
  simp
theorem one_byte (s : ByteArray) (i : Nat) (h : i < s.size) : (s.extract i (i + 1)).data.toList = [s[i]] := by
  have hl : i < s.data.toList.length := by simpa using h
  rw [ByteArray.data_extract, Array.toList_extract, List.extract_eq_take_drop, List.drop_eq_getElem_cons hl]
  simp only [Nat.add_sub_cancel_left]
  rfl
theorem refill (took : List ByteArray) (s : ByteArray) (hs : s.size ≤ 100000) (ht : ∀ x ∈ took, x.size ≤ 100000) (hl : took.length ≤ 100000) : ∀ (k i : Nat) (acc : List UInt8), i ≤ s.size → s.size < i + k → Doing took s i acc →
    r29_Fill.l0 k s took ⟨acc.toArray⟩ (i : Int) = some (fillR took s)
  | 0, i, acc, hi, hk, hD => by omega
  | k + 1, i, acc, hi, hk, hD => by
    have hacc : acc.length ≤ 10000200000 := by have := hD.size; omega
    have hsz := ba_size acc
    rw [r29_Fill.l0]
    by_cases hlt : i < s.size
    · have hw1 : wrap64 ((i : Int) + 1) = ((i + 1 : Nat) : Int) := by rw [wrap_in _ (by omega) (by omega)]; omega
      rw [if_pos (by omega), if_pos (by omega), bt_nat s i hlt, hw1]
      by_cases h36 : s[i] = 36
      · rw [if_pos (by rw [h36]; rfl)]
        by_cases hend : i + 1 = s.size
        · rw [if_pos (by omega), doing_none hD hlt h36 hend]
        · have hk1 : i + 1 < s.size := by omega
          have hw2 : wrap64 (((i + 1 : Nat) : Int) + 1) = ((i + 2 : Nat) : Int) := by rw [wrap_in _ (by omega) (by omega)]; omega
          have h256 : s[i + 1].toNat < 256 := UInt8.toNat_lt _
          have hv : wrap64 ((wrap64 (s[i + 1].toNat : Int)) - 48) = (s[i + 1].toNat : Int) - 48 := by rw [wrap_in (s[i + 1].toNat : Int) (by omega) (by omega), wrap_in _ (by omega) (by omega)]
          rw [if_neg (by omega), if_pos (by omega), if_pos (by omega), bt_nat s (i + 1) hk1, hw2, hv]
          by_cases hd : s[i + 1] = 36
          · rw [if_pos (by rw [hd]; rfl), if_pos (by rw [hsz]; omega), ba_app]
            exact refill took s hs ht hl k (i + 2) _ (by omega) (by omega) (doing_dollar hD hk1 h36 hd)
          · have hdn : s[i + 1].toNat ≠ 36 := fun h => hd (UInt8.toNat_inj.1 (by rw [h]; rfl))
            rw [if_neg (by omega)]
            by_cases hb : s[i + 1].toNat < 49 ∨ 57 < s[i + 1].toNat ∨ took.length < s[i + 1].toNat - 48
            · rw [doing_bad hD hk1 h36 hd hb]
              by_cases h1 : s[i + 1].toNat < 49
              · rw [if_pos (by omega)]
              · rw [if_neg (by omega)]
                by_cases h2 : 57 < s[i + 1].toNat
                · rw [if_pos (by omega)]
                · rw [if_neg (by omega), if_pos (by omega)]
            · have hq : wrap64 ((s[i + 1].toNat : Int) - 48 - 1) = ((s[i + 1].toNat - 49 : Nat) : Int) := by rw [wrap_in _ (by omega) (by omega)]; omega
              rw [if_neg (by omega), if_neg (by omega), if_neg (by omega), hq, if_pos (by omega), if_pos (by omega)]
              have hrd : rdOf ByteArray.empty took ((s[i + 1].toNat - 49 : Nat) : Int) = took.getD (s[i + 1].toNat - 49) ByteArray.empty := by simp [rdOf]
              rw [hrd]
              generalize hx : took.getD (s[i + 1].toNat - 49) ByteArray.empty = x
              have hxs : x.size ≤ 100000 := by
                have hin : s[i + 1].toNat - 49 < took.length := by omega
                rw [← hx, List.getD_eq_getElem?_getD, List.getElem?_eq_getElem hin]
                exact ht _ (List.getElem_mem hin)
              rw [if_pos (by rw [hsz]; omega), ba_app]
              exact refill took s hs ht hl k (i + 2) _ (by omega) (by omega) (doing_took hD hk1 h36 hd hb x hx hxs)
      · have hdn : s[i].toNat ≠ 36 := fun h => h36 (UInt8.toNat_inj.1 (by rw [h]; rfl))
        rw [if_neg (by omega), if_pos (by omega), if_pos (by omega)]
        simp only [Int.toNat_natCast]
        have h1 := one_byte s i hlt
        have h1s : (s.extract i (i + 1)).size = 1 := by rw [← ByteArray.size_data, ← Array.length_toList, h1]; rfl
        rw [if_pos (by rw [hsz, h1s]; omega), ba_app, h1]
        exact refill took s hs ht hl k (i + 1) _ (by omega) (by omega) (doing_plain hD hlt h36)
    · obtain rfl : i = s.size := by omega
      rw [if_neg (by omega), doing_end hD]
      congr 2
      exact decide_eq_decide.2 (by omega)
end Go.Proofs.YtcikjeiebpmmcaaGreat.PureMch
end
section
/- Pruned. -/
namespace Go.Proofs.YtcikjeiebpmmcaaGreat.PureMch
open Go.RowKit Go.Proofs.YtcikjeiebpmmcaaGreat Go.Proofs.YtcikjeiebpmmcaaGreat.PMch Go.Proofs.YtcikjeiebpmmcaaGreatW.PrintWords
set_option linter.unusedVariables false
set_option linter.unusedSimpArgs false
def letterB (c : Int) : Bool := (decide (97 ≤ c) && decide (c ≤ 122)) || (decide (65 ≤ c) && decide (c ≤ 90)) || decide (c = 95)
theorem letter_f (c : Int) : r03_letter.f c = some (letterB c) := by
  unfold r03_letter.f letterB
  by_cases h1 : 97 ≤ c <;> by_cases h2 : c ≤ 122 <;> by_cases h3 : 65 ≤ c <;> by_cases h4 : c ≤ 90 <;> by_cases h5 : c = 95 <;> first | omega | simp [*]
theorem metric_step (k : Nat) (s : ByteArray) (i : Nat) (hi : i < s.size) (hs : s.size ≤ 1099511627776) :
    r03_IsMetric.l0 (k + 1) s (i : Int) = if okByte 58 (bt s i) (i == 0) = true then r03_IsMetric.l0 k s ((i + 1 : Nat) : Int) else some false := by
  have hw : wrap64 ((i : Int) + 1) = ((i + 1 : Nat) : Int) := by rw [wrap_of] <;> omega
  have h0 : ((i : Int) = 0) = ((i == 0) = true) := by simp
  rw [r03_IsMetric.l0, if_pos (by omega : (i : Int) < (s.size : Int)), if_pos (by omega : (0 : Int) ≤ i), hw]
  simp only [h0, letter_f, Option.bind_some]
  generalize r03_IsMetric.l0 k s ((i + 1 : Nat) : Int) = R
  generalize (i == 0) = z
  generalize bt s i = c
  unfold okByte letterB
  by_cases h1 : 97 ≤ c <;> by_cases h2 : c ≤ 122 <;> by_cases h3 : 65 ≤ c <;> by_cases h4 : c ≤ 90 <;> by_cases h5 : c = 95 <;> by_cases h6 : c = 58 <;> by_cases h7 : 48 ≤ c <;> by_cases h8 : c ≤ 57 <;> cases z <;> first | omega | (simp [*, Int.not_lt.2, Int.not_le.1]; try omega)
theorem metric_go (s : ByteArray) (hs : s.size ≤ 1099511627776) : ∀ (n k i : Nat), i + n = s.size → n < k → r03_IsMetric.l0 k s (i : Int) = some (okFrom s 58 n i)
  | 0, k + 1, i, h, _ => by
    obtain rfl : i = s.size := by omega
    rw [r03_IsMetric.l0, if_neg (by omega)]
    rfl
  | n + 1, k + 1, i, h, hk => by
    rw [metric_step k s i (by omega) hs, okFrom]
    cases okByte 58 (bt s i) (i == 0)
    · simp
    · rw [if_pos rfl, metric_go s hs n k (i + 1) (by omega) (by omega)]
      simp
theorem metric_f (k : Nat) (s : ByteArray) (hs : s.size ≤ 1099511627776) (hk : s.size + 2 ≤ k) : r03_IsMetric.f k s = some (namedB s 58) := by
  obtain ⟨k, rfl⟩ : ∃ j, k = j + 1 := ⟨k - 1, by omega⟩
  unfold r03_IsMetric.f namedB
  by_cases h1 : (s.size : Int) < 1
  · rw [if_pos h1, r03_IsMetric.j0, if_pos rfl]
    have : ¬ 1 ≤ s.size := by omega
    simp [this]
  · rw [if_neg h1, r03_IsMetric.j0]
    have h1' : 1 ≤ s.size := by omega
    by_cases h2 : (s.size : Int) > 200
    · have : ¬ s.size ≤ 200 := by omega
      rw [if_pos (by simpa using h2)]
      simp [this]
    · have h2' : s.size ≤ 200 := by omega
      rw [if_neg (by simpa using h2)]
      have := metric_go s hs s.size k 0 (by omega) (by omega)
      rw [show ((0 : Nat) : Int) = 0 from rfl] at this
      rw [this]
      simp [h1', h2']
def noColon (s : ByteArray) : Nat → Nat → Bool
  | 0, _ => true
  | n + 1, i => !decide (bt s i = 58) && noColon s n (i + 1)
theorem ok_word (c : Int) (z : Bool) : okByte 95 c z = (!decide (c = 58) && okByte 58 c z) := by
  unfold okByte
  by_cases h : c = 58
  · subst h; cases z <;> rfl
  · by_cases h5 : c = 95 <;> simp [h, h5]
theorem word_from (s : ByteArray) : ∀ (n i : Nat), okFrom s 95 n i = (noColon s n i && okFrom s 58 n i)
  | 0, _ => rfl
  | n + 1, i => by
    rw [okFrom, okFrom, noColon, word_from s n (i + 1), ok_word]
    cases decide (bt s i = 58) <;> cases okByte 58 (bt s i) (i == 0) <;> cases noColon s n (i + 1) <;> simp
theorem word_go (s : ByteArray) (hs : s.size ≤ 1099511627776) : ∀ (n k i : Nat), i + n = s.size → n + s.size + 2 < k → r03_IsWord.l0 k s (i : Int) = some (noColon s n i && namedB s 58)
  | 0, k + 1, i, h, hk => by
    obtain rfl : i = s.size := by omega
    rw [r03_IsWord.l0, if_neg (by omega), metric_f k s hs (by omega)]
    simp [noColon]
  | n + 1, k + 1, i, h, hk => by
    have hw : wrap64 ((i : Int) + 1) = ((i + 1 : Nat) : Int) := by rw [wrap_of] <;> omega
    rw [r03_IsWord.l0, if_pos (by omega), if_pos (by omega), hw, word_go s hs n k (i + 1) (by omega) (by omega), noColon]
    by_cases h : bt s i = 58 <;> simp [h]
theorem word_f (k : Nat) (s : ByteArray) (hs : s.size ≤ 1099511627776) (hk : 2 * s.size + 3 ≤ k) : r03_IsWord.f k s = some (namedB s 95) := by
  have := word_go s hs s.size k 0 (by omega) (by omega)
  rw [show ((0 : Nat) : Int) = 0 from rfl] at this
  unfold r03_IsWord.f
  rw [this]
  unfold namedB
  rw [word_from]
  cases noColon s s.size 0 <;> simp
end Go.Proofs.YtcikjeiebpmmcaaGreat.PureMch
end
section
/- Pruned. -/
namespace Go.Proofs.YtcikjeiebpmmcaaGreat.PureMch
open Go.RowKit Go.Proofs.YtcikjeiebpmmcaaGreat Go.Proofs.YtcikjeiebpmmcaaGreat.PMch Go.Proofs.YtcikjeiebpmmcaaGreatW.PrintWords
set_option linter.unusedVariables false
set_option linter.unusedSimpArgs false
def scanL : List UInt8 → Option Nat
  | [] => some 0
  | c :: r => if c = 42 then (scanL r).map (· + 1) else if c = 92 then
      match r with
      | [] => none
      | d :: r' => if d = 42 ∨ d = 63 ∨ d = 92 then scanL r' else none
    else scanL r
theorem scan_star (r : List UInt8) : scanL (42 :: r) = (scanL r).map (· + 1) := by rw [scanL.eq_def]; simp
theorem scan_plain (c : UInt8) (r : List UInt8) (h1 : c ≠ 42) (h2 : c ≠ 92) : scanL (c :: r) = scanL r := by rw [scanL.eq_def]; simp only [if_neg h1, if_neg h2]
theorem scan_end : scanL [92] = none := by simp [scanL]
theorem scan_esc (d : UInt8) (r : List UInt8) (h : d = 42 ∨ d = 63 ∨ d = 92) : scanL (92 :: d :: r) = scanL r := by
  rw [scanL.eq_def]; simp only [show ¬ ((92 : UInt8) = 42) by decide, if_false, if_true, if_pos h]
theorem scan_bad (d : UInt8) (r : List UInt8) (h : ¬ (d = 42 ∨ d = 63 ∨ d = 92)) : scanL (92 :: d :: r) = none := by
  rw [scanL.eq_def]; simp only [show ¬ ((92 : UInt8) = 42) by decide, if_false, if_true, if_neg h]
theorem drop_at (s : ByteArray) (i : Nat) (h : i < s.size) : s.data.toList.drop i = s[i] :: s.data.toList.drop (i + 1) := by
  rw [List.drop_eq_getElem_cons (by simpa using h)]
  rfl
theorem esc_ix (d : UInt8) : (Lib.indexByte [42, 63, 92] d < 0) ↔ ¬ (d = 42 ∨ d = 63 ∨ d = 92) := by
  constructor
  · intro h hd
    have e : Lib.indexByte [42, 63, 92] d = -1 := by have := Lib.indexByte_ge [42, 63, 92] d; omega
    have hn := Lib.indexByte_none e
    rcases hd with rfl | rfl | rfl
    · exact hn 0 rfl
    · exact hn 1 rfl
    · exact hn 2 rfl
  · intro h
    refine Int.not_le.1 fun h0 => h ?_
    obtain ⟨o, ho⟩ := Int.eq_ofNat_of_zero_le h0
    have hs := (Lib.indexByte_some ho).1
    match o, hs with
    | 0, hs => exact Or.inl (Option.some.inj hs).symm
    | 1, hs => exact Or.inr (Or.inl (Option.some.inj hs).symm)
    | 2, hs => exact Or.inr (Or.inr (Option.some.inj hs).symm)
    | n + 3, hs => simp at hs
theorem push_ok (out : List (List S103)) (x : S103) (i j : Nat) (hj : j = out.length - 1) (h0 : 0 < out.length) (hp : ∀ p ∈ out, p.length ≤ i) :
    (out.set j (rd_L3 out (j : Int) ++ [x])).length = out.length ∧ ∀ p ∈ out.set j (rd_L3 out (j : Int) ++ [x]), p.length ≤ i + 1 := by
  refine ⟨by simp, fun p hm => ?_⟩
  rcases List.mem_or_eq_of_mem_set hm with h | rfl
  · have := hp p h
    omega
  · have hjl : j < out.length := by omega
    have hr : rd_L3 out (j : Int) = out[j] := by simp [rd_L3, hjl]
    rw [hr, List.length_append, List.length_singleton]
    have := hp _ (List.getElem_mem hjl)
    omega
theorem last_len (out : List (List S103)) (i j : Nat) (hj : j = out.length - 1) (h0 : 0 < out.length) (hp : ∀ p ∈ out, p.length ≤ i) : (rd_L3 out (j : Int)).length ≤ i := by
  have hjl : j < out.length := by omega
  have hr : rd_L3 out (j : Int) = out[j] := by simp [rd_L3, hjl]
  rw [hr]
  exact hp _ (List.getElem_mem hjl)
theorem pieces_l0 (s : ByteArray) (hs : s.size ≤ 100000) : ∀ (k i : Nat) (out : List (List S103)), i ≤ s.size → s.size < i + k → 0 < out.length → out.length ≤ i + 1 → (∀ p ∈ out, p.length ≤ i) →
    ∃ ps b, relabel_pieces.l0 k s out (i : Int) = some (ps, b) ∧ (ps.length ≤ s.size + 1 ∧ ∀ p ∈ ps, p.length ≤ s.size) ∧ (match scanL (s.data.toList.drop i) with | none => b = false | some n => ps.length = out.length + n ∧ b = decide (out.length + n ≤ 10 ∧ s.size ≤ 1024))
  | 0, i, out, hi, hk, h0, ho, hp => by omega
  | k + 1, i, out, hi, hk, h0, ho, hp => by
    rw [relabel_pieces.l0]
    by_cases hlt : i < s.size
    · have hw1 : wrap64 ((i : Int) + 1) = ((i + 1 : Nat) : Int) := by rw [wrap_in _ (by omega) (by omega)]; omega
      have hwl : wrap64 ((out.length : Int) - 1) = ((out.length - 1 : Nat) : Int) := by rw [wrap_in _ (by omega) (by omega)]; omega
      have hll := last_len out i _ rfl h0 hp
      rw [if_pos (by omega), if_pos (by omega), bt_nat s i hlt, hw1, hwl, drop_at s i hlt]
      by_cases h42 : s[i] = 42
      · rw [if_pos (by rw [h42]; rfl), if_pos (by omega), h42, scan_star]
        obtain ⟨ps, b, h1, hS, h2⟩ := pieces_l0 s hs k (i + 1) (out ++ [[]]) (by omega) (by omega) (by simp) (by simp; omega) (fun p hm => by
          rcases List.mem_append.1 hm with h | h
          · have := hp p h; omega
          · obtain rfl := List.mem_singleton.1 h; simp)
        refine ⟨ps, b, h1, hS, ?_⟩
        cases hsc : scanL (s.data.toList.drop (i + 1)) with
        | none => rw [hsc] at h2; exact h2
        | some n =>
          rw [hsc] at h2
          simp only [List.length_append, List.length_singleton] at h2
          refine (show ps.length = out.length + (n + 1) ∧ b = decide (out.length + (n + 1) ≤ 10 ∧ s.size ≤ 1024) from ⟨by have := h2.1; omega, ?_⟩)
          rw [h2.2]
          exact decide_eq_decide.2 (by omega)
      · have hn42 : s[i].toNat ≠ 42 := fun h => h42 (UInt8.toNat_inj.1 (by rw [h]; rfl))
        rw [if_neg (by omega)]
        by_cases h63 : s[i] = 63
        · obtain ⟨q1, q2⟩ := push_ok out ⟨true, (s[i].toNat : Int)⟩ i _ rfl h0 hp
          rw [if_pos (by rw [h63]; rfl), if_pos (by omega), if_pos (by omega), if_pos (by omega), Int.toNat_natCast, h63, scan_plain 63 _ (by decide) (by decide)]
          rw [h63] at q1 q2
          obtain ⟨ps, b, h1, hS, h2⟩ := pieces_l0 s hs k (i + 1) _ (by omega) (by omega) (by rw [q1]; exact h0) (by rw [q1]; omega) q2
          rw [q1] at h2
          exact ⟨ps, b, h1, hS, h2⟩
        · have hn63 : s[i].toNat ≠ 63 := fun h => h63 (UInt8.toNat_inj.1 (by rw [h]; rfl))
          rw [if_neg (by omega)]
          by_cases h92 : s[i] = 92
          · rw [if_pos (by rw [h92]; rfl), h92]
            by_cases hend : i + 1 = s.size
            · rw [if_pos (by omega)]
              refine ⟨_, _, rfl, ⟨by simp, by simp⟩, ?_⟩
              rw [List.drop_of_length_le (by simp; omega), scan_end]
            · have hk1 : i + 1 < s.size := by omega
              have hw2 : wrap64 (((i + 1 : Nat) : Int) + 1) = ((i + 2 : Nat) : Int) := by rw [wrap_in _ (by omega) (by omega)]; omega
              have hix : strings_IndexByte.f (⟨#[42, 63, 92]⟩ : ByteArray) (s[i + 1].toNat : Int) = some (Lib.indexByte [42, 63, 92] s[i + 1]) := by
                unfold strings_IndexByte.f
                rw [Int.toNat_natCast, show (s[i + 1].toNat).toUInt8 = s[i + 1] from by simp]
              rw [if_neg (by omega), if_pos (by omega), if_pos (by omega), bt_nat s (i + 1) hk1, hix, Option.bind_some, drop_at s (i + 1) hk1, hw2]
              by_cases hd : s[i + 1] = 42 ∨ s[i + 1] = 63 ∨ s[i + 1] = 92
              · rw [if_neg (fun h => (esc_ix _).1 h hd), if_pos (by omega), if_pos (by omega), if_pos (by omega), Int.toNat_natCast, scan_esc _ _ hd]
                obtain ⟨q1, q2⟩ := push_ok out ⟨false, (s[i + 1].toNat : Int)⟩ i _ rfl h0 hp
                obtain ⟨ps, b, h1, hS, h2⟩ := pieces_l0 s hs k (i + 2) _ (by omega) (by omega) (by rw [q1]; exact h0) (by rw [q1]; omega) (fun p hm => Nat.le_trans (q2 p hm) (by omega))
                rw [q1] at h2
                exact ⟨ps, b, h1, hS, h2⟩
              · rw [if_pos ((esc_ix _).2 hd), scan_bad _ _ hd]
                exact ⟨_, _, rfl, ⟨by simp, by simp⟩, rfl⟩
          · have hn92 : s[i].toNat ≠ 92 := fun h => h92 (UInt8.toNat_inj.1 (by rw [h]; rfl))
            rw [if_neg (by omega), if_pos (by omega), if_pos (by omega), if_pos (by omega), Int.toNat_natCast, scan_plain _ _ h42 h92]
            obtain ⟨q1, q2⟩ := push_ok out ⟨false, (s[i].toNat : Int)⟩ i _ rfl h0 hp
            obtain ⟨ps, b, h1, hS, h2⟩ := pieces_l0 s hs k (i + 1) _ (by omega) (by omega) (by rw [q1]; exact h0) (by rw [q1]; omega) q2
            rw [q1] at h2
            exact ⟨ps, b, h1, hS, h2⟩
    · rw [if_neg (by omega), List.drop_of_length_le (by simp; omega)]
      by_cases h10 : (out.length : Int) ≤ 10
      · rw [if_pos h10]
        refine ⟨_, _, rfl, ⟨by omega, fun p hm => by have := hp p hm; omega⟩, ?_⟩
        simp only [scanL]
        refine ⟨rfl, decide_eq_decide.2 (by omega)⟩
      · rw [if_neg h10]
        refine ⟨_, _, rfl, ⟨by omega, fun p hm => by have := hp p hm; omega⟩, ?_⟩
        simp only [scanL]
        refine ⟨rfl, (decide_eq_false (by omega)).symm⟩
def cntS (l : List S70) : Nat := l.countP (·.f0)
theorem cntS_add (l : List S70) (x : S70) : cntS (l ++ [x]) = cntS l + (if x.f0 = true then 1 else 0) := by
  unfold cntS
  rw [List.countP_append, List.countP_singleton]
theorem parts_l0 (s : ByteArray) (hs : s.size ≤ 100000) : ∀ (k i : Nat) (out : List S70), i ≤ s.size → s.size < i + k → out.length ≤ i → cntS out ≤ i →
    ∃ ps b, r29_Parts.l0 k s out (cntS out : Int) (i : Int) = some (ps, b) ∧ ps.length ≤ s.size ∧ (match scanL (s.data.toList.drop i) with | none => b = false | some n => cntS ps = cntS out + n ∧ b = decide (cntS out + n ≤ 9 ∧ s.size ≤ 1024))
  | 0, i, out, hi, hk, ho, hp => by omega
  | k + 1, i, out, hi, hk, ho, hp => by
    rw [r29_Parts.l0]
    have go : ∀ (x : S70) (j : Nat), x.f0 = false → i < j → j ≤ s.size → ∃ ps b, r29_Parts.l0 k s (out ++ [x]) (cntS out : Int) (j : Int) = some (ps, b) ∧ ps.length ≤ s.size ∧ (match scanL (s.data.toList.drop j) with | none => b = false | some n => cntS ps = cntS out + n ∧ b = decide (cntS out + n ≤ 9 ∧ s.size ≤ 1024)) := fun x j hx hij hj => by
      have hc : cntS (out ++ [x]) = cntS out := by rw [cntS_add, hx]; rfl
      have h := parts_l0 s hs k j (out ++ [x]) hj (by omega) (by rw [List.length_append, List.length_singleton]; omega) (by rw [hc]; omega)
      rw [hc] at h
      exact h
    by_cases hlt : i < s.size
    · have hw1 : wrap64 ((i : Int) + 1) = ((i + 1 : Nat) : Int) := by rw [wrap_in _ (by omega) (by omega)]; omega
      rw [if_pos (by omega), if_pos (by omega), bt_nat s i hlt, hw1, drop_at s i hlt]
      by_cases h42 : s[i] = 42
      · have hc : cntS (out ++ [(⟨true, false, 0⟩ : S70)]) = cntS out + 1 := by rw [cntS_add]; rfl
        have hwc : wrap64 ((cntS out : Int) + 1) = ((cntS out + 1 : Nat) : Int) := by rw [wrap_in _ (by omega) (by omega)]; omega
        rw [if_pos (by rw [h42]; rfl), if_pos (by omega), h42, scan_star, hwc, ← hc]
        obtain ⟨ps, b, h1, h3, h2⟩ := parts_l0 s hs k (i + 1) (out ++ [(⟨true, false, 0⟩ : S70)]) (by omega) (by omega) (by rw [List.length_append, List.length_singleton]; omega) (by rw [hc]; omega)
        rw [hc] at h2
        refine ⟨ps, b, h1, h3, ?_⟩
        cases hsc : scanL (s.data.toList.drop (i + 1)) with
        | none => rw [hsc] at h2; exact h2
        | some n =>
          rw [hsc] at h2
          refine (show cntS ps = cntS out + (n + 1) ∧ b = decide (cntS out + (n + 1) ≤ 9 ∧ s.size ≤ 1024) from ⟨by have := h2.1; omega, ?_⟩)
          rw [h2.2]
          exact decide_eq_decide.2 (by omega)
      · have hn42 : s[i].toNat ≠ 42 := fun h => h42 (UInt8.toNat_inj.1 (by rw [h]; rfl))
        rw [if_neg (by omega)]
        by_cases h63 : s[i] = 63
        · rw [if_pos (by rw [h63]; rfl), if_pos (by omega), h63, scan_plain 63 _ (by decide) (by decide)]
          exact go _ (i + 1) rfl (by omega) (by omega)
        · have hn63 : s[i].toNat ≠ 63 := fun h => h63 (UInt8.toNat_inj.1 (by rw [h]; rfl))
          rw [if_neg (by omega)]
          by_cases h92 : s[i] = 92
          · rw [if_pos (by rw [h92]; rfl), h92]
            by_cases hend : i + 1 = s.size
            · rw [if_pos (by omega)]
              refine ⟨_, _, rfl, by simp, ?_⟩
              rw [List.drop_of_length_le (by simp; omega), scan_end]
            · have hk1 : i + 1 < s.size := by omega
              have hw2 : wrap64 (((i + 1 : Nat) : Int) + 1) = ((i + 2 : Nat) : Int) := by rw [wrap_in _ (by omega) (by omega)]; omega
              rw [if_neg (by omega), if_pos (by omega), if_pos (by omega), bt_nat s (i + 1) hk1, drop_at s (i + 1) hk1, hw2]
              by_cases d1 : s[i + 1] = 42
              · rw [if_pos (by rw [d1]; rfl), if_pos (by omega), scan_esc _ _ (Or.inl d1)]
                exact go _ (i + 2) rfl (by omega) (by omega)
              · have e1 : s[i + 1].toNat ≠ 42 := fun h => d1 (UInt8.toNat_inj.1 (by rw [h]; rfl))
                rw [if_neg (by omega)]
                by_cases d2 : s[i + 1] = 63
                · rw [if_pos (by rw [d2]; rfl), if_pos (by omega), scan_esc _ _ (Or.inr (Or.inl d2))]
                  exact go _ (i + 2) rfl (by omega) (by omega)
                · have e2 : s[i + 1].toNat ≠ 63 := fun h => d2 (UInt8.toNat_inj.1 (by rw [h]; rfl))
                  rw [if_neg (by omega)]
                  by_cases d3 : s[i + 1] = 92
                  · rw [if_pos (by rw [d3]; rfl), if_pos (by omega), scan_esc _ _ (Or.inr (Or.inr d3))]
                    exact go _ (i + 2) rfl (by omega) (by omega)
                  · have e3 : s[i + 1].toNat ≠ 92 := fun h => d3 (UInt8.toNat_inj.1 (by rw [h]; rfl))
                    rw [if_neg (by omega), scan_bad _ _ (fun h => by rcases h with h | h | h <;> contradiction)]
                    exact ⟨_, _, rfl, by simp, rfl⟩
          · have hn92 : s[i].toNat ≠ 92 := fun h => h92 (UInt8.toNat_inj.1 (by rw [h]; rfl))
            rw [if_neg (by omega), if_pos (by omega), scan_plain _ _ h42 h92]
            exact go _ (i + 1) rfl (by omega) (by omega)
    · rw [if_neg (by omega), List.drop_of_length_le (by simp; omega)]
      by_cases h9 : (cntS out : Int) ≤ 9
      · rw [if_pos h9]
        refine ⟨_, _, rfl, by omega, ?_⟩
        simp only [scanL]
        exact ⟨rfl, decide_eq_decide.2 (by omega)⟩
      · rw [if_neg h9]
        refine ⟨_, _, rfl, by omega, ?_⟩
        simp only [scanL]
        exact ⟨rfl, (decide_eq_false (by omega)).symm⟩
theorem stars_l0 (l : List S70) (hl : l.length ≤ 100000) : ∀ (k i a : Nat), i ≤ l.length → l.length < i + k → a ≤ i → r29_Stars.l0 k l (a : Int) (i : Int) = some ((a + cntS (l.drop i) : Nat) : Int)
  | 0, i, a, hi, hk, ha => by omega
  | k + 1, i, a, hi, hk, ha => by
    rw [r29_Stars.l0]
    by_cases hlt : i < l.length
    · have hw1 : wrap64 ((i : Int) + 1) = ((i + 1 : Nat) : Int) := by rw [wrap_in _ (by omega) (by omega)]; omega
      have hwa : wrap64 ((a : Int) + 1) = ((a + 1 : Nat) : Int) := by rw [wrap_in _ (by omega) (by omega)]; omega
      have hr : rd_T70 l (i : Int) = l[i] := by simp [rd_T70, hlt]
      rw [if_pos (by omega), if_pos (by omega), hr, hw1, hwa, List.drop_eq_getElem_cons hlt]
      unfold cntS
      rw [List.countP_cons]
      by_cases hf : l[i].f0 = true
      · rw [if_pos hf, if_pos hf, stars_l0 l hl k (i + 1) (a + 1) (by omega) (by omega) (by omega)]
        unfold cntS
        congr 2
        omega
      · rw [if_neg hf, if_neg hf, stars_l0 l hl k (i + 1) a (by omega) (by omega) (by omega)]
        rfl
    · rw [if_neg (by omega), List.drop_of_length_le (by omega)]
      rfl
def byB (s : ByteArray) : Bool := decide (s.toList = [95, 95, 110, 97, 109, 101, 95, 95]) || namedB s 95
theorem by_f (s : ByteArray) (hs : s.size ≤ 1099511627776) : relabel_by.f s = some (byB s) := by
  unfold relabel_by.f byB label_IsWord.f label_named.f
  by_cases h : s.toList = [95, 95, 110, 97, 109, 101, 95, 95]
  · rw [if_pos h, decide_eq_true h]; rfl
  · rw [if_neg h, if_pos hs, decide_eq_false h]; rfl
theorem told_f (k : Nat) (s : ByteArray) (hs : s.size ≤ 1099511627776) (hk : 2 * s.size + 3 ≤ k) : r29_told.f k s = some (byB s) := by
  unfold r29_told.f byB
  by_cases h : s.toList = [95, 95, 110, 97, 109, 101, 95, 95]
  · rw [if_pos h, decide_eq_true h]; rfl
  · rw [if_neg h, word_f k s hs hk, decide_eq_false h]; rfl
def okPat (s : ByteArray) : Option Nat := match scanL s.data.toList with
  | none => none
  | some n => if n ≤ 9 ∧ s.size ≤ 1024 then some n else none
theorem pieces_f (s : ByteArray) (hs : s.size ≤ 100000) (k : Nat) (hk : s.size < k) :
    ∃ ps b, relabel_pieces.f k s = some (ps, b) ∧ (ps.length ≤ s.size + 1 ∧ ∀ p ∈ ps, p.length ≤ s.size) ∧ (match okPat s with | none => b = false | some n => b = true ∧ ps.length = n + 1 ∧ n ≤ 9) := by
  obtain ⟨ps, b, h1, hS, h2⟩ := pieces_l0 s hs k 0 [[]] (Nat.zero_le _) (by omega) (by simp) (by simp) (by simp)
  refine ⟨ps, b, h1, hS, ?_⟩
  rw [List.drop_zero] at h2
  unfold okPat
  cases hsc : scanL s.data.toList with
  | none => rw [hsc] at h2; exact h2
  | some n =>
    rw [hsc] at h2
    simp only [List.length_singleton] at h2
    show match (if n ≤ 9 ∧ s.size ≤ 1024 then some n else none) with | none => b = false | some n => b = true ∧ ps.length = n + 1 ∧ n ≤ 9
    by_cases hc : n ≤ 9 ∧ s.size ≤ 1024
    · rw [if_pos hc]
      exact ⟨h2.2.trans (decide_eq_true (by omega)), by omega, hc.1⟩
    · rw [if_neg hc]
      exact h2.2.trans (decide_eq_false (by omega))
theorem parts_f (s : ByteArray) (hs : s.size ≤ 100000) (k : Nat) (hk : s.size < k) :
    ∃ ps b, r29_Parts.f k s = some (ps, b) ∧ ps.length ≤ s.size ∧ (match okPat s with | none => b = false | some n => b = true ∧ cntS ps = n ∧ n ≤ 9) := by
  obtain ⟨ps, b, h1, hS, h2⟩ := parts_l0 s hs k 0 [] (Nat.zero_le _) (by omega) (by simp) (by simp [cntS])
  refine ⟨ps, b, h1, hS, ?_⟩
  rw [List.drop_zero] at h2
  unfold okPat
  have h0 : cntS [] = 0 := rfl
  rw [h0] at h2
  cases hsc : scanL s.data.toList with
  | none => rw [hsc] at h2; exact h2
  | some n =>
    rw [hsc] at h2
    show match (if n ≤ 9 ∧ s.size ≤ 1024 then some n else none) with | none => b = false | some n => b = true ∧ cntS ps = n ∧ n ≤ 9
    have h3 : cntS ps = 0 + n ∧ b = decide (0 + n ≤ 9 ∧ s.size ≤ 1024) := h2
    by_cases hc : n ≤ 9 ∧ s.size ≤ 1024
    · rw [if_pos hc]
      exact ⟨h3.2.trans (decide_eq_true (by omega)), by omega, hc.1⟩
    · rw [if_neg hc]
      exact h3.2.trans (decide_eq_false (by omega))
theorem stars_f (l : List S70) (hl : l.length ≤ 100000) (k : Nat) (hk : l.length < k) : r29_Stars.f k l = some ((cntS l : Nat) : Int) := by
  have h := stars_l0 l hl k 0 0 (Nat.zero_le _) (by omega) (Nat.le_refl _)
  rw [List.drop_zero, Nat.zero_add] at h
  exact h
def emptyB (s : ByteArray) : Bool := decide (s.size = 0)
theorem list_nil (s : ByteArray) : (s.toList = ([] : List UInt8)) ↔ s.size = 0 := by
  rw [ByteArray.toList_eq, ← List.length_eq_zero_iff]
  simp
theorem beq_nil (s : ByteArray) : (s.toList == ([] : List UInt8)) = emptyB s := by
  unfold emptyB
  rw [Bool.eq_iff_iff, beq_iff_eq, decide_eq_true_eq]
  exact list_nil s
def restB (n : Nat) (kind : Int) (lab tm into : ByteArray) : Bool :=
  if kind = 1 ∨ kind = 2 then byB lab && (emptyB tm && emptyB into)
  else if kind = 3 then byB lab && (byB into && (fillR (List.replicate n (⟨#[]⟩ : ByteArray)) tm).2)
  else if kind = 4 then emptyB lab && (emptyB tm && emptyB into) else false
def mayB (kind : Int) (lab pat tm into : ByteArray) : Bool := match okPat pat with
  | none => false
  | some n => restB n kind lab tm into
theorem small_fill (n : Nat) (tm : ByteArray) (ht : tm.size ≤ 100000) : relabel_Fill.f tm (List.replicate n (⟨#[]⟩ : ByteArray)) = some (fillR (List.replicate n (⟨#[]⟩ : ByteArray)) tm) := by
  unfold relabel_Fill.f
  rw [if_pos ⟨ht, fun x hx => by rw [List.eq_of_mem_replicate hx]; show (0 : Nat) ≤ 100000; omega⟩]
theorem small_refill (n : Nat) (hn : n ≤ 9) (tm : ByteArray) (ht : tm.size ≤ 100000) (k : Nat) (hk : tm.size < k) : r29_Fill.f k tm (List.replicate n (⟨#[]⟩ : ByteArray)) = some (fillR (List.replicate n (⟨#[]⟩ : ByteArray)) tm) :=
  refill _ tm ht (fun x hx => by rw [List.eq_of_mem_replicate hx]; show (0 : Nat) ≤ 100000; omega) (by rw [List.length_replicate]; omega) k 0 [] (Nat.zero_le _) (by omega) (doing_start _ tm)
theorem may_j0 (ps : List (List S103)) (n : Nat) (hl : ps.length = n + 1) (hn : n ≤ 9) (kind : Int) (b : Bool) (hb : b = true ↔ kind = 1 ∨ kind = 2) (lab pat tm into : ByteArray) (h1 : lab.size ≤ 100000) (h3 : tm.size ≤ 100000) (h4 : into.size ≤ 100000) (k : Nat) :
    relabel_may.j0 (k + 1) ps kind b kind lab pat tm into = some (restB n kind lab tm into) := by
  have hwl : wrap64 ((ps.length : Int) - 1) = (n : Int) := by rw [wrap_in _ (by omega) (by omega)]; omega
  rw [relabel_may.j0, by_f lab (by omega), by_f into (by omega), hwl, Int.toNat_natCast, small_fill n tm h3]
  simp only [Option.bind_some, beq_nil]
  unfold restB
  by_cases hk : kind = 1 ∨ kind = 2
  · rw [if_pos (hb.2 hk), if_pos hk]
    cases byB lab with
    | false => rfl
    | true =>
      rw [if_pos rfl]
      by_cases ht : tm.size = 0
      · rw [if_pos ((list_nil tm).2 ht), show emptyB tm = true from decide_eq_true ht]; rfl
      · rw [if_neg (fun h => ht ((list_nil tm).1 h)), show emptyB tm = false from decide_eq_false ht]; rfl
  · rw [if_neg (fun h => hk (hb.1 h)), if_neg hk]
    by_cases k3 : kind = 3
    · rw [if_pos k3, if_pos k3, if_pos (by omega), if_pos (by omega)]
      cases byB lab with
      | false => rfl
      | true =>
        rw [if_pos rfl]
        cases byB into with
        | false => rfl
        | true => rfl
    · rw [if_neg k3, if_neg k3]
      by_cases k4 : kind = 4
      · rw [if_pos k4, if_pos k4]
        by_cases hl : lab.size = 0
        · rw [if_pos ((list_nil lab).2 hl), show emptyB lab = true from decide_eq_true hl]
          by_cases ht : tm.size = 0
          · rw [if_pos ((list_nil tm).2 ht), show emptyB tm = true from decide_eq_true ht]; rfl
          · rw [if_neg (fun h => ht ((list_nil tm).1 h)), show emptyB tm = false from decide_eq_false ht]; rfl
        · rw [if_neg (fun h => hl ((list_nil lab).1 h)), show emptyB lab = false from decide_eq_false hl]; rfl
      · rw [if_neg k4, if_neg k4]
theorem rmay_f (k : Nat) (kind : Int) (lab pat tm into : ByteArray) (h1 : lab.size ≤ 100000) (h2 : pat.size ≤ 100000) (h3 : tm.size ≤ 100000) (h4 : into.size ≤ 100000) (hk : 100001 ≤ k) :
    relabel_may.f k kind lab pat tm into = some (mayB kind lab pat tm into) := by
  obtain ⟨k, rfl⟩ : ∃ n, k = n + 1 := ⟨k - 1, by omega⟩
  obtain ⟨ps, b, hp, _, hm⟩ := pieces_f pat h2 (k + 1) (by omega)
  unfold relabel_may.f mayB
  rw [hp, Option.bind_some]
  cases ho : okPat pat with
  | none =>
    rw [ho] at hm
    obtain rfl : b = false := hm
    rw [if_neg (by simp)]
  | some n =>
    rw [ho] at hm
    obtain ⟨rfl, hl, hn⟩ : b = true ∧ ps.length = n + 1 ∧ n ≤ 9 := hm
    rw [if_pos rfl]
    show (if kind = 1 then relabel_may.j0 (k + 1) ps kind (kind == 1) kind lab pat tm into else relabel_may.j0 (k + 1) ps kind (kind == 2) kind lab pat tm into) = some (restB n kind lab tm into)
    by_cases k1 : kind = 1
    · rw [if_pos k1]
      exact may_j0 ps n hl hn kind _ (by rw [beq_iff_eq]; omega) lab pat tm into h1 h3 h4 k
    · rw [if_neg k1]
      exact may_j0 ps n hl hn kind _ (by rw [beq_iff_eq]; omega) lab pat tm into h1 h3 h4 k
theorem wrap_two0 (a b : ByteArray) (ha : a.size ≤ 100000) (hb : b.size ≤ 100000) : (wrap64 ((a.size : Int) + (b.size : Int)) == 0) = (emptyB a && emptyB b) := by
  rw [wrap_in _ (by omega) (by omega), Bool.eq_iff_iff, beq_iff_eq, Bool.and_eq_true]
  unfold emptyB
  rw [decide_eq_true_eq, decide_eq_true_eq]
  omega
theorem wrap_three0 (a b c : ByteArray) (ha : a.size ≤ 100000) (hb : b.size ≤ 100000) (hc : c.size ≤ 100000) : (wrap64 (wrap64 ((a.size : Int) + (b.size : Int)) + (c.size : Int)) == 0) = (emptyB a && (emptyB b && emptyB c)) := by
  rw [wrap_in ((a.size : Int) + _) (by omega) (by omega), wrap_in _ (by omega) (by omega), Bool.eq_iff_iff, beq_iff_eq, Bool.and_eq_true, Bool.and_eq_true]
  unfold emptyB
  rw [decide_eq_true_eq, decide_eq_true_eq, decide_eq_true_eq]
  omega
theorem one_j0 (n : Nat) (kind : Int) (b : Bool) (hb : b = true ↔ kind = 1 ∨ kind = 2) (h3' : kind ≠ 3) (lab pat tm into : ByteArray) (h1 : lab.size ≤ 100000) (h3 : tm.size ≤ 100000) (h4 : into.size ≤ 100000) (k : Nat) (hk : 300000 ≤ k) :
    r29_One.j0 (k + 1) kind b kind lab pat tm into = some (restB n kind lab tm into) := by
  rw [r29_One.j0, told_f k lab (by omega) (by omega), wrap_two0 tm into h3 h4, wrap_three0 lab tm into h1 h3 h4]
  simp only [Option.bind_some]
  unfold restB
  by_cases hk : kind = 1 ∨ kind = 2
  · rw [if_pos (hb.2 hk), if_pos hk]
    cases byB lab with
    | false => rfl
    | true => rfl
  · rw [if_neg (fun h => hk (hb.1 h)), if_neg hk, if_neg h3']
    by_cases k4 : kind = 4
    · rw [if_pos k4, if_pos k4]
    · rw [if_neg k4, if_neg k4]
theorem one_f (k : Nat) (kind : Int) (lab pat tm into : ByteArray) (h1 : lab.size ≤ 100000) (h2 : pat.size ≤ 100000) (h3 : tm.size ≤ 100000) (h4 : into.size ≤ 100000) (hk : 300001 ≤ k) :
    r29_One.f k kind lab pat tm into = some (mayB kind lab pat tm into) := by
  obtain ⟨k, rfl⟩ : ∃ n, k = n + 1 := ⟨k - 1, by omega⟩
  obtain ⟨ps, b, hp, hlen, hm⟩ := parts_f pat h2 (k + 1) (by omega)
  unfold r29_One.f mayB
  rw [hp, Option.bind_some]
  cases ho : okPat pat with
  | none =>
    rw [ho] at hm
    obtain rfl : b = false := hm
    rw [if_neg (by simp)]
  | some n =>
    rw [ho] at hm
    obtain ⟨rfl, hc, hn⟩ : b = true ∧ cntS ps = n ∧ n ≤ 9 := hm
    rw [if_pos rfl]
    simp only [stars_f ps (show ps.length ≤ 100000 by omega) (k + 1) (by omega), hc, Option.bind_some, Int.toNat_natCast, small_refill n hn tm h3 (k + 1) (by omega), told_f (k + 1) lab (by omega) (by omega), told_f (k + 1) into (by omega) (by omega)]
    by_cases k3 : kind = 3
    · rw [if_pos k3, if_pos (by omega), if_pos (by omega)]
      have hrest : restB n kind lab tm into = (byB lab && (byB into && (fillR (List.replicate n (⟨#[]⟩ : ByteArray)) tm).2)) := by
        unfold restB
        rw [if_neg (show ¬ (kind = 1 ∨ kind = 2) by omega), if_pos k3]
      rw [hrest]
      cases byB lab with
      | false => cases (fillR (List.replicate n (⟨#[]⟩ : ByteArray)) tm).2 <;> rfl
      | true => cases (fillR (List.replicate n (⟨#[]⟩ : ByteArray)) tm).2 <;> cases byB into <;> rfl
    · rw [if_neg k3]
      by_cases k1 : kind = 1
      · rw [if_pos k1]
        exact one_j0 n kind _ (by rw [beq_iff_eq]; omega) k3 lab pat tm into h1 h3 h4 k (by omega)
      · rw [if_neg k1]
        exact one_j0 n kind _ (by rw [beq_iff_eq]; omega) k3 lab pat tm into h1 h3 h4 k (by omega)
def SmallR (x : S43) : Prop := x.f1.size ≤ 2500 ∧ x.f2.size ≤ 2500 ∧ x.f3.size ≤ 2500 ∧ x.f4.size ≤ 2500
def mayR (x : S43) : Bool := mayB x.f0 x.f1 x.f2 x.f3 x.f4
theorem mays_f (k : Nat) (hk : 100001 ≤ k) (l : List S43) (hl : ∀ x ∈ l, SmallR x) : relabel_May.f k l = some (l.all mayR) := by
  have h : ∀ x ∈ l, relabel_may.f k x.f0 x.f1 x.f2 x.f3 x.f4 = some (mayR x) := fun x hx => by
    obtain ⟨a, b, c, d⟩ := hl x hx
    exact rmay_f k x.f0 x.f1 x.f2 x.f3 x.f4 (by omega) (by omega) (by omega) (by omega) hk
  unfold relabel_May.f allF
  rw [if_pos fun x hx => by show (relabel_may.f k x.f0 x.f1 x.f2 x.f3 x.f4).isSome = true; rw [h x hx]; rfl]
  congr 1
  rw [Bool.eq_iff_iff, List.all_eq_true, List.all_eq_true]
  exact ⟨fun g x hx => by
    have h2 : (relabel_may.f k x.f0 x.f1 x.f2 x.f3 x.f4).getD false = true := g x hx
    rw [h x hx] at h2
    exact h2, fun g x hx => by
    show (relabel_may.f k x.f0 x.f1 x.f2 x.f3 x.f4).getD false = true
    rw [h x hx]
    exact g x hx⟩
theorem rd_rule (l : List S43) (i : Nat) (h : i < l.length) : rd_T43 l (i : Int) = l[i] := by simp [rd_T43, h]
theorem ones_l0 (l : List S43) (hl : ∀ x ∈ l, SmallR x) (hll : l.length ≤ 100000) : ∀ (n k i : Nat), i + n = l.length → n + 300001 ≤ k → r29_May.l0 k l (i : Int) = some ((l.drop i).all mayR)
  | 0, k, i, hi, hk => by
    obtain ⟨k, rfl⟩ : ∃ n, k = n + 1 := ⟨k - 1, by omega⟩
    rw [r29_May.l0, if_neg (by omega), List.drop_of_length_le (by omega)]
    rfl
  | n + 1, k, i, hi, hk => by
    obtain ⟨k, rfl⟩ : ∃ n, k = n + 1 := ⟨k - 1, by omega⟩
    have hlt : i < l.length := by omega
    obtain ⟨a, b, c, d⟩ := hl l[i] (List.getElem_mem hlt)
    have hw1 : wrap64 ((i : Int) + 1) = ((i + 1 : Nat) : Int) := by rw [wrap_in _ (by omega) (by omega)]; omega
    rw [r29_May.l0, if_pos (by omega), if_pos (by omega), rd_rule l i hlt, one_f k l[i].f0 l[i].f1 l[i].f2 l[i].f3 l[i].f4 (by omega) (by omega) (by omega) (by omega) (by omega), Option.bind_some, hw1, ones_l0 l hl hll n k (i + 1) (by omega) (by omega), List.drop_eq_getElem_cons hlt, List.all_cons]
    show (if mayR l[i] = true then _ else _) = _
    cases mayR l[i] <;> rfl
theorem ones_f (k : Nat) (l : List S43) (hl : ∀ x ∈ l, SmallR x) (hll : l.length ≤ 100000) (hk : l.length + 300001 ≤ k) : r29_May.f k l = some (l.all mayR) := by
  have h := ones_l0 l hl hll l.length k 0 (by omega) (by omega)
  rw [List.drop_zero] at h
  exact h
def Held (x : S43) : Prop := x.f1.size ≤ 140737488351232 ∧ x.f2.size ≤ 140737488351232 ∧ x.f3.size ≤ 140737488351232 ∧ x.f4.size ≤ 140737488351232
theorem much_l0 (l : List S43) (hl : ∀ x ∈ l, Held x) : ∀ (n i : Nat) (a : Int) (k : Nat), i + n = 13 → n < k → 0 ≤ a → a ≤ i * 562949953404928 →
    (∀ j x, l[j]? = some x → j < i → ((x.f1.size + x.f2.size + x.f3.size + x.f4.size : Nat) : Int) ≤ a) →
    ∃ b, r29_Much.l0 k l a (i : Int) = some b ∧ (b = false → l.length ≤ 12 ∧ ∀ x ∈ l, SmallR x) := by
  intro n
  induction n with
  | zero =>
    intro i a k hi hk h0 ha hj
    obtain ⟨k, rfl⟩ : ∃ n, k = n + 1 := ⟨k - 1, by omega⟩
    rw [r29_Much.l0]
    by_cases hlt : i < l.length
    · rw [if_pos (by omega), if_neg (by omega), if_pos (by omega)]
      exact ⟨_, rfl, fun h => by cases h⟩
    · rw [if_neg (by omega)]
      by_cases h12 : l.length ≤ 12
      · rw [if_neg (by omega)]
        refine ⟨_, rfl, fun h => ⟨h12, fun x hx => ?_⟩⟩
        have h2 := of_decide_eq_false h
        obtain ⟨j, hjl, rfl⟩ := List.getElem_of_mem hx
        have := hj j _ (List.getElem?_eq_getElem hjl) (by omega)
        unfold SmallR
        omega
      · rw [if_pos (by omega)]
        exact ⟨_, rfl, fun h => by cases h⟩
  | succ n ih =>
    intro i a k hi hk h0 ha hj
    obtain ⟨k, rfl⟩ : ∃ n, k = n + 1 := ⟨k - 1, by omega⟩
    rw [r29_Much.l0]
    by_cases hlt : i < l.length
    · obtain ⟨g1, g2, g3, g4⟩ := hl l[i] (List.getElem_mem hlt)
      rw [if_pos (by omega), if_pos (by omega), if_pos (by omega), rd_rule l i hlt, wrap_in (a + _) (by omega) (by omega), wrap_in (a + (l[i].f1.size : Int) + _) (by omega) (by omega), wrap_in (a + (l[i].f1.size : Int) + (l[i].f2.size : Int) + _) (by omega) (by omega), wrap_in (a + (l[i].f1.size : Int) + (l[i].f2.size : Int) + (l[i].f3.size : Int) + _) (by omega) (by omega), wrap_in ((i : Int) + 1) (by omega) (by omega)]
      refine ih (i + 1) _ k (by omega) (by omega) (by omega) (by omega) fun j x hx hji => ?_
      by_cases he : j = i
      · subst he
        rw [List.getElem?_eq_getElem hlt] at hx
        obtain rfl := Option.some.inj hx
        omega
      · have := hj j x hx (by omega)
        omega
    · rw [if_neg (by omega), if_neg (by omega)]
      refine ⟨_, rfl, fun h => ⟨by omega, fun x hx => ?_⟩⟩
      have h2 := of_decide_eq_false h
      obtain ⟨j, hjl, rfl⟩ := List.getElem_of_mem hx
      have := hj j _ (List.getElem?_eq_getElem hjl) (by omega)
      unfold SmallR
      omega
theorem much_f (k : Nat) (l : List S43) (hl : ∀ x ∈ l, Held x) (hk : 14 ≤ k) : ∃ b, r29_Much.f k l = some b ∧ (b = false → l.length ≤ 12 ∧ ∀ x ∈ l, SmallR x) :=
  much_l0 l hl 13 0 0 k (by omega) (by omega) (by omega) (by omega) fun j x _ h => absurd h (by omega)
theorem held_of {x : S43} {p : Prop} (h : p ∧ x.f1.size ≤ 140737488351232 ∧ x.f2.size ≤ 140737488351232 ∧ x.f3.size ≤ 140737488351232 ∧ x.f4.size ≤ 140737488351232) : Held x := h.2
end Go.Proofs.YtcikjeiebpmmcaaGreat.PureMch
end
section
/- Pruned. -/
namespace Go.Proofs.YtcikjeiebpmmcaaGreat.PureMch
open Go.RowKit Go.Proofs.YtcikjeiebpmmcaaGreat Go.Proofs.YtcikjeiebpmmcaaGreat.PMch Go.Proofs.YtcikjeiebpmmcaaGreatW.PrintWords
set_option linter.unusedVariables false
set_option linter.unusedSimpArgs false
def nb (l : List UInt8) : List Int := l.map fun b => (b.toNat : Int)
theorem nb_snoc (l : List UInt8) (c : UInt8) : nb l ++ [(c.toNat : Int)] = nb (l ++ [c]) := by simp [nb]
theorem nb_two (l : List UInt8) (c d : UInt8) : nb l ++ [(c.toNat : Int), (d.toNat : Int)] = nb (l ++ [c, d]) := by simp [nb]
theorem nb_length (l : List UInt8) : (nb l).length = l.length := by simp [nb]
theorem str_nb (l : List UInt8) : strOfNums (nb l) = ⟨l.toArray⟩ := by
  unfold strOfNums nb
  rw [List.map_map]
  congr 2
  conv => rhs; rw [← List.map_id l]
  apply List.map_congr_left
  intro b _
  simp
theorem byte_iff (c d : UInt8) : ((c.toNat : Int) = (d.toNat : Int)) = (c = d) := by
  apply propext
  rw [← UInt8.toNat_inj]
  omega
theorem bt_get (s : ByteArray) (i : Nat) (h : i < s.size) : bt s (i : Int) = ((s.data.toList[i]'(by simpa using h)).toNat : Int) := by
  rw [← bt_at s (i : Int) (by simpa using h)]
  rfl
theorem bytes_eta (s : ByteArray) : (⟨s.data.toList.toArray⟩ : ByteArray) = s := by cases s; simp
end Go.Proofs.YtcikjeiebpmmcaaGreat.PureMch
end
section
/- Pruned. -/
namespace Go.Proofs.YtcikjeiebpmmcaaGreat.PureMch
open Go.RowKit Go.Proofs.YtcikjeiebpmmcaaGreat Go.Proofs.YtcikjeiebpmmcaaGreat.PMch Go.Proofs.YtcikjeiebpmmcaaGreatW.PrintWords
set_option linter.unusedVariables false
set_option linter.unusedSimpArgs false
abbrev Lb := S96
def nmL (x : Lb) : ByteArray := x.f0
def vlL (x : Lb) : ByteArray := x.f1
def bl (s : ByteArray) : List UInt8 := s.data.toList
def ba (l : List UInt8) : ByteArray := ⟨l.toArray⟩
theorem bl_append (s t : ByteArray) : bl (s ++ t) = bl s ++ bl t := by simp [bl, ByteArray.data_append]
theorem bl_length (s : ByteArray) : (bl s).length = s.size := by simp [bl]
theorem ba_bl (s : ByteArray) : ba (bl s) = s := bytes_eta s
theorem bl_ba (l : List UInt8) : bl (ba l) = l := by simp [bl, ba]
theorem eq_ba {s : ByteArray} {l : List UInt8} (h : bl s = l) : s = ba l := by rw [← h, ba_bl]
theorem size_ba (l : List UInt8) : (ba l).size = l.length := by simp [ba, ByteArray.size]
def one (x : Lb) : List UInt8 := bl x.f0 ++ [61, 34] ++ (bl x.f1).flatMap escByte ++ [34]
def render : List Lb → List UInt8
  | [] => []
  | x :: r => [123] ++ Lib.join ((x :: r).map one) [44] ++ [125]
def goodL (x : Lb) : Bool := namedB x.f0 95 && decide (x.f1.size ≤ 1024)
def nameF (a0 : ByteArray) (l : List Lb) : ByteArray × Int :=
  if namedB a0 58 = true ∧ l.length ≤ 16 ∧ l.all goodL = true ∧ (l.map nmL).Nodup then (ba (bl a0 ++ render (isort nmL l)), 0) else (⟨#[]⟩, 5)
def Small (l : List Lb) : Prop := l.length ≤ 40 ∧ ∀ x ∈ l, x.f0.size ≤ 10000 ∧ x.f1.size ≤ 10000
theorem esc_len (v : List UInt8) : (v.flatMap escByte).length ≤ 2 * v.length := esc_le v
theorem one_len (x : Lb) (h : x.f0.size ≤ 10000 ∧ x.f1.size ≤ 10000) : (one x).length ≤ 30003 := by
  have h1 := esc_len (bl x.f1)
  rw [bl_length] at h1
  unfold one
  simp only [List.length_append, bl_length, List.length_cons, List.length_nil]
  omega
theorem small_perm {l ys : List Lb} (hp : ys.Perm l) (h : Small l) : Small ys := ⟨by rw [hp.length_eq]; exact h.1, fun x hx => h.2 x (hp.mem_iff.1 hx)⟩
theorem rd_get (xs : List Lb) (i : Nat) (h : i < xs.length) : rd_T96 xs (i : Int) = xs[i] := by
  simp [rd_T96, List.getD, List.getElem?_eq_getElem h]
theorem tail_len : ∀ (r : List Lb), (∀ x ∈ r, x.f0.size ≤ 10000 ∧ x.f1.size ≤ 10000) → (Lib.joinTail [44] (r.map one)).length ≤ 30004 * r.length
  | [], _ => by simp [Lib.joinTail]
  | x :: r, h => by
    have h1 := tail_len r (fun y hy => h y (by simp [hy]))
    have h2 := one_len x (h x (by simp))
    simp only [Lib.joinTail, List.map_cons, List.flatten_cons, List.length_append, List.length_cons, List.length_nil] at h1 ⊢
    omega
theorem join_len (l : List Lb) (h : Small l) : (Lib.join (l.map one) [44]).length ≤ 1300000 := by
  obtain ⟨h1, h2⟩ := h
  cases l with
  | nil => simp [Lib.join_nil]
  | cons x r =>
    rw [List.map_cons, Lib.join_cons, List.length_append]
    have h3 := tail_len r (fun y hy => h2 y (by simp [hy]))
    have h4 := one_len x (h2 x (by simp))
    simp only [List.length_cons] at h1
    have h5 : 30004 * r.length ≤ 30004 * 40 := Nat.mul_le_mul_left _ (by omega)
    omega
theorem labelName_go (a0 : ByteArray) (ha : a0.size ≤ 10000) (s : List Lb) (hs : Small s) (hne : s ≠ []) : ∀ (n k i : Nat), i + n = s.length → n < k →
    label_Name.l0 k a0 ((s.take i).map fun x => ba (one x)) s (s.length : Int) (i : Int) = some (ba (bl a0 ++ render s), 0)
  | 0, k + 1, i, h, hk => by
    obtain rfl : i = s.length := by omega
    have hmap : ((s.map fun x => ba (one x)).map fun x => x.data.toList) = s.map one := by
      rw [List.map_map]
      apply List.map_congr_left
      intro x _
      exact bl_ba (one x)
    have hj := join_len s hs
    have z1 : (⟨#[123]⟩ : ByteArray).size = 1 := rfl
    have hJ : strings_Join.f (s.map fun x => ba (one x)) (⟨#[44]⟩ : ByteArray) = some (ba (Lib.join (s.map one) [44])) := by
      unfold strings_Join.f
      rw [hmap, if_pos ⟨by simp; have := hs.1; omega, by show (Lib.join (s.map one) [44]).length ≤ _; omega⟩]
      rfl
    have hJs : (ba (Lib.join (s.map one) [44])).size ≤ 1300000 := by rw [size_ba]; exact hj
    have hsa : (a0 ++ (⟨#[123]⟩ : ByteArray)).size = a0.size + 1 := by rw [ByteArray.size_append, z1]
    rw [label_Name.l0, if_neg (by omega), List.take_of_length_le (Nat.le_refl _), if_pos (by omega), hJ, Option.bind_some, if_pos (by omega), if_pos (by rw [ByteArray.size_append]; omega)]
    congr 2
    apply eq_ba
    rw [bl_append, bl_append, bl_append, bl_ba]
    cases s with
    | nil => exact absurd rfl hne
    | cons x r =>
      show bl a0 ++ [123] ++ Lib.join ((x :: r).map one) [44] ++ [125] = bl a0 ++ ([123] ++ Lib.join ((x :: r).map one) [44] ++ [125])
      simp only [List.append_assoc]
  | n + 1, k + 1, i, h, hk => by
    have hw : wrap64 ((i : Int) + 1) = ((i + 1 : Nat) : Int) := by have := hs.1; rw [wrap_of] <;> omega
    have hi : i < s.length := by omega
    have hx := hs.2 s[i] (List.getElem_mem hi)
    have hE : label_Escape.f (s[i]).f1 = some (ba ((bl (s[i]).f1).flatMap escByte)) := if_pos (by omega)
    have hEs : (ba ((bl (s[i]).f1).flatMap escByte)).size ≤ 20000 := by
      rw [size_ba]
      have := esc_len (bl (s[i]).f1)
      rw [bl_length] at this
      omega
    have z2 : (⟨#[61, 34]⟩ : ByteArray).size = 2 := rfl
    have hp : ∀ (x : Lb), (((x.f0 ++ (⟨#[61, 34]⟩ : ByteArray)) ++ ba ((bl x.f1).flatMap escByte)) ++ (⟨#[34]⟩ : ByteArray)) = ba (one x) := fun x => by
      apply eq_ba
      rw [bl_append, bl_append, bl_append, bl_ba]
      rfl
    rw [label_Name.l0, if_pos (by omega), if_pos (by omega), if_pos (by omega), rd_get s i hi, if_pos (by omega), hE, Option.bind_some, if_pos (by rw [ByteArray.size_append, z2]; omega), if_pos (by rw [ByteArray.size_append, ByteArray.size_append, z2]; omega), if_pos (by simp; have := hs.1; omega), hw, hp]
    have ht : ((s.take i).map fun x => ba (one x)) ++ [ba (one s[i])] = (s.take (i + 1)).map fun x => ba (one x) := by
      rw [List.take_succ_eq_append_getElem hi, List.map_append]
      rfl
    rw [ht]
    exact labelName_go a0 ha s hs hne n k (i + 1) (by omega) (by omega)
theorem bad_good (l : List Lb) : l.any (badL nmL vlL fun s => namedB s 95) = !(l.all goodL) := by
  induction l with
  | nil => rfl
  | cons x r ih =>
    rw [List.any_cons, List.all_cons, ih]
    have : badL nmL vlL (fun s => namedB s 95) x = !goodL x := by
      unfold badL goodL nmL vlL
      cases h0 : namedB x.f0 95
      · simp [h0]
      · by_cases h : x.f1.size ≤ 1024
        · have h' : ¬ 1024 < x.f1.size := by omega
          simp [h0, h, h']
        · have h' : 1024 < x.f1.size := by omega
          simp [h0, h, h']
    rw [this]
    cases goodL x <;> simp
theorem twins_nodup (l : List Lb) : (twins nmL (isort nmL l) = false) ↔ (l.map nmL).Nodup := by
  rw [twins_iff nmL _ (isort_rising nmL l)]
  exact ((isort_perm nmL l).map nmL).nodup_iff
theorem labelName_f (a0 : ByteArray) (ha : a0.size ≤ 10000) (l : List Lb) (hl : Small l) (k : Nat) (hk : 100 ≤ k) : label_Name.f k a0 l = some (nameF a0 l) := by
  have hS : label_series.f a0 l = some (seriesF nmL vlL (fun s => namedB s 95) (fun s => namedB s 58) a0 l) :=
    if_pos ⟨by omega, by have := hl.1; omega, fun x hx => by have := (hl.2 x hx).1; omega⟩
  have hI : ∀ c : Int, c ≠ 5 → errors_Is.f (some c) (some 5) = some true := fun c hc => if_pos ⟨rfl, fun e => hc (Option.some.inj e)⟩
  have hI0 : errors_Is.f none (some 5) = some false := if_pos ⟨rfl, by simp⟩
  unfold label_Name.f
  rw [hS, Option.bind_some]
  unfold seriesF nameF
  by_cases h1 : namedB a0 58 = true
  · rw [if_neg (by simp [h1])]
    by_cases h2 : 16 < l.length ∨ l.any (badL nmL vlL fun s => namedB s 95) = true
    · rw [if_pos h2, hI 102 (by decide), Option.bind_some, if_pos rfl, if_neg]
      rintro ⟨_, h3, h4, _⟩
      rcases h2 with h2 | h2
      · omega
      · rw [bad_good, h4] at h2; cases h2
    · rw [if_neg h2]
      by_cases h3 : twins nmL (isort nmL l) = true
      · rw [if_pos h3, hI 103 (by decide), Option.bind_some, if_pos rfl, if_neg]
        rintro ⟨_, _, _, h4⟩
        rw [(twins_nodup l).2 h4] at h3
        cases h3
      · have h3' : twins nmL (isort nmL l) = false := by simpa using h3
        have hlen : (isort nmL l).length = l.length := (isort_perm nmL l).length_eq
        rw [if_neg h3, hI0, Option.bind_some, if_neg (by simp), if_pos (c := _ ∧ _) ⟨h1, by omega, by
          have : ¬ l.any (badL nmL vlL fun s => namedB s 95) = true := fun h => h2 (Or.inr h)
          rw [bad_good] at this
          simpa using this, (twins_nodup l).1 h3'⟩]
        by_cases h0 : ((isort nmL l).length : Int) = 0
        · have : isort nmL l = [] := List.eq_nil_of_length_eq_zero (by omega)
          rw [if_pos h0, this]
          simp only [render, List.append_nil, ba_bl]
        · have hne : isort nmL l ≠ [] := fun e => h0 (by rw [e]; rfl)
          have := hl.1
          rw [if_neg h0]
          exact labelName_go a0 ha (isort nmL l) (small_perm (isort_perm nmL l) hl) hne (isort nmL l).length k 0 (by omega) (by omega)
  · rw [if_pos (by simpa using h1), hI 101 (by decide), Option.bind_some, if_pos rfl, if_neg (fun h => h1 h.1)]
theorem nameF_perm (a0 : ByteArray) {l l' : List Lb} (hp : l'.Perm l) : nameF a0 l' = nameF a0 l := by
  unfold nameF
  have h1 : l'.length = l.length := hp.length_eq
  have h2 : l'.all goodL = l.all goodL := by
    rw [Bool.eq_iff_iff, List.all_eq_true, List.all_eq_true]
    exact ⟨fun h x hx => h x (hp.mem_iff.2 hx), fun h x hx => h x (hp.mem_iff.1 hx)⟩
  have h3 : (l'.map nmL).Nodup ↔ (l.map nmL).Nodup := (hp.map nmL).nodup_iff
  by_cases h : namedB a0 58 = true ∧ l.length ≤ 16 ∧ l.all goodL = true ∧ (l.map nmL).Nodup
  · have h' : namedB a0 58 = true ∧ l'.length ≤ 16 ∧ l'.all goodL = true ∧ (l'.map nmL).Nodup := ⟨h.1, by omega, by rw [h2]; exact h.2.2.1, h3.2 h.2.2.2⟩
    rw [if_pos h, if_pos h', sorted_unique nmL ((isort_perm nmL l').trans hp) (isort_rising nmL l') ((twins_nodup l').2 h'.2.2.2)]
  · rw [if_neg h, if_neg]
    rintro ⟨a, b, c, d⟩
    exact h ⟨a, by omega, by rw [← h2]; exact c, h3.1 d⟩
end Go.Proofs.YtcikjeiebpmmcaaGreat.PureMch
end
section
/- Pruned. -/
namespace Go.Proofs.YtcikjeiebpmmcaaGreat.PureMch
open Go.RowKit Go.Proofs.YtcikjeiebpmmcaaGreat Go.Proofs.YtcikjeiebpmmcaaGreat.PMch Go.Proofs.YtcikjeiebpmmcaaGreatW.PrintWords
set_option linter.unusedVariables false
set_option linter.unusedSimpArgs false
def unesc : List UInt8 → Option (List UInt8)
  | [] => some []
  | c :: r => if c = 34 ∨ c = 10 then none else if c = 92 then
      match r with
      | [] => none
      | d :: r' => if d = 110 then (unesc r').map (10 :: ·) else if d = 92 ∨ d = 34 then (unesc r').map (d :: ·) else none
    else (unesc r).map (c :: ·)
def unescR (bs l : List UInt8) : ByteArray × Bool := match unesc l with
  | some m => (⟨(bs ++ m).toArray⟩, true)
  | none => (⟨#[]⟩, false)
theorem unescR_nil (bs : List UInt8) : unescR bs [] = (⟨bs.toArray⟩, true) := by simp [unescR, unesc]
theorem unescR_bad (bs r : List UInt8) (c : UInt8) (h : c = 34 ∨ c = 10) : unescR bs (c :: r) = (⟨#[]⟩, false) := by
  rw [unescR, unesc.eq_def]
  simp only [if_pos h]
theorem unescR_one (bs r : List UInt8) (c : UInt8) (h : ¬ (c = 34 ∨ c = 10)) (h2 : ¬ c = 92) : unescR bs (c :: r) = unescR (bs ++ [c]) r := by
  rw [unescR, unesc.eq_def]
  simp only [if_neg h, if_neg h2]
  unfold unescR
  cases unesc r <;> simp
theorem unescR_end (bs : List UInt8) : unescR bs [92] = (⟨#[]⟩, false) := by simp [unescR, unesc]
theorem unescR_n (bs r : List UInt8) : unescR bs (92 :: 110 :: r) = unescR (bs ++ [10]) r := by
  unfold unescR
  rw [unesc]
  simp
  cases unesc r <;> simp
theorem unescR_two (bs r : List UInt8) (d : UInt8) (h1 : ¬ d = 110) (h2 : d = 92 ∨ d = 34) : unescR bs (92 :: d :: r) = unescR (bs ++ [d]) r := by
  unfold unescR
  rw [unesc]
  simp [h1, h2]
  cases unesc r <;> simp
theorem unescR_not (bs r : List UInt8) (d : UInt8) (h1 : ¬ d = 110) (h2 : ¬ (d = 92 ∨ d = 34)) : unescR bs (92 :: d :: r) = (⟨#[]⟩, false) := by
  unfold unescR
  rw [unesc]
  simp [h1]
  rw [if_neg h2]
theorem unescape_go (s : ByteArray) (hs : s.size ≤ 1099511627776) : ∀ (n k i : Nat) (bs : List UInt8), i + n = s.size → 2 * n < k → bs.length ≤ i →
    label_Unescape.l0 k s (nb bs) (i : Int) = some (unescR bs (s.data.toList.drop i)) := by
  intro n
  induction n using Nat.strongRecOn with
  | _ n ih =>
    intro k i bs h hk hb
    obtain ⟨k, rfl⟩ : ∃ j, k = j + 1 := ⟨k - 1, by omega⟩
    have hsz : s.data.toList.length = s.size := by simp
    rcases Nat.eq_zero_or_pos n with h0 | h0
    · obtain rfl : i = s.size := by omega
      rw [label_Unescape.l0, if_neg (by omega), List.drop_of_length_le (by omega), unescR_nil, str_nb]
    · obtain ⟨k, rfl⟩ : ∃ j, k = j + 1 := ⟨k - 1, by omega⟩
      have hi : i < s.size := by omega
      have hw : wrap64 ((i : Int) + 1) = ((i + 1 : Nat) : Int) := by rw [wrap_of] <;> omega
      have hw2 : wrap64 (((i + 1 : Nat) : Int) + 1) = ((i + 2 : Nat) : Int) := by rw [wrap_of] <;> omega
      have hlen : (nb bs).length < 140737488355328 := by rw [nb_length]; omega
      rw [label_Unescape.l0, if_pos (by omega), if_pos (by omega), List.drop_eq_getElem_cons (by omega), bt_get s i hi]
      generalize s.data.toList[i]'(by omega) = c
      have e34 : ((c.toNat : Int) = 34) = (c = 34) := byte_iff c 34
      have e10 : ((c.toNat : Int) = 10) = (c = 10) := byte_iff c 10
      have e92 : ((c.toNat : Int) = 92) = (c = 92) := byte_iff c 92
      have q10 : ((c.toNat : Int) == 10) = decide (c = 10) := by rw [← decide_eq_decide.2 (iff_of_eq e10)]; rfl
      simp only [e34, q10]
      by_cases h34 : c = 34
      · rw [if_pos h34, label_Unescape.j1, if_pos rfl, unescR_bad _ _ _ (Or.inl h34)]
      · rw [if_neg h34, label_Unescape.j1]
        by_cases h10 : c = 10
        · rw [if_pos (by simpa using h10), unescR_bad _ _ _ (Or.inr h10)]
        · rw [if_neg (by simpa using h10), hw, hw2]
          have hno : ¬ (c = 34 ∨ c = 10) := by simp [h34, h10]
          simp only [e92]
          by_cases h92 : c = 92
          · rw [if_pos h92]
            subst h92
            by_cases hend : i + 1 = s.size
            · rw [if_pos (by omega), List.drop_of_length_le (by omega), unescR_end]
            · rw [if_neg (by omega), if_pos (by omega), if_pos (by omega), List.drop_eq_getElem_cons (by omega), bt_get s (i + 1) (by omega)]
              generalize s.data.toList[i + 1]'(by omega) = d
              have f110 : ((d.toNat : Int) = 110) = (d = 110) := byte_iff d 110
              have f92 : ((d.toNat : Int) = 92) = (d = 92) := byte_iff d 92
              have f34 : ((d.toNat : Int) = 34) = (d = 34) := byte_iff d 34
              simp only [f110, f92, f34]
              by_cases d110 : d = 110
              · subst d110
                rw [if_pos rfl, if_pos hlen, unescR_n]
                have := ih (n - 2) (by omega) k (i + 2) (bs ++ [10]) (by omega) (by omega) (by simp; omega)
                rw [← nb_snoc] at this
                exact this
              · rw [if_neg d110]
                by_cases d92 : d = 92
                · rw [if_pos d92, if_pos hlen, unescR_two _ _ _ d110 (Or.inl d92), nb_snoc]
                  exact ih (n - 2) (by omega) k (i + 2) _ (by omega) (by omega) (by simp; omega)
                · rw [if_neg d92]
                  by_cases d34 : d = 34
                  · rw [if_pos d34, if_pos hlen, unescR_two _ _ _ d110 (Or.inr d34), nb_snoc]
                    exact ih (n - 2) (by omega) k (i + 2) _ (by omega) (by omega) (by simp; omega)
                  · rw [if_neg d34, unescR_not _ _ _ d110 (by simp [d92, d34])]
          · rw [if_neg h92, if_pos hlen, unescR_one _ _ _ hno h92, nb_snoc]
            exact ih (n - 1) (by omega) k (i + 1) _ (by omega) (by omega) (by simp; omega)
theorem unesc_esc : ∀ l : List UInt8, unesc (l.flatMap escByte) = some l
  | [] => rfl
  | c :: r => by
    rw [List.flatMap_cons]
    have ih := unesc_esc r
    by_cases h92 : c = 92
    · subst h92
      show unesc (92 :: 92 :: _) = _
      rw [unesc]
      simp [ih]
    · by_cases h34 : c = 34
      · subst h34
        show unesc (92 :: 34 :: _) = _
        rw [unesc]
        simp [ih]
      · by_cases h10 : c = 10
        · subst h10
          show unesc (92 :: 110 :: _) = _
          rw [unesc]
          simp [ih]
        · have e : escByte c = [c] := by simp [escByte, h92, h34, h10]
          rw [e]
          show unesc (c :: _) = _
          rw [unesc.eq_def]
          simp [h92, h34, h10, ih]
theorem esc_unesc (l : List UInt8) : ∀ m, unesc l = some m → m.flatMap escByte = l := by
  fun_induction unesc l with
  | case1 => intro m h; cases h; rfl
  | case2 => intro m h; cases h
  | case3 => intro m h; cases h
  | case4 =>
    rename_i ih
    intro m h
    obtain ⟨m', h', rfl⟩ := Option.map_eq_some_iff.1 h
    rw [List.flatMap_cons, ih m' h']
    simp_all [escByte]
  | case5 =>
    rename_i ih
    intro m h
    obtain ⟨m', h', rfl⟩ := Option.map_eq_some_iff.1 h
    rw [List.flatMap_cons, ih m' h']
    simp_all [escByte]
  | case6 => intro m h; cases h
  | case7 =>
    rename_i ih
    intro m h
    obtain ⟨m', h', rfl⟩ := Option.map_eq_some_iff.1 h
    rw [List.flatMap_cons, ih m' h']
    simp_all [escByte]
theorem unescape_f (k : Nat) (s : ByteArray) (hs : s.size ≤ 1099511627776) (hk : 2 * s.size + 1 ≤ k) : label_Unescape.f k s = some (unescR [] s.data.toList) :=
  unescape_go s hs s.size k 0 [] (by omega) (by omega) (by simp)
theorem unesc_le : ∀ (l m : List UInt8), unesc l = some m → m.length ≤ l.length := by
  intro l m h
  have h1 := esc_unesc l m h
  have h2 : m.length ≤ (m.flatMap escByte).length := by
    clear h h1
    induction m with
    | nil => simp
    | cons c r ih =>
      rw [List.flatMap_cons, List.length_append, List.length_cons]
      have : 1 ≤ (escByte c).length := by unfold escByte; split <;> (try split) <;> simp
      omega
  rw [h1] at h2
  exact h2
end Go.Proofs.YtcikjeiebpmmcaaGreat.PureMch
end
section
/- Pruned. -/
namespace Go.Proofs.YtcikjeiebpmmcaaGreat.PureMch
open Go.RowKit Go.Proofs.YtcikjeiebpmmcaaGreat Go.Proofs.YtcikjeiebpmmcaaGreat.PMch Go.Proofs.YtcikjeiebpmmcaaGreatW.PrintWords
set_option linter.unusedVariables false
set_option linter.unusedSimpArgs false
theorem index_at (c : UInt8) (t : List UInt8) : ∀ (p r : List UInt8), c ∉ p → Lib.index (p ++ (c :: t) ++ r) (c :: t) = (p.length : Int)
  | [], r, _ => by
    have h : (c :: t).isPrefixOf (([] : List UInt8) ++ (c :: t) ++ r) = true := by
      rw [List.isPrefixOf_iff_prefix]
      exact List.prefix_append _ _
    rw [List.nil_append] at *
    show Lib.index (c :: (t ++ r)) (c :: t) = 0
    unfold Lib.index
    rw [if_pos (show (c :: t).isPrefixOf (c :: (t ++ r)) = true from h)]
  | b :: p, r, h => by
    have hb : (c == b) = false := by
      rw [beq_eq_false_iff_ne]
      exact fun e => h (by simp [e])
    have ih := index_at c t p r (fun hm => h (by simp [hm]))
    show Lib.index (b :: (p ++ (c :: t) ++ r)) (c :: t) = _
    unfold Lib.index
    rw [if_neg (by simp [List.isPrefixOf, hb]), ih]
    have : ((p.length : Int) == -1) = false := by rw [beq_eq_false_iff_ne]; omega
    rw [this]
    simp
theorem index_not (c : UInt8) (t : List UInt8) : ∀ (p : List UInt8), c ∉ p → Lib.index p (c :: t) = -1
  | [], _ => rfl
  | b :: p, h => by
    have hb : (c == b) = false := by
      rw [beq_eq_false_iff_ne]
      exact fun e => h (by simp [e])
    have ih := index_not c t p (fun hm => h (by simp [hm]))
    unfold Lib.index
    rw [if_neg (by simp [List.isPrefixOf, hb]), ih]
    rfl
theorem cut_at (c : UInt8) (t p r : List UInt8) (h : c ∉ p) : Lib.cut (p ++ (c :: t) ++ r) (c :: t) = (p, r, true) := by
  unfold Lib.cut
  rw [index_at c t p r h, if_pos (by omega)]
  simp only [Int.toNat_natCast]
  have e1 : (p ++ (c :: t) ++ r).take p.length = p := by rw [List.append_assoc, List.take_left]
  have e2 : (p ++ (c :: t) ++ r).drop (p.length + (c :: t).length) = r := by rw [show p.length + (c :: t).length = (p ++ (c :: t)).length by simp, List.drop_left]
  rw [e1, e2]
theorem cut_not (c : UInt8) (t p : List UInt8) (h : c ∉ p) : Lib.cut p (c :: t) = (p, [], false) := by
  unfold Lib.cut
  rw [index_not c t p h, if_neg (by omega)]
theorem cut_f (s sep p r : List UInt8) (b : Bool) (hs : s.length ≤ 4000000) (h : Lib.cut s sep = (p, r, b)) (S Sep : ByteArray) (hS : S = ba s) (hSep : Sep = ba sep) : strings_Cut.f S Sep = some (ba p, ba r, b) := by
  subst hS hSep
  unfold strings_Cut.f
  rw [if_pos (by rw [size_ba]; omega), show (ba s).data.toList = s from bl_ba s, show (ba sep).data.toList = sep from bl_ba sep, h]
  rfl
theorem okFrom_at (s : ByteArray) (more : Int) : ∀ (n i : Nat), okFrom s more n i = true → ∀ t, i ≤ t → t < i + n → okByte more (bt s (t : Int)) (t == 0) = true
  | 0, i, _, t, h1, h2 => by omega
  | n + 1, i, h, t, h1, h2 => by
    rw [okFrom, Bool.and_eq_true] at h
    rcases Nat.eq_or_lt_of_le h1 with rfl | h3
    · exact h.1
    · exact okFrom_at s more n (i + 1) h.2 t (by omega) (by omega)
theorem named_bytes (s : ByteArray) (more : Int) (h : namedB s more = true) (c : UInt8) (hc : c ∈ bl s) : ∃ z, okByte more (c.toNat : Int) z = true := by
  unfold namedB at h
  rw [Bool.and_eq_true] at h
  obtain ⟨t, ht, rfl⟩ := List.getElem_of_mem hc
  have hts : t < s.size := by rwa [bl_length] at ht
  have := okFrom_at s more s.size 0 h.1 t (Nat.zero_le _) (by omega)
  rw [bt_get s t hts] at this
  exact ⟨_, this⟩
theorem named_size (s : ByteArray) (more : Int) (h : namedB s more = true) : 1 ≤ s.size ∧ s.size ≤ 200 := by
  unfold namedB at h
  simp only [Bool.and_eq_true, decide_eq_true_eq] at h
  exact h.2
theorem metric_no (s : ByteArray) (h : namedB s 58 = true) : (123 : UInt8) ∉ bl s := by
  intro hm
  obtain ⟨z, hz⟩ := named_bytes s 58 h 123 hm
  cases z <;> revert hz <;> decide
theorem word_no (s : ByteArray) (h : namedB s 95 = true) : (61 : UInt8) ∉ bl s := by
  intro hm
  obtain ⟨z, hz⟩ := named_bytes s 95 h 61 hm
  cases z <;> revert hz <;> decide
theorem wrap_one (n : Nat) (h : n ≤ 4000000) : wrap64 ((n : Int) + 1) = ((n + 1 : Nat) : Int) := by rw [wrap_of] <;> omega
theorem wrap_two (n : Nat) (h : n ≤ 4000000) : wrap64 (((n + 1 : Nat) : Int) + 1) = ((n + 2 : Nat) : Int) := by rw [wrap_of] <;> omega
theorem bt_ba (l : List UInt8) (i : Nat) (h : i < l.length) : bt (ba l) (i : Int) = ((l[i]).toNat : Int) := by
  rw [bt_get (ba l) i (by rw [size_ba]; exact h)]
  simp [ba]
theorem extract_ba (l : List UInt8) (i j : Nat) : (ba l).extract i j = ba ((l.take j).drop i) := by
  apply eq_ba
  simp [bl, ba, ByteArray.data_extract, List.extract_eq_take_drop, List.take_drop]
  by_cases h : i ≤ j
  · rw [show i + (j - i) = j by omega]
  · rw [List.drop_of_length_le (by rw [List.length_take]; omega), List.drop_of_length_le (by rw [List.length_take]; omega)]
theorem esc_cons (c : UInt8) (v : List UInt8) : (c :: v).flatMap escByte = escByte c ++ v.flatMap escByte := List.flatMap_cons
theorem value_go (v r : List UInt8) (hv : (v.flatMap escByte).length ≤ 20000) (hr : r.length ≤ 2000000) : ∀ (w d : List UInt8) (k : Nat), v = d ++ w → w.length + 50000 ≤ k →
    label_value.l0 k (ba (v.flatMap escByte ++ [34] ++ r)) (((d.flatMap escByte).length : Nat) : Int) = some (ba v, ba r, true) := by
  intro w
  induction w with
  | nil =>
    intro d k hd hk
    obtain ⟨k, rfl⟩ : ∃ j, k = j + 1 := ⟨k - 1, by omega⟩
    rw [List.append_nil] at hd
    subst hd
    generalize hE : v.flatMap escByte = E at *
    have hsz : (ba (E ++ [34] ++ r)).size = E.length + 1 + r.length := by rw [size_ba]; simp; omega
    have hb : bt (ba (E ++ [34] ++ r)) ((E.length : Nat) : Int) = 34 := by
      have hl : E.length < (E ++ [34] ++ r).length := by simp only [List.length_append, List.length_cons, List.length_nil]; omega
      rw [bt_ba _ _ hl]
      have : (E ++ [34] ++ r)[E.length]'hl = 34 := by simp
      rw [this]
      rfl
    have hw : wrap64 ((E.length : Int) + 1) = ((E.length + 1 : Nat) : Int) := by rw [wrap_of] <;> omega
    have hx : (ba (E ++ [34] ++ r)).extract 0 (E.length : Int).toNat = ba E := by
      rw [extract_ba]
      congr 1
      simp
    have hy : (ba (E ++ [34] ++ r)).extract ((E.length + 1 : Nat) : Int).toNat (ba (E ++ [34] ++ r)).size = ba r := by
      rw [extract_ba, size_ba]
      congr 1
      rw [List.take_of_length_le (Nat.le_refl _), Int.toNat_natCast, show E.length + 1 = (E ++ [34]).length by simp, List.drop_left]
    have hU : label_Unescape.f k (ba E) = some (ba v, true) := by
      rw [unescape_f k (ba E) (by rw [size_ba]; omega) (by rw [size_ba]; omega), show (ba E).data.toList = E from bl_ba E, ← hE]
      simp [unescR, unesc_esc, ba]
    rw [label_value.l0, if_pos (by omega), if_pos (by omega), hb, if_neg (by decide), if_pos rfl, if_pos (by omega), hx, hU, Option.bind_some, hw, if_pos (by omega), if_pos (by omega), hy]
  | cons c w ih =>
    intro d k hd hk
    obtain ⟨k, rfl⟩ : ∃ j, k = j + 1 := ⟨k - 1, by omega⟩
    simp only [List.length_cons] at hk
    have hd2 : v = (d ++ [c]) ++ w := by rw [hd]; simp
    have ih' := ih (d ++ [c]) k hd2 (by omega)
    have hsplit : v.flatMap escByte ++ [34] ++ r = d.flatMap escByte ++ (escByte c ++ (w.flatMap escByte ++ [34] ++ r)) := by
      rw [hd, List.flatMap_append, esc_cons]
      simp
    have hlen : (v.flatMap escByte).length = (d.flatMap escByte).length + ((escByte c).length + (w.flatMap escByte).length) := by
      rw [hd, List.flatMap_append, esc_cons, List.length_append, List.length_append]
    have hd3 : ((d ++ [c]).flatMap escByte).length = (d.flatMap escByte).length + (escByte c).length := by
      rw [List.flatMap_append, List.length_append]
      simp
    rw [hd3] at ih'
    have hsz : (ba (v.flatMap escByte ++ [34] ++ r)).size = (v.flatMap escByte).length + 1 + r.length := by rw [size_ba]; simp; omega
    clear ih
    generalize hD : d.flatMap escByte = D at *
    generalize hV : v.flatMap escByte = V at *
    generalize hWf : w.flatMap escByte = Wf at *
    clear hD hV hWf hd hd2 hd3
    have hone : 1 ≤ (escByte c).length := by unfold escByte; split <;> (try split) <;> simp
    have hcases : (escByte c = [92, c] ∧ (c = 92 ∨ c = 34)) ∨ (escByte c = [92, 110] ∧ c = 10) ∨ (escByte c = [c] ∧ ¬ (c = 92 ∨ c = 34) ∧ ¬ c = 10) := by
      unfold escByte
      by_cases h1 : c = 92 ∨ c = 34
      · exact Or.inl ⟨by rw [if_pos h1], h1⟩
      · by_cases h2 : c = 10
        · exact Or.inr (Or.inl ⟨by rw [if_neg h1, if_pos h2], h2⟩)
        · exact Or.inr (Or.inr ⟨by rw [if_neg h1, if_neg h2], h1, h2⟩)
    generalize escByte c = Ec at *
    have hDl : D.length ≤ 20000 := by omega
    have f1 : ((D.length : Nat) : Int) < ((ba (V ++ [34] ++ r)).size : Int) := by rw [hsz]; omega
    have f2 : (0 : Int) ≤ ((D.length : Nat) : Int) := Int.natCast_nonneg _
    have hDl2 : D.length ≤ 4000000 := by omega
    have hw := wrap_one D.length hDl2
    have hw2 := wrap_two D.length hDl2
    have f3 : D.length < (V ++ [34] ++ r).length := by rw [hsplit, List.length_append, List.length_append]; omega
    have hb : bt (ba (V ++ [34] ++ r)) ((D.length : Nat) : Int) = (((Ec)[0]'hone).toNat : Int) := by
      rw [bt_ba _ _ f3]
      have : (V ++ [34] ++ r)[D.length]'f3 = (Ec)[0]'hone := by
        simp only [hsplit]
        rw [List.getElem_append_right (Nat.le_refl _)]
        simp only [Nat.sub_self]
        rw [List.getElem_append_left hone]
      rw [this]
    rw [label_value.l0, if_pos f1, if_pos f2, hb, hw, hw2]
    have h92 : (((92 : UInt8).toNat : Nat) : Int) = 92 := rfl
    rcases hcases with ⟨e, _⟩ | ⟨e, _⟩ | ⟨e, h1, h2⟩
    · subst e
      rw [show ([92, c] : List UInt8)[0]'hone = 92 from rfl, if_pos h92]
      exact ih'
    · subst e
      rw [show ([92, 110] : List UInt8)[0]'hone = 92 from rfl, if_pos h92]
      exact ih'
    · subst e
      have n92 : ¬ ((c.toNat : Int) = 92) := fun h => h1 (Or.inl (by rw [← byte_iff c 92]; exact h))
      have n34 : ¬ ((c.toNat : Int) = 34) := fun h => h1 (Or.inr (by rw [← byte_iff c 34]; exact h))
      rw [show ([c] : List UInt8)[0]'hone = c from rfl, if_neg n92, if_neg n34]
      exact ih'
theorem value_f (v r : List UInt8) (hv : v.length ≤ 10000) (hr : r.length ≤ 2000000) (k : Nat) (hk : 60000 ≤ k) : label_value.f k (ba (v.flatMap escByte ++ [34] ++ r)) = some (ba v, ba r, true) := by
  have h1 := esc_len v
  exact value_go v r (by omega) hr v [] k rfl (by omega)
def ltext : List Lb → List UInt8
  | [] => []
  | [x] => one x ++ [125]
  | x :: y :: r => one x ++ [44] ++ ltext (y :: r)
theorem ltext_join : ∀ (x : Lb) (r : List Lb), ltext (x :: r) = Lib.join ((x :: r).map one) [44] ++ [125]
  | x, [] => by rw [ltext, List.map_cons, List.map_nil, Lib.join_one]
  | x, y :: r => by
    rw [ltext, ltext_join y r, List.map_cons, List.map_cons, Lib.join_cons, Lib.join_cons]
    simp [Lib.joinTail]
theorem ltext_len : ∀ (l : List Lb), (∀ x ∈ l, x.f0.size ≤ 10000 ∧ x.f1.size ≤ 10000) → (ltext l).length ≤ 30004 * l.length
  | [], _ => by simp [ltext]
  | [x], h => by
    have := one_len x (h x (by simp))
    simp only [ltext, List.length_append, List.length_cons, List.length_nil]
    omega
  | x :: y :: r, h => by
    have h1 := one_len x (h x (by simp))
    have h2 := ltext_len (y :: r) (fun z hz => h z (by simp at hz ⊢; exact Or.inr hz))
    simp only [ltext, List.length_append, List.length_cons, List.length_nil] at h2 ⊢
    omega
theorem labels_go : ∀ (l acc : List Lb) (k : Nat), l ≠ [] → Small (acc ++ l) → (acc ++ l).length ≤ 16 → (∀ x ∈ l, namedB x.f0 95 = true) → 2 * l.length + 70000 ≤ k →
    label_labels.l0 k (ba (ltext l)) acc = some (acc ++ l, true)
  | [], _, _, h, _, _, _, _ => absurd rfl h
  | x :: r, acc, k, _, hs, hl, hn, hk => by
    obtain ⟨k, rfl⟩ : ∃ j, k = j + 2 := ⟨k - 2, by omega⟩
    have hx := hs.2 x (by simp)
    have hxn := word_no x.f0 (hn x (by simp))
    simp only [List.length_append, List.length_cons] at hl
    have hbx : (bl x.f1).length ≤ 10000 := by rw [bl_length]; exact hx.2
    have eta : (⟨ba (bl x.f0), ba (bl x.f1)⟩ : Lb) = x := by rw [ba_bl, ba_bl]
    -- the text: a name, the two bytes, a value between quotes, and what stands behind
    have step : ∀ tail : List UInt8, tail.length ≤ 2000000 → ltext (x :: r) = one x ++ tail →
        label_labels.l0 (k + 2) (ba (ltext (x :: r))) acc = label_labels.j1 (k + 1) acc (ba (bl x.f0)) (ba (bl x.f1)) (ba tail) false := by
      intro tail ht he
      have htext : ltext (x :: r) = bl x.f0 ++ (61 :: [34]) ++ ((bl x.f1).flatMap escByte ++ [34] ++ tail) := by
        rw [he]
        simp [one]
      have hlen : (ltext (x :: r)).length ≤ 4000000 := by
        have := one_len x hx
        rw [he, List.length_append]
        omega
      have hcut := cut_f (ltext (x :: r)) (61 :: [34]) (bl x.f0) ((bl x.f1).flatMap escByte ++ [34] ++ tail) true hlen (by rw [htext]; exact cut_at 61 [34] (bl x.f0) _ hxn) (ba (ltext (x :: r))) (⟨#[61, 34]⟩ : ByteArray) rfl rfl
      rw [label_labels.l0, hcut, Option.bind_some, value_f (bl x.f1) tail hbx ht (k + 1) (by omega), Option.bind_some, if_pos rfl, if_pos rfl]
      rw [show decide ((acc.length : Int) > 16) = false by simp; omega]
    cases r with
    | nil =>
      rw [step [125] (by simp) (by rw [ltext]), label_labels.j1, if_neg (by simp), if_pos (by omega), Option.bind_some, if_pos, eta]
      rw [ByteArray.toList_eq]
      rfl
    | cons y r =>
      have htl := ltext_len (y :: r) (fun z hz => hs.2 z (by simp at hz ⊢; exact Or.inr (Or.inr hz)))
      simp only [List.length_cons] at hl htl hk
      have htl2 : (ltext (y :: r)).length ≤ 1900000 := by
        have : 30004 * (r.length + 1) ≤ 30004 * 16 := Nat.mul_le_mul_left _ (by omega)
        omega
      have hP : strings_HasPrefix.f (ba ([44] ++ ltext (y :: r))) (⟨#[44]⟩ : ByteArray) = some true := by
        have hz : ((⟨#[44]⟩ : ByteArray).size : Int) = 1 := rfl
        have hz2 : ((ba ([44] ++ ltext (y :: r))).size : Int) = 1 + (ltext (y :: r)).length := by rw [size_ba]; simp; omega
        unfold strings_HasPrefix.f stringslite_HasPrefix.f
        rw [hz, hz2, if_pos (by omega), if_pos (by omega), if_pos (by omega), Option.bind_some, extract_ba, ByteArray.toList_eq, ByteArray.toList_eq]
        congr 1
      have hE : (ba ([44] ++ ltext (y :: r))).extract 1 (ba ([44] ++ ltext (y :: r))).size = ba (ltext (y :: r)) := by
        rw [extract_ba, size_ba, List.take_of_length_le (Nat.le_refl _)]
        rfl
      have hne : ¬ (ba ([44] ++ ltext (y :: r))).toList = ([125] : List UInt8) := by
        rw [ByteArray.toList_eq]
        intro h
        have := congrArg List.head? h
        simp [ba] at this
      rw [step ([44] ++ ltext (y :: r)) (by simp; omega) (by rw [ltext, List.append_assoc]), label_labels.j1, if_neg (by simp), if_pos (by omega), Option.bind_some, if_neg hne, hP, Option.bind_some, if_pos rfl, if_pos (by rw [size_ba]; simp; omega), hE, eta]
      have := labels_go (y :: r) (acc ++ [x]) k (by simp) (by simpa using hs) (by simp; omega) (fun z hz => hn z (by simp at hz ⊢; exact Or.inr hz)) (by simp; omega)
      rw [List.append_assoc] at this
      exact this
def Right (a0 : ByteArray) (l : List Lb) : Prop := namedB a0 58 = true ∧ l.length ≤ 16 ∧ l.all goodL = true ∧ (l.map nmL).Nodup
theorem right_perm {a0 : ByteArray} {l l' : List Lb} (hp : l'.Perm l) (h : Right a0 l) : Right a0 l' :=
  ⟨h.1, by have := hp.length_eq; have := h.2.1; omega, by
    rw [List.all_eq_true]
    exact fun x hx => List.all_eq_true.1 h.2.2.1 x (hp.mem_iff.1 hx), (hp.map nmL).nodup_iff.2 h.2.2.2⟩
theorem nameF_right {a0 : ByteArray} {l : List Lb} (h : Right a0 l) : nameF a0 l = (ba (bl a0 ++ render (isort nmL l)), 0) := if_pos h
theorem nameF_not {a0 : ByteArray} {l : List Lb} (h : ¬ Right a0 l) : nameF a0 l = (⟨#[]⟩, 5) := if_neg h
theorem render_len (l : List Lb) (hl : Small l) : (render l).length ≤ 1300002 := by
  cases l with
  | nil => simp [render]
  | cons x r =>
    have := join_len (x :: r) hl
    simp only [render, List.length_append, List.length_cons, List.length_nil]
    omega
theorem parse_name (a0 : ByteArray) (ha : a0.size ≤ 10000) (l : List Lb) (hl : Small l) (hr : Right a0 l) (k : Nat) (hk : 80000 ≤ k) :
    label_Parse.f k (ba (bl a0 ++ render (isort nmL l))) = some (a0, isort nmL l, 0) := by
  have hp := isort_perm nmL l
  have hsS := small_perm hp hl
  have hsR := right_perm hp hr
  have hnF : nameF a0 (isort nmL l) = (ba (bl a0 ++ render (isort nmL l)), 0) := by rw [nameF_perm a0 hp, nameF_right hr]
  have hm := metric_no a0 hr.1
  generalize isort nmL l = s at *
  have hlen := render_len s hsS
  have hblen : (bl a0).length ≤ 10000 := by rw [bl_length]; exact ha
  unfold label_Parse.f
  cases s with
  | nil =>
    have hc := cut_f (bl a0 ++ render []) (123 :: []) (bl a0) [] false (by rw [List.length_append]; omega) (by rw [show bl a0 ++ render [] = bl a0 by simp [render]]; exact cut_not 123 [] (bl a0) hm) (ba (bl a0 ++ render [])) (⟨#[123]⟩ : ByteArray) rfl rfl
    rw [hc, Option.bind_some, if_neg (by simp), ba_bl, labelName_f a0 ha [] hsS k (by omega), Option.bind_some, hnF, if_pos rfl, if_pos rfl]
  | cons x r =>
    have ht : bl a0 ++ render (x :: r) = bl a0 ++ (123 :: []) ++ ltext (x :: r) := by
      rw [ltext_join]
      simp [render]
    have hg : ∀ z ∈ x :: r, namedB z.f0 95 = true := fun z hz => by
      have := List.all_eq_true.1 hsR.2.2.1 z hz
      unfold goodL at this
      rw [Bool.and_eq_true] at this
      exact this.1
    have hc := cut_f (bl a0 ++ render (x :: r)) (123 :: []) (bl a0) (ltext (x :: r)) true (by rw [List.length_append]; omega) (by rw [ht]; exact cut_at 123 [] (bl a0) (ltext (x :: r)) hm) (ba (bl a0 ++ render (x :: r))) (⟨#[123]⟩ : ByteArray) rfl rfl
    have h16 := hsR.2.1
    have hL : label_labels.f k (ba (ltext (x :: r))) = some (x :: r, true) := by
      have := labels_go (x :: r) [] k (by simp) (by simpa using hsS) (by simpa using h16) hg (by omega)
      rw [List.nil_append] at this
      exact this
    rw [hc, Option.bind_some, if_pos rfl, hL, Option.bind_some, if_pos rfl, ba_bl, labelName_f a0 ha (x :: r) hsS k (by omega), Option.bind_some, hnF, if_pos rfl, if_pos rfl]
end Go.Proofs.YtcikjeiebpmmcaaGreat.PureMch
end
section
/- Pruned. -/
namespace Go.Proofs.YtcikjeiebpmmcaaGreat.PureMch
open Go.RowKit Go.Proofs.YtcikjeiebpmmcaaGreat Go.Proofs.YtcikjeiebpmmcaaGreat.PMch Go.Proofs.YtcikjeiebpmmcaaGreatW.PrintWords
set_option linter.unusedVariables false
set_option linter.unusedSimpArgs false
def Answer (s : ByteArray) (r : ByteArray × List Lb × Int) : Prop :=
  r = (⟨#[]⟩, [], 5) ∨ (r.2.2 = 0 ∧ r.1.size ≤ 10000 ∧ Small r.2.1 ∧ nameF r.1 r.2.1 = (s, 0))
def Good (s : ByteArray) (X : Option (ByteArray × List Lb × Int)) : Prop := ∃ r, X = some r ∧ Answer s r
theorem good_bad (s : ByteArray) : Good s (some (⟨#[]⟩, [], 5)) := ⟨_, rfl, Or.inl rfl⟩
theorem cut_len (s sep : List UInt8) : (Lib.cut s sep).1.length ≤ s.length ∧ (Lib.cut s sep).2.1.length ≤ s.length := by
  unfold Lib.cut
  split
  · exact ⟨by rw [List.length_take]; omega, by rw [List.length_drop]; omega⟩
  · exact ⟨Nat.le_refl _, by simp⟩
theorem cut_any (S Sep : ByteArray) (h : S.size ≤ 4000000) : ∃ p r b, strings_Cut.f S Sep = some (p, r, b) ∧ p.size ≤ S.size ∧ r.size ≤ S.size := by
  unfold strings_Cut.f
  rw [if_pos (by omega)]
  have := cut_len S.data.toList Sep.data.toList
  have e : S.data.toList.length = S.size := by simp
  exact ⟨_, _, _, rfl, by show (ba _).size ≤ _; rw [size_ba]; omega, by show (ba _).size ≤ _; rw [size_ba]; omega⟩
theorem prefix_any (S : ByteArray) : ∃ b, strings_HasPrefix.f S (⟨#[44]⟩ : ByteArray) = some b ∧ (b = true → 1 ≤ S.size) := by
  have hz : ((⟨#[44]⟩ : ByteArray).size : Int) = 1 := rfl
  unfold strings_HasPrefix.f stringslite_HasPrefix.f
  rw [hz]
  by_cases h : (S.size : Int) ≥ 1
  · rw [if_pos h, if_pos (by omega), if_pos (by omega)]
    exact ⟨_, rfl, fun _ => by omega⟩
  · rw [if_neg h]
    exact ⟨_, rfl, fun h => by cases h⟩
theorem unescR_len (l : List UInt8) : (unescR [] l).1.size ≤ l.length := by
  unfold unescR
  cases h : unesc l with
  | none => exact Nat.zero_le _
  | some m =>
    show (ba ([] ++ m)).size ≤ _
    rw [List.nil_append, size_ba]
    exact unesc_le l m h
theorem extract_size (s : ByteArray) (i j : Nat) (hj : j ≤ s.size) : (s.extract i j).size = j - i := by simp [ByteArray.size_extract]; omega
theorem value_any (s : ByteArray) (hs : s.size ≤ 10000) : ∀ (n k i : Nat), s.size ≤ i + n → i ≤ s.size + 1 → n + 30000 ≤ k → ∃ v r b, label_value.l0 k s (i : Int) = some (v, r, b) ∧ v.size ≤ s.size ∧ (b = true → r.size < s.size) := by
  intro n
  induction n using Nat.strongRecOn with
  | _ n ih =>
    intro k i h hi hk
    obtain ⟨k, rfl⟩ : ∃ j, k = j + 1 := ⟨k - 1, by omega⟩
    have z0 : (⟨#[]⟩ : ByteArray).size = 0 := rfl
    rw [label_value.l0]
    by_cases hlt : i < s.size
    · have hw := wrap_one i (by omega)
      have hw2 := wrap_two i (by omega)
      rw [if_pos (by omega), if_pos (by omega), hw, hw2]
      by_cases h92 : bt s (i : Int) = 92
      · rw [if_pos h92]
        exact ih (n - 1) (by omega) k (i + 2) (by omega) (by omega) (by omega)
      · rw [if_neg h92]
        by_cases h34 : bt s (i : Int) = 34
        · have hx := extract_size s 0 i (by omega)
          have hy := extract_size s (i + 1) s.size (Nat.le_refl _)
          have hl := unescR_len (s.extract 0 i).data.toList
          have e : (s.extract 0 i).data.toList.length = (s.extract 0 i).size := by simp
          rw [if_pos h34, if_pos (by omega), Int.toNat_natCast, unescape_f k _ (by omega) (by omega), Option.bind_some, if_pos (by omega), if_pos (by omega), Int.toNat_natCast]
          exact ⟨_, _, _, rfl, by omega, fun _ => by omega⟩
        · rw [if_neg h34]
          exact ih (n - 1) (by omega) k (i + 1) (by omega) (by omega) (by omega)
    · rw [if_neg (by omega)]
      exact ⟨_, _, _, rfl, by omega, fun h => by cases h⟩
theorem labels_any : ∀ (n k : Nat) (t : ByteArray) (acc : List Lb), t.size ≤ n → n ≤ 10000 → acc.length ≤ 17 → (∀ x ∈ acc, x.f0.size ≤ 10000 ∧ x.f1.size ≤ 10000) → 2 * n + 50000 ≤ k →
    ∃ l b, label_labels.l0 k t acc = some (l, b) ∧ Small l := by
  intro n
  induction n using Nat.strongRecOn with
  | _ n ih =>
    intro k t acc ht hn ha hs hk
    obtain ⟨k, rfl⟩ : ∃ j, k = j + 2 := ⟨k - 2, by omega⟩
    obtain ⟨p, r, f, hcut, hp, hr⟩ := cut_any t (⟨#[61, 34]⟩ : ByteArray) (by omega)
    obtain ⟨v, rest, b, hv, hvs, hrs⟩ := value_any r (by omega) r.size (k + 1) 0 (by omega) (by omega) (by omega)
    rw [show ((0 : Nat) : Int) = 0 from rfl] at hv
    have hv' : label_value.f (k + 1) r = some (v, rest, b) := hv
    have bad : ∃ l b', label_labels.j1 (k + 1) acc p v rest true = some (l, b') ∧ Small l := ⟨[], false, by rw [label_labels.j1, if_pos rfl], by simp, by simp⟩
    rw [label_labels.l0, hcut, Option.bind_some, hv', Option.bind_some]
    cases f with
    | false => rw [if_neg (by simp)]; exact bad
    | true =>
      rw [if_pos rfl]
      cases b with
      | false => rw [if_neg (by simp)]; exact bad
      | true =>
        have hrs' := hrs rfl
        rw [if_pos rfl]
        by_cases h16 : (acc.length : Int) > 16
        · rw [decide_eq_true h16]; exact bad
        · have hs2 : ∀ x ∈ acc ++ [(⟨p, v⟩ : Lb)], x.f0.size ≤ 10000 ∧ x.f1.size ≤ 10000 := by
            intro x hx
            rcases List.mem_append.1 hx with hx | hx
            · exact hs x hx
            · rw [List.mem_singleton.1 hx]
              exact ⟨by show p.size ≤ _; omega, by show v.size ≤ _; omega⟩
          have hl2 : (acc ++ [(⟨p, v⟩ : Lb)]).length ≤ 17 := by rw [List.length_append, List.length_singleton]; omega
          rw [decide_eq_false h16, label_labels.j1, if_neg (by simp), if_pos (by omega), Option.bind_some]
          by_cases hend : rest.toList = ([125] : List UInt8)
          · rw [if_pos hend]
            exact ⟨_, _, rfl, Nat.le_trans hl2 (by omega), hs2⟩
          · obtain ⟨b, hb, hb1⟩ := prefix_any rest
            rw [if_neg hend, hb, Option.bind_some]
            cases b with
            | false => rw [if_neg (by simp)]; exact ⟨[], false, rfl, by simp, by simp⟩
            | true =>
              have h1 := hb1 rfl
              have he := extract_size rest 1 rest.size (Nat.le_refl _)
              rw [if_pos rfl, if_pos (show (1 : Int) ≤ (rest.size : Int) by omega)]
              exact ih (n - 1) (by omega) k _ _ (show (rest.extract 1 rest.size).size ≤ n - 1 by omega) (by omega) hl2 hs2 (by omega)
theorem small_nil' : Small [] := ⟨by simp, by simp⟩
theorem good_name (a0 p : ByteArray) (l : List Lb) (hp : p.size ≤ 10000) (hl : Small l) (R : ByteArray × Int) (hR : R = nameF p l) :
    Good a0 (if R.2 = 0 then (if R.1.toList = a0.toList then (some (p, l, 0)) else (some ((⟨#[]⟩ : ByteArray), ([] : List Lb), 5))) else (some ((⟨#[]⟩ : ByteArray), ([] : List Lb), 5))) := by
  by_cases h1 : R.2 = 0
  · rw [if_pos h1]
    by_cases h2 : R.1.toList = a0.toList
    · rw [if_pos h2]
      refine ⟨_, rfl, Or.inr ⟨rfl, hp, hl, ?_⟩⟩
      show nameF p l = (a0, 0)
      rw [← hR, ← h1, ← toList_inj h2]
    · rw [if_neg h2]
      exact good_bad a0
  · rw [if_neg h1]
    exact good_bad a0
theorem parse_any (a0 : ByteArray) (ha : a0.size ≤ 10000) (k : Nat) (hk : 80000 ≤ k) : Good a0 (label_Parse.f k a0) := by
  obtain ⟨p, r, b, hcut, hp, hr⟩ := cut_any a0 (⟨#[123]⟩ : ByteArray) (by omega)
  unfold label_Parse.f
  rw [hcut, Option.bind_some]
  cases b with
  | false =>
    rw [if_neg (by simp), labelName_f p (by omega) [] small_nil' k (by omega), Option.bind_some]
    exact good_name a0 p [] (by omega) small_nil' _ rfl
  | true =>
    obtain ⟨l, b, hL, hl⟩ := labels_any r.size k r [] (Nat.le_refl _) (by omega) (by simp) (by simp) (by omega)
    have hL' : label_labels.f k r = some (l, b) := hL
    rw [if_pos rfl, hL', Option.bind_some]
    cases b with
    | false => rw [if_neg (by simp)]; exact good_bad a0
    | true =>
      rw [if_pos rfl, labelName_f p (by omega) l hl k (by omega), Option.bind_some]
      exact good_name a0 p l (by omega) hl _ rfl
end Go.Proofs.YtcikjeiebpmmcaaGreat.PureMch
end
section
/- Pruned. -/
namespace Go.Proofs.YtcikjeiebpmmcaaGreat.PureMch
open Go.RowKit Go.Proofs.YtcikjeiebpmmcaaGreat Go.Proofs.YtcikjeiebpmmcaaGreat.PMch Go.Proofs.YtcikjeiebpmmcaaGreatW.PrintWords
set_option linter.unusedVariables false
set_option linter.unusedSimpArgs false
theorem right_good {a0 : ByteArray} {l : List Lb} (h : Right a0 l) : ∀ x ∈ l, namedB x.f0 95 = true ∧ x.f1.size ≤ 1024 := fun x hx => by
  have := List.all_eq_true.1 h.2.2.1 x hx
  unfold goodL at this
  rw [Bool.and_eq_true, decide_eq_true_eq] at this
  exact this
theorem right_small {a0 : ByteArray} {l : List Lb} (h : Right a0 l) : a0.size ≤ 200 ∧ Small l :=
  ⟨(named_size _ _ h.1).2, by have := h.2.1; omega, fun x hx => by
    obtain ⟨h1, h2⟩ := right_good h x hx
    have := named_size _ _ h1
    exact ⟨by omega, by omega⟩⟩
theorem labelName_g (a0 : ByteArray) (l : List Lb) (ha : a0.size ≤ 1000000000) (hl : l.length ≤ 1000000000) (hx : ∀ x ∈ l, x.f0.size ≤ 1000000000) (k : Nat) (hk : 100 ≤ k) : label_Name.f k a0 l = some (nameF a0 l) := by
  by_cases hr : Right a0 l
  · have hS := right_small hr
    exact labelName_f a0 (by omega) l hS.2 k hk
  · have hS : label_series.f a0 l = some (seriesF nmL vlL (fun s => namedB s 95) (fun s => namedB s 58) a0 l) :=
      if_pos ⟨by omega, by omega, fun x h => by have := hx x h; omega⟩
    have hI : ∀ c : Int, c ≠ 5 → errors_Is.f (some c) (some 5) = some true := fun c hc => if_pos ⟨rfl, fun e => hc (Option.some.inj e)⟩
    rw [nameF_not hr]
    unfold label_Name.f
    rw [hS, Option.bind_some]
    unfold seriesF
    by_cases h1 : namedB a0 58 = true
    · rw [if_neg (by simp [h1])]
      by_cases h2 : 16 < l.length ∨ l.any (badL nmL vlL fun s => namedB s 95) = true
      · rw [if_pos h2, hI 102 (by decide), Option.bind_some, if_pos rfl]
      · rw [if_neg h2]
        by_cases h3 : twins nmL (isort nmL l) = true
        · rw [if_pos h3, hI 103 (by decide), Option.bind_some, if_pos rfl]
        · exact absurd ⟨h1, by omega, by
            have h4 : ¬ l.any (badL nmL vlL fun s => namedB s 95) = true := fun h => h2 (Or.inr h)
            rw [bad_good] at h4
            simpa using h4, (twins_nodup l).1 (by simpa using h3)⟩ hr
    · rw [if_pos (by simpa using h1), hI 101 (by decide), Option.bind_some, if_pos rfl]
theorem stands_ends (p : List S103) (t : ByteArray) (hp : p.length ≤ 100000) (ht : t.size ≤ 100000) (a : Nat) (ha : a + p.length ≤ t.size) : ∀ (n k i : Nat), i + n = p.length → n < k → ∃ b, relabel_stands.l0 k t (a : Int) p (p.length : Int) (i : Int) = some b
  | 0, k, i, hi, hk => by
    obtain ⟨k, rfl⟩ : ∃ n, k = n + 1 := ⟨k - 1, by omega⟩
    rw [relabel_stands.l0, if_neg (by omega)]
    exact ⟨_, rfl⟩
  | n + 1, k, i, hi, hk => by
    obtain ⟨k, rfl⟩ : ∃ n, k = n + 1 := ⟨k - 1, by omega⟩
    obtain ⟨b, hb⟩ := stands_ends p t hp ht a ha n k (i + 1) (by omega) (by omega)
    have hw1 : wrap64 ((i : Int) + 1) = ((i + 1 : Nat) : Int) := by rw [wrap_in _ (by omega) (by omega)]; omega
    have hwa : wrap64 ((a : Int) + (i : Int)) = ((a + i : Nat) : Int) := by rw [wrap_in _ (by omega) (by omega)]; omega
    rw [relabel_stands.l0, if_pos (by omega), if_pos (by omega), if_pos (by omega), hw1, hwa, hb]
    split
    · exact ⟨_, rfl⟩
    · rw [if_pos (by omega), if_pos (by omega)]
      split <;> exact ⟨_, rfl⟩
theorem stands_any (p : List S103) (t : ByteArray) (hp : p.length ≤ 100000) (ht : t.size ≤ 100000) (a : Nat) (ha : a ≤ 300000) (k : Nat) (hk : 100010 ≤ k) : ∃ b, relabel_stands.f k p t (a : Int) = some b := by
  obtain ⟨k, rfl⟩ : ∃ n, k = n + 1 := ⟨k - 1, by omega⟩
  have hw : wrap64 ((a : Int) + (p.length : Int)) = ((a + p.length : Nat) : Int) := by rw [wrap_in _ (by omega) (by omega)]; omega
  unfold relabel_stands.f
  rw [if_neg (by omega), hw, relabel_stands.j0]
  by_cases h : a + p.length ≤ t.size
  · rw [if_neg (by simp only [decide_eq_true_eq]; omega)]
    exact stands_ends p t hp ht a h p.length k 0 (by omega) (by omega)
  · rw [if_pos (by rw [decide_eq_true_eq]; omega)]
    exact ⟨_, rfl⟩
theorem find_any {β : Type} (st : List β → Int → Option Bool) (p : List β) (M : Nat) (hs : ∀ a : Nat, a ≤ M → ∃ b, st p (a : Int) = some b) : ∀ (n a : Nat), a + n ≤ M → ∃ r, findF st p n a = some r ∧ a ≤ r ∧ r ≤ a + n
  | 0, a, h => ⟨a, rfl, Nat.le_refl _, Nat.le_refl _⟩
  | n + 1, a, h => by
    obtain ⟨b, hb⟩ := hs a (by omega)
    unfold findF
    rw [hb, Option.bind_some]
    cases b with
    | true => exact ⟨a, rfl, Nat.le_refl _, by omega⟩
    | false =>
      obtain ⟨r, h1, h2, h3⟩ := find_any st p M hs n (a + 1) (by omega)
      rw [if_neg (by simp)]
      exact ⟨r, h1, by omega, by omega⟩
theorem rest_any {β : Type} (st : List β → Int → Option Bool) (t : ByteArray) (ht : t.size ≤ 100000) : ∀ (ps : List (List β)) (a : Nat) (took : List ByteArray), (∀ p ∈ ps, p.length ≤ 100000 ∧ ∀ a : Nat, a ≤ 300000 → ∃ b, st p (a : Int) = some b) → a ≤ 200000 → (∀ x ∈ took, x.size ≤ t.size) →
    ∃ r b, restF st t ps a took = some (r, b) ∧ ∀ x ∈ r, x.size ≤ t.size
  | [], a, took, hp, ha, hx => ⟨_, _, rfl, hx⟩
  | p :: ps, a, took, hp, ha, hx => by
    obtain ⟨hp1, hp2⟩ := hp p (by simp)
    have hb0 : (if ps = [] then max a (t.size - p.length) else a) ≤ 200000 := by split <;> omega
    unfold restF
    generalize (if ps = [] then max a (t.size - p.length) else a) = b0 at *
    obtain ⟨r, h1, h2, h3⟩ := find_any st p 300000 hp2 (t.size + 1 - b0) b0 (by omega)
    rw [h1, Option.bind_some]
    by_cases hlt : t.size < r
    · rw [if_pos hlt]
      exact ⟨_, _, rfl, by simp⟩
    · rw [if_neg hlt]
      refine rest_any st t ht ps (r + p.length) _ (fun q hq => hp q (by simp [hq])) (by omega) fun x hm => ?_
      rcases List.mem_append.1 hm with h | h
      · exact hx x h
      · obtain rfl := List.mem_singleton.1 h
        rw [ByteArray.size_extract]
        omega
theorem match_any (pat t : ByteArray) (h1 : pat.size ≤ 99999) (h2 : t.size ≤ 100000) (k : Nat) (hk : 200000 ≤ k) : ∃ took b, relabel_Match.f k pat t = some (took, b) ∧ ∀ x ∈ took, x.size ≤ t.size := by
  obtain ⟨ps, b, hp, hS, hm⟩ := pieces_f pat (by omega) k (by omega)
  have hst : ∀ p ∈ ps, p.length ≤ 100000 ∧ ∀ a : Nat, a ≤ 300000 → ∃ b, relabel_stands.f k p t (a : Int) = some b := fun p hx => by
    have hl := hS.2 p hx
    exact ⟨by omega, fun a ha => stands_any p t (by omega) h2 a ha k (by omega)⟩
  unfold relabel_Match.f
  rw [hp, Option.bind_some, if_pos ⟨by omega, by show ps.length ≤ _; omega, fun p hx => by have := hS.2 p hx; omega⟩]
  show ∃ took c, matchF (fun p a => relabel_stands.f k p t a) t ps b = some (took, c) ∧ _
  unfold matchF
  cases b with
  | false => exact ⟨_, _, rfl, by simp⟩
  | true =>
    rw [if_neg (by simp)]
    cases ps with
    | nil =>
      exfalso
      cases ho : okPat pat with
      | none => rw [ho] at hm; cases hm
      | some n =>
        rw [ho] at hm
        have h3 : (0 : Nat) = n + 1 := hm.2.1
        omega
    | cons p0 r =>
      obtain ⟨hl0, hs0⟩ := hst p0 (by simp)
      obtain ⟨c, hc⟩ := hs0 0 (by omega)
      show ∃ took c, ((relabel_stands.f k p0 t 0).bind fun b => if b = false then some ([], false) else if r = [] ∧ p0.length ≠ t.size then some ([], false) else restF (fun p a => relabel_stands.f k p t a) t r p0.length []) = some (took, c) ∧ _
      rw [show relabel_stands.f k p0 t 0 = some c from hc, Option.bind_some]
      cases c with
      | false => exact ⟨_, _, rfl, by simp⟩
      | true =>
        rw [if_neg (by simp)]
        split
        · exact ⟨_, _, rfl, by simp⟩
        · exact rest_any (fun p a => relabel_stands.f k p t a) t h2 r p0.length [] (fun p hx => hst p (by simp [hx])) (by omega) (by simp)
theorem fill_len (took : List ByteArray) (M : Nat) (hM : ∀ x ∈ took, x.size ≤ M) : ∀ (n : Nat) (l m : List UInt8), l.length ≤ n → fillL took l = some m → m.length ≤ l.length * (M + 1)
  | _, [], m, _, e => by
    rw [fillL] at e
    obtain rfl := Option.some.inj e
    simp
  | 0, c :: r, m, hn, e => by simp at hn
  | n + 1, c :: r, m, hn, e => by
    simp only [List.length_cons] at hn
    by_cases hc : c = 36
    · subst hc
      cases r with
      | nil => rw [fill_end] at e; cases e
      | cons d r =>
        simp only [List.length_cons] at hn
        by_cases hd : d = 36
        · subst hd
          rw [fill_dollar] at e
          obtain ⟨m', hm', rfl⟩ := Option.map_eq_some_iff.1 e
          have := fill_len took M hM n r m' (by omega) hm'
          simp only [List.length_cons, Nat.succ_mul]
          omega
        · by_cases hb : d.toNat < 49 ∨ 57 < d.toNat ∨ took.length < d.toNat - 48
          · rw [fill_bad _ _ _ hd hb] at e; cases e
          · rw [fill_took _ _ _ hd hb] at e
            obtain ⟨m', hm', rfl⟩ := Option.map_eq_some_iff.1 e
            have h1 := fill_len took M hM n r m' (by omega) hm'
            have hin : d.toNat - 49 < took.length := by omega
            have h2 : (took.getD (d.toNat - 49) ByteArray.empty).data.toList.length ≤ M := by
              rw [List.getD_eq_getElem?_getD, List.getElem?_eq_getElem hin, Option.getD_some, data_len0]
              exact hM _ (List.getElem_mem hin)
            simp only [List.length_cons, List.length_append, Nat.succ_mul]
            omega
    · rw [fill_plain _ _ _ hc] at e
      obtain ⟨m', hm', rfl⟩ := Option.map_eq_some_iff.1 e
      have := fill_len took M hM n r m' (by omega) hm'
      simp only [List.length_cons, Nat.succ_mul]
      omega
where data_len0 (s : ByteArray) : s.data.toList.length = s.size := by simp
theorem fill_size (took : List ByteArray) (tm : ByteArray) (hM : ∀ x ∈ took, x.size ≤ 10000) (ht : tm.size ≤ 2500) : (fillR took tm).1.size ≤ 26000000 := by
  unfold fillR
  cases e : fillL took tm.data.toList with
  | none => show (0 : Nat) ≤ _; omega
  | some m =>
    have h1 := fill_len took 10000 hM _ _ _ (Nat.le_refl _) e
    have h2 : tm.data.toList.length = tm.size := by simp
    rw [h2] at h1
    show m.toArray.size ≤ 26000000
    rw [List.size_toArray]
    have := Nat.mul_le_mul_right 10001 ht
    omega
abbrev mkL : ByteArray → ByteArray → Lb := fun a b => ⟨a, b⟩
theorem nodup_inj {α β : Type} (f : α → β) : ∀ {l : List α}, (l.map f).Nodup → ∀ x ∈ l, ∀ y ∈ l, f x = f y → x = y
  | [], _, x, hx, _, _, _ => by simp at hx
  | a :: l, h, x, hx, y, hy, he => by
    rw [List.map_cons, List.nodup_cons] at h
    rcases List.mem_cons.1 hx with hx1 | hx2
    · rcases List.mem_cons.1 hy with hy1 | hy2
      · rw [hx1, hy1]
      · exact absurd (List.mem_map.2 ⟨y, hy2, by rw [← he, hx1]⟩) h.1
    · rcases List.mem_cons.1 hy with hy1 | hy2
      · exact absurd (List.mem_map.2 ⟨x, hx2, by rw [he, hy1]⟩) h.1
      · exact nodup_inj f h.2 x hx2 y hy2 he
theorem value_perm (m : ByteArray) {l l2 : List Lb} (hp : l2.Perm l) (hn : (l.map nmL).Nodup) (b : ByteArray) : valueF nmL vlL m l2 b = valueF nmL vlL m l b := by
  unfold valueF
  have key : l2.find? (fun x => decide (nmL x = b)) = l.find? (fun x => decide (nmL x = b)) := by
    cases h : l.find? (fun x => decide (nmL x = b)) with
    | none => exact List.find?_eq_none.2 fun y hy => List.find?_eq_none.1 h y (hp.mem_iff.1 hy)
    | some x =>
      have hx := List.mem_of_find?_eq_some h
      have hx1 : nmL x = b := of_decide_eq_true (List.find?_some (p := fun x => decide (nmL x = b)) h)
      cases h2 : l2.find? (fun x => decide (nmL x = b)) with
      | none => exact absurd (decide_eq_true hx1) (List.find?_eq_none.1 h2 x (hp.mem_iff.2 hx))
      | some y =>
        have hy := List.mem_of_find?_eq_some h2
        have hy1 : nmL y = b := of_decide_eq_true (List.find?_some (p := fun x => decide (nmL x = b)) h2)
        rw [nodup_inj nmL hn y (hp.mem_iff.1 hy) x hx (hy1.trans hx1.symm)]
  rw [key]
theorem value_size {m : ByteArray} {l : List Lb} (h : Right m l) (b : ByteArray) : (valueF nmL vlL m l b).size ≤ 1024 := by
  have hm := (right_small h).1
  unfold valueF
  split
  · omega
  · cases hf : l.find? (fun x => decide (nmL x = b)) with
    | none => show (0 : Nat) ≤ _; omega
    | some x => exact (right_good h x (List.mem_of_find?_eq_some hf)).2
theorem set_perm (m : ByteArray) {l l2 : List Lb} (hp : l2.Perm l) (b v : ByteArray) : (setF nmL mkL m l2 b v).1 = (setF nmL mkL m l b v).1 ∧ ((setF nmL mkL m l2 b v).2).Perm (setF nmL mkL m l b v).2 := by
  unfold setF
  split
  · exact ⟨rfl, hp⟩
  · exact ⟨rfl, (hp.filter _).append_right _⟩
def Big (m : ByteArray) (l : List Lb) : Prop := m.size ≤ 1000000000 ∧ l.length ≤ 1000000000 ∧ ∀ x ∈ l, x.f0.size ≤ 1000000000
theorem right_big {m : ByteArray} {l : List Lb} (h : Right m l) : Big m l := by
  obtain ⟨h1, h2, h3⟩ := right_small h
  exact ⟨by omega, by omega, fun x hx => by have := (h3 x hx).1; omega⟩
theorem one_big (g : Lb → Bool) (k : Int) (into x : ByteArray) (is : Bool) {m : ByteArray} {l : List Lb} (h : Right m l) (hi : into.size ≤ 2500) (hx : x.size ≤ 26000000) : Big (oneF nmL mkL g k into x is m l).1 (oneF nmL mkL g k into x is m l).2.1 := by
  have hb := right_big h
  obtain ⟨g1, g2, g3⟩ := right_small h
  have hf : ∀ q : Lb → Bool, Big m (l.filter q) := fun q => ⟨hb.1, by have := List.length_filter_le q l; omega, fun x hx => hb.2.2 x (List.mem_filter.1 hx).1⟩
  unfold oneF
  split
  · exact hb
  · split
    · exact hb
    · split
      · cases is with
        | false => exact hb
        | true =>
          show Big (setF nmL mkL m l into x).1 (setF nmL mkL m l into x).2
          unfold setF
          split
          · exact ⟨by show x.size ≤ _; omega, hb.2.1, hb.2.2⟩
          · split
            · rw [List.append_nil]
              exact hf _
            · have h2 := hf (fun y => !decide (nmL y = into))
              have hl := List.length_filter_le (fun y => !decide (nmL y = into)) l
              refine ⟨h2.1, by show (_ ++ _ : List Lb).length ≤ _; rw [List.length_append, List.length_singleton]; omega, fun y hy => ?_⟩
              rcases List.mem_append.1 hy with hy | hy
              · exact h2.2.2 y hy
              · rw [List.mem_singleton.1 hy]
                show into.size ≤ _
                omega
      · exact hf _
theorem may_kind {x : S43} (h : mayR x = true) : x.f0 = 1 ∨ x.f0 = 2 ∨ x.f0 = 3 ∨ x.f0 = 4 := by
  unfold mayR mayB at h
  cases ho : okPat x.f2 with
  | none => rw [ho] at h; cases h
  | some n =>
    rw [ho] at h
    have h2 : restB n x.f0 x.f1 x.f3 x.f4 = true := h
    unfold restB at h2
    by_cases h1 : x.f0 = 1 ∨ x.f0 = 2
    · rcases h1 with h1 | h1
      · exact Or.inl h1
      · exact Or.inr (Or.inl h1)
    · rw [if_neg h1] at h2
      by_cases h3 : x.f0 = 3
      · exact Or.inr (Or.inr (Or.inl h3))
      · rw [if_neg h3] at h2
        by_cases h4 : x.f0 = 4
        · exact Or.inr (Or.inr (Or.inr h4))
        · rw [if_neg h4] at h2
          cases h2
theorem name_right {m s : ByteArray} {l : List Lb} (h : nameF m l = (s, 0)) : Right m l := by
  by_cases hr : Right m l
  · exact hr
  · rw [nameF_not hr] at h
    have : (5 : Int) = 0 := congrArg Prod.snd h
    omega
abbrev GoK (k : Nat) := goF (relabel_Apply.step k) (label_Name.f k)
theorem good_rules {l : List S43} (h : l.all mayR = true) (hS : ∀ x ∈ l, SmallR x) : ∀ x ∈ l, mayR x = true ∧ SmallR x := fun x hx => ⟨List.all_eq_true.1 h x hx, hS x hx⟩
theorem apply_bad_name (k : Nat) (hk : 200000 ≤ k) (l : List S43) (hl : ∀ x ∈ l, mayR x = true ∧ SmallR x) (s : ByteArray) (hp : label_Parse.f k s = some (⟨#[]⟩, [], 5)) : relabel_Apply.f k l s = some (⟨#[]⟩, false, 5) := by
  unfold relabel_Apply.f
  rw [mays_f k (by omega) l (fun x hx => (hl x hx).2), Option.bind_some, if_pos (List.all_eq_true.2 fun x hx => (hl x hx).1), hp, Option.bind_some, if_neg (by decide)]
theorem apply_name (k : Nat) (hk : 200000 ≤ k) (l : List S43) (hll : l.length ≤ 1000) (hl : ∀ x ∈ l, mayR x = true ∧ SmallR x) (s m : ByteArray) (ls : List Lb) (hp : label_Parse.f k s = some (m, ls, 0)) : relabel_Apply.f k l s = GoK k l m ls s := by
  unfold relabel_Apply.f
  rw [mays_f k (by omega) l (fun x hx => (hl x hx).2), Option.bind_some, if_pos (List.all_eq_true.2 fun x hx => (hl x hx).1), hp, Option.bind_some, if_pos rfl, if_pos (by omega)]
end Go.Proofs.YtcikjeiebpmmcaaGreat.PureMch
end
section
/- Pruned. -/
namespace Go.Proofs.YtcikjeiebpmmcaaGreat.PureMch
open Go.RowKit Go.Proofs.YtcikjeiebpmmcaaGreat Go.Proofs.YtcikjeiebpmmcaaGreat.PMch Go.Proofs.YtcikjeiebpmmcaaGreatW.PrintWords
set_option linter.unusedVariables false
set_option linter.unusedSimpArgs false
abbrev PB := S103
abbrev PT := S70
def starT : PT := ⟨true, false, 0⟩
def oneT (x : PB) : PT := ⟨false, x.f0, if x.f0 then 0 else x.f1⟩
def flatI (init : List (List PB)) : List PT := init.flatMap fun p => p.map oneT ++ [starT]
def flatQ (init : List (List PB)) (q : List PB) : List PT := flatI init ++ q.map oneT
theorem flat_star (init : List (List PB)) (q : List PB) : flatQ (init ++ [q]) [] = flatQ init q ++ [starT] := by
  simp [flatQ, flatI]
theorem flat_one (init : List (List PB)) (q : List PB) (x : PB) : flatQ init (q ++ [x]) = flatQ init q ++ [oneT x] := by
  simp [flatQ]
theorem wrap_in' (n : Int) (h1 : -9223372036854775808 ≤ n) (h2 : n ≤ 9223372036854775807) : wrap64 n = n := by unfold wrap64; omega
theorem esc_fin : ∀ n : Fin 256, decide (Lib.indexByte [42, 63, 92] (n.val).toUInt8 < 0) = !(decide (n.val = 42) || (decide (n.val = 63) || decide (n.val = 92))) := by decide +kernel
theorem esc_int (c : Int) (h0 : 0 ≤ c) (h1 : c ≤ 255) : ∃ t, strings_IndexByte.f (⟨#[42, 63, 92]⟩ : ByteArray) c = some t ∧ (t < 0 ↔ ¬ (c = 42 ∨ c = 63 ∨ c = 92)) := by
  obtain ⟨n, rfl⟩ := Int.eq_ofNat_of_zero_le h0
  refine ⟨_, rfl, ?_⟩
  have h := esc_fin ⟨n, by omega⟩
  show Lib.indexByte [42, 63, 92] (n).toUInt8 < 0 ↔ _
  constructor
  · intro hl
    have := h.symm.trans (decide_eq_true hl)
    simp at this
    omega
  · intro hn
    refine of_decide_eq_true (h.trans ?_)
    simp
    omega
theorem rd_last (init : List (List PB)) (q : List PB) : rd_L3 (init ++ [q]) ((init.length : Nat) : Int) = q := by
  unfold rd_L3
  rw [Int.toNat_natCast]
  simp
theorem set_last (init : List (List PB)) (q q' : List PB) : (init ++ [q]).set init.length q' = init ++ [q'] := by
  simp
def Sizes (s : ByteArray) (ps : List (List PB)) (ls : List PT) : Prop := ps.length ≤ s.size + 1 ∧ (∀ p ∈ ps, p.length ≤ s.size) ∧ ls.length ≤ s.size
set_option maxRecDepth 100000 in
set_option maxHeartbeats 1000000 in
theorem lock (s : ByteArray) (hs : s.size ≤ 100000) : ∀ (k i : Nat) (init : List (List PB)) (q : List PB), i ≤ s.size → s.size < i + k → init.length ≤ i → (∀ p ∈ init, p.length ≤ i) → q.length ≤ i → (flatQ init q).length ≤ i →
    ∃ ps b ls, relabel_pieces.l0 k s (init ++ [q]) (i : Int) = some (ps, b) ∧ r29_Parts.l0 k s (flatQ init q) (init.length : Int) (i : Int) = some (ls, b) ∧ Sizes s ps ls ∧ (b = true → ∃ init' q', ps = init' ++ [q'] ∧ ls = flatQ init' q') := by
  intro k
  induction k with
  | zero => intro i init q h1 h2; omega
  | succ k ih =>
    intro i init q h1 h2 h3 h4 h5 h6
    have hlen : (init ++ [q]).length = init.length + 1 := by simp
    rw [relabel_pieces.l0, r29_Parts.l0]
    by_cases hlt : (i : Int) < (s.size : Int)
    · have hw1 : wrap64 ((i : Int) + 1) = ((i + 1 : Nat) : Int) := by rw [wrap_in' _ (by omega) (by omega)]; omega
      have hws : wrap64 ((init.length : Int) + 1) = ((init.length + 1 : Nat) : Int) := by rw [wrap_in' _ (by omega) (by omega)]; omega
      have hwl : wrap64 (((init ++ [q]).length : Int) - 1) = ((init.length : Nat) : Int) := by rw [hlen, wrap_in' _ (by omega) (by omega)]; omega
      have hw2 : i + 1 < s.size → wrap64 (((i + 1 : Nat) : Int) + 1) = ((i + 1 + 1 : Nat) : Int) := fun h => by rw [wrap_in' _ (by omega) (by omega)]; omega
      have stepS : ∃ ps b ls, relabel_pieces.l0 k s (init ++ [q] ++ [[]]) ((i + 1 : Nat) : Int) = some (ps, b) ∧ r29_Parts.l0 k s (flatQ init q ++ [starT]) ((init.length + 1 : Nat) : Int) ((i + 1 : Nat) : Int) = some (ls, b) ∧ Sizes s ps ls ∧ (b = true → ∃ init' q', ps = init' ++ [q'] ∧ ls = flatQ init' q') := by
        have := ih (i + 1) (init ++ [q]) [] (by omega) (by omega) (by rw [hlen]; omega) (fun p hp => by
          rcases List.mem_append.1 hp with h | h
          · have := h4 p h; omega
          · obtain rfl := List.mem_singleton.1 h; omega) (by simp) (by rw [flat_star, List.length_append, List.length_singleton]; omega)
        rw [flat_star, hlen] at this
        exact this
      have step1 : ∀ x : PB, ∃ ps b ls, relabel_pieces.l0 k s (init ++ [q ++ [x]]) ((i + 1 : Nat) : Int) = some (ps, b) ∧ r29_Parts.l0 k s (flatQ init q ++ [oneT x]) (init.length : Int) ((i + 1 : Nat) : Int) = some (ls, b) ∧ Sizes s ps ls ∧ (b = true → ∃ init' q', ps = init' ++ [q'] ∧ ls = flatQ init' q') := fun x => by
        have := ih (i + 1) init (q ++ [x]) (by omega) (by omega) (by omega) (fun p hp => by have := h4 p hp; omega) (by rw [List.length_append, List.length_singleton]; omega) (by rw [flat_one, List.length_append, List.length_singleton]; omega)
        rwa [flat_one] at this
      have step2 : i + 1 < s.size → ∀ x : PB, ∃ ps b ls, relabel_pieces.l0 k s (init ++ [q ++ [x]]) ((i + 1 + 1 : Nat) : Int) = some (ps, b) ∧ r29_Parts.l0 k s (flatQ init q ++ [oneT x]) (init.length : Int) ((i + 1 + 1 : Nat) : Int) = some (ls, b) ∧ Sizes s ps ls ∧ (b = true → ∃ init' q', ps = init' ++ [q'] ∧ ls = flatQ init' q') := fun hi x => by
        have := ih (i + 1 + 1) init (q ++ [x]) (by omega) (by omega) (by omega) (fun p hp => by have := h4 p hp; omega) (by rw [List.length_append, List.length_singleton]; omega) (by rw [flat_one, List.length_append, List.length_singleton]; omega)
        rwa [flat_one] at this
      have hE : ¬ ((i + 1 : Nat) : Int) = (s.size : Int) → i + 1 < s.size ∧ ¬ ((i + 1 : Nat) : Int) ≥ (s.size : Int) ∧ (0 : Int) ≤ ((i + 1 : Nat) : Int) ∧ ((i + 1 : Nat) : Int) < (s.size : Int) := fun h => by omega
      have hE2 : ((i + 1 : Nat) : Int) = (s.size : Int) → ((i + 1 : Nat) : Int) ≥ (s.size : Int) := fun h => by omega
      have h0 : (0 : Int) ≤ (i : Int) := by omega
      have hc1 : (init ++ [q]).length < 5864062014805 := by rw [hlen]; omega
      have hc2 : (flatQ init q).length < 46912496118442 := by omega
      have g0 : (0 : Int) ≤ ((init.length : Nat) : Int) := by omega
      have g1 : ((init.length : Nat) : Int) < ((init ++ [q]).length : Int) := by rw [hlen]; omega
      have hm : (rd_L3 (init ++ [q]) ((init.length : Nat) : Int)).length < 70368744177664 := by rw [rd_last]; omega
      have hb1 := bt_range s ((i + 1 : Nat) : Int)
      obtain ⟨t, ht, hti⟩ := esc_int (bt s ((i + 1 : Nat) : Int)) hb1.1 hb1.2
      clear ih hs h1 h2 h3 h4 h5 h6 hb1 hlen
      rw [if_pos hlt, if_pos h0, if_pos hlt, if_pos h0, hw1]
      by_cases h42 : bt s i = 42
      · rw [if_pos h42, if_pos hc1, if_pos h42, if_pos hc2, hws, show (⟨true, false, 0⟩ : PT) = starT from rfl]
        exact stepS
      · rw [if_neg h42, if_neg h42, hwl]
        by_cases h63 : bt s i = 63
        · rw [if_pos h63, if_pos g0, if_pos g1, if_pos hm, if_pos h63, if_pos hc2, Int.toNat_natCast, rd_last, set_last]
          exact step1 ⟨true, bt s i⟩
        · rw [if_neg h63, if_neg h63]
          by_cases h92 : bt s i = 92
          · rw [if_pos h92, if_pos h92]
            by_cases hend : ((i + 1 : Nat) : Int) = (s.size : Int)
            · rw [if_pos hend, if_pos (hE2 hend)]
              exact ⟨_, _, _, rfl, rfl, ⟨by simp, by simp, by simp⟩, nofun⟩
            · obtain ⟨e3, e0, e1, e2⟩ := hE hend
              rw [if_neg hend, if_pos e1, if_pos e2, if_neg e0, if_pos e1, if_pos e2, ht, Option.bind_some, hw2 e3]
              by_cases he : bt s ((i + 1 : Nat) : Int) = 42 ∨ bt s ((i + 1 : Nat) : Int) = 63 ∨ bt s ((i + 1 : Nat) : Int) = 92
              · rw [if_neg (fun h => hti.1 h he), if_pos g0, if_pos g1, if_pos hm, Int.toNat_natCast, rd_last, set_last]
                have h := step2 e3 ⟨false, bt s ((i + 1 : Nat) : Int)⟩
                clear step1 step2 stepS
                rcases he with he | he | he
                · rw [if_pos he, if_pos hc2]; exact h
                · rw [if_neg (by rw [he]; decide), if_pos he, if_pos hc2]; exact h
                · rw [if_neg (by rw [he]; decide), if_neg (by rw [he]; decide), if_pos he, if_pos hc2]; exact h
              · rw [if_pos (hti.2 he), if_neg (fun h => he (.inl h)), if_neg (fun h => he (.inr (.inl h))), if_neg (fun h => he (.inr (.inr h)))]
                exact ⟨_, _, _, rfl, rfl, ⟨by simp, by simp, by simp⟩, nofun⟩
          · rw [if_neg h92, if_pos g0, if_pos g1, if_pos hm, if_neg h92, if_pos hc2, Int.toNat_natCast, rd_last, set_last]
            exact step1 ⟨false, bt s i⟩
    · have hsz : Sizes s (init ++ [q]) (flatQ init q) := ⟨by rw [hlen]; omega, fun p hp => by
        rcases List.mem_append.1 hp with h | h
        · have := h4 p h; omega
        · obtain rfl := List.mem_singleton.1 h; omega, by omega⟩
      rw [if_neg hlt, if_neg hlt]
      by_cases h10 : init.length ≤ 9
      · rw [if_pos (by rw [hlen]; omega), if_pos (by omega)]
        exact ⟨_, _, _, rfl, rfl, hsz, fun _ => ⟨init, q, rfl, rfl⟩⟩
      · rw [if_neg (by rw [hlen]; omega), if_neg (by omega)]
        exact ⟨_, _, _, rfl, rfl, hsz, nofun⟩
theorem pattern_f (s : ByteArray) (hs : s.size ≤ 100000) (k : Nat) (hk : s.size < k) : ∃ ps b ls, relabel_pieces.f k s = some (ps, b) ∧ r29_Parts.f k s = some (ls, b) ∧ Sizes s ps ls ∧ (b = true → ∃ init q, ps = init ++ [q] ∧ ls = flatQ init q) := by
  have := lock s hs k 0 [] [] (by omega) (by omega) (by simp) (by simp) (by simp) (by simp [flatQ, flatI])
  exact this
end Go.Proofs.YtcikjeiebpmmcaaGreat.PureMch
end
