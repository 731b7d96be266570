/- A text of this claim, pruned by a program of the session (prune.py) to what the theorem rests on. -/
import Derived.Test.YtcikjeiebpmmcaaGreatQyPMchx0
import Derived.Test.YtcikjeiebpmmcaaGreatQyPMchx1
import Derived.Test.YtcikjeiebpmmcaaGreatQyPMchx2
import Derived.Test.YtcikjeiebpmmcaaGreatQyPMchx3
import Derived.Test.YtcikjeiebpmmcaaGreatQyPMchx4
import Derived.Test.YtcikjeiebpmmcaaGreatQyPMchx5
import Derived.Test.YtcikjeiebpmmcaaGreatQyPMchx6
import Derived.Test.YtcikjeiebpmmcaaGreatQyPMchx7
import Derived.Test.YtcikjeiebpmmcaaGreatQyPMchx8
import Derived.Test.YtcikjeiebpmmcaaGreatQyPMchx9
import Derived.Test.YtcikjeiebpmmcaaGreatQyPMchx10
import Derived.Test.YtcikjeiebpmmcaaGreatQyPMchx11
import Derived.Test.YtcikjeiebpmmcaaGreatQyPMchx12
import Derived.Test.YtcikjeiebpmmcaaGreatQyPMchx13
import Derived.Test.YtcikjeiebpmmcaaGreatQyPMchx14
import Derived.Test.YtcikjeiebpmmcaaGreatQyPMchx15
import Derived.Test.YtcikjeiebpmmcaaGreatQyPMchx16
import Derived.Test.YtcikjeiebpmmcaaGreatQyPMchx17
import Derived.Test.YtcikjeiebpmmcaaGreatQyPMchx18
import Derived.Test.YtcikjeiebpmmcaaGreatQyPMchx19
import Derived.Test.YtcikjeiebpmmcaaGreatQyPMchx20
namespace Go.Proofs.YtcikjeiebpmmcaaGreat.PureMch
open Go.RowKit Go.Proofs.YtcikjeiebpmmcaaGreat Go.Proofs.YtcikjeiebpmmcaaGreat.PMch Go.Proofs.YtcikjeiebpmmcaaGreatW.PrintWords
set_option linter.unusedVariables false
set_option linter.unusedSimpArgs false
set_option maxRecDepth 100000 in
theorem known_K : odometerlaw29_known.f 60 = some true := by kernel_rfl
theorem known_f : ∀ n, odometerlaw29_known.f (n + 60) = some true
  | 0 => known_K
  | n + 1 => odometerlaw29_known.mono (n + 60) _ (known_f n)
theorem known_ge (k : Nat) (h : 60 ≤ k) : odometerlaw29_known.f k = some true := by
  obtain ⟨n, rfl⟩ : ∃ n, k = n + 60 := ⟨k - 60, by omega⟩
  exact known_f n
theorem wrap_in (n : Int) (h1 : -9223372036854775808 ≤ n) (h2 : n ≤ 9223372036854775807) : wrap64 n = n := by unfold wrap64; omega
theorem bt_nat (s : ByteArray) (i : Nat) (h : i < s.size) : bt s (i : Int) = (s[i].toNat : Int) := by simp [bt, h]
theorem ba_size (acc : List UInt8) : (⟨acc.toArray⟩ : ByteArray).size = acc.length := by simp [ByteArray.size]
theorem ba_app (acc : List UInt8) (x : ByteArray) : (⟨acc.toArray⟩ : ByteArray) ++ x = ⟨(acc ++ x.data.toList).toArray⟩ := by
  apply ByteArray.ext
  simp
theorem one_byte (s : ByteArray) (i : Nat) (h : i < s.size) : (s.extract i (i + 1)).data.toList = [s[i]] := by
  have hl : i < s.data.toList.length := by simpa using h
  rw [ByteArray.data_extract, Array.toList_extract, List.extract_eq_take_drop, List.drop_eq_getElem_cons hl]
  simp only [Nat.add_sub_cancel_left]
  rfl
theorem refill (took : List ByteArray) (s : ByteArray) (hs : s.size ≤ 100000) (ht : ∀ x ∈ took, x.size ≤ 100000) (hl : took.length ≤ 100000) : ∀ (k i : Nat) (acc : List UInt8), i ≤ s.size → s.size < i + k → Doing took s i acc →
    odometerref29_Fill.l0 k s took ⟨acc.toArray⟩ (i : Int) = some (fillR took s)
  | 0, i, acc, hi, hk, hD => by omega
  | k + 1, i, acc, hi, hk, hD => by
    have hacc : acc.length ≤ 10000200000 := by have := hD.size; omega
    have hsz := ba_size acc
    rw [odometerref29_Fill.l0]
    by_cases hlt : i < s.size
    · have hw1 : wrap64 ((i : Int) + 1) = ((i + 1 : Nat) : Int) := by rw [wrap_in _ (by omega) (by omega)]; omega
      rw [if_pos (by omega), if_pos (by omega), bt_nat s i hlt, hw1]
      by_cases h36 : s[i] = 36
      · rw [if_pos (by rw [h36]; rfl)]
        by_cases hend : i + 1 = s.size
        · rw [if_pos (by omega), doing_none hD hlt h36 hend]
        · have hk1 : i + 1 < s.size := by omega
          have hw2 : wrap64 (((i + 1 : Nat) : Int) + 1) = ((i + 2 : Nat) : Int) := by rw [wrap_in _ (by omega) (by omega)]; omega
          have h256 : s[i + 1].toNat < 256 := UInt8.toNat_lt _
          have hv : wrap64 ((wrap64 (s[i + 1].toNat : Int)) - 48) = (s[i + 1].toNat : Int) - 48 := by rw [wrap_in (s[i + 1].toNat : Int) (by omega) (by omega), wrap_in _ (by omega) (by omega)]
          rw [if_neg (by omega), if_pos (by omega), if_pos (by omega), bt_nat s (i + 1) hk1, hw2, hv]
          by_cases hd : s[i + 1] = 36
          · rw [if_pos (by rw [hd]; rfl), if_pos (by rw [hsz]; omega), ba_app]
            exact refill took s hs ht hl k (i + 2) _ (by omega) (by omega) (doing_dollar hD hk1 h36 hd)
          · have hdn : s[i + 1].toNat ≠ 36 := fun h => hd (UInt8.toNat_inj.1 (by rw [h]; rfl))
            rw [if_neg (by omega)]
            by_cases hb : s[i + 1].toNat < 49 ∨ 57 < s[i + 1].toNat ∨ took.length < s[i + 1].toNat - 48
            · rw [doing_bad hD hk1 h36 hd hb]
              by_cases h1 : s[i + 1].toNat < 49
              · rw [if_pos (by omega)]
              · rw [if_neg (by omega)]
                by_cases h2 : 57 < s[i + 1].toNat
                · rw [if_pos (by omega)]
                · rw [if_neg (by omega), if_pos (by omega)]
            · have hq : wrap64 ((s[i + 1].toNat : Int) - 48 - 1) = ((s[i + 1].toNat - 49 : Nat) : Int) := by rw [wrap_in _ (by omega) (by omega)]; omega
              rw [if_neg (by omega), if_neg (by omega), if_neg (by omega), hq, if_pos (by omega), if_pos (by omega)]
              have hrd : rdOf ByteArray.empty took ((s[i + 1].toNat - 49 : Nat) : Int) = took.getD (s[i + 1].toNat - 49) ByteArray.empty := by simp [rdOf]
              rw [hrd]
              generalize hx : took.getD (s[i + 1].toNat - 49) ByteArray.empty = x
              have hxs : x.size ≤ 100000 := by
                have hin : s[i + 1].toNat - 49 < took.length := by omega
                rw [← hx, List.getD_eq_getElem?_getD, List.getElem?_eq_getElem hin]
                exact ht _ (List.getElem_mem hin)
              rw [if_pos (by rw [hsz]; omega), ba_app]
              exact refill took s hs ht hl k (i + 2) _ (by omega) (by omega) (doing_took hD hk1 h36 hd hb x hx hxs)
      · have hdn : s[i].toNat ≠ 36 := fun h => h36 (UInt8.toNat_inj.1 (by rw [h]; rfl))
        rw [if_neg (by omega), if_pos (by omega), if_pos (by omega)]
        simp only [Int.toNat_natCast]
        have h1 := one_byte s i hlt
        have h1s : (s.extract i (i + 1)).size = 1 := by rw [← ByteArray.size_data, ← Array.length_toList, h1]; rfl
        rw [if_pos (by rw [hsz, h1s]; omega), ba_app, h1]
        exact refill took s hs ht hl k (i + 1) _ (by omega) (by omega) (doing_plain hD hlt h36)
    · obtain rfl : i = s.size := by omega
      rw [if_neg (by omega), doing_end hD]
      congr 2
      exact decide_eq_decide.2 (by omega)
end Go.Proofs.YtcikjeiebpmmcaaGreat.PureMch
