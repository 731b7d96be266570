/- A text of this claim, pruned by a program of the session (prune.py) to what the theorem rests on. -/
import Derived.Test.YtcikjeiebpmmcaaGreatQyPMchx0
import Derived.Test.YtcikjeiebpmmcaaGreatQyPMchx1
import Derived.Test.YtcikjeiebpmmcaaGreatQyPMchx2
import Derived.Test.YtcikjeiebpmmcaaGreatQyPMchx3
import Derived.Test.YtcikjeiebpmmcaaGreatQyPMchx4
import Derived.Test.YtcikjeiebpmmcaaGreatQyPMchx5
import Derived.Test.YtcikjeiebpmmcaaGreatQyPMchx6
import Derived.Test.YtcikjeiebpmmcaaGreatQyPMchx7
import Derived.Test.YtcikjeiebpmmcaaGreatQyPMchx8
import Derived.Test.YtcikjeiebpmmcaaGreatQyPMchx9
import Derived.Test.YtcikjeiebpmmcaaGreatQyPMchx10
import Derived.Test.YtcikjeiebpmmcaaGreatQyPMchx11
import Derived.Test.YtcikjeiebpmmcaaGreatQyPMchx12
import Derived.Test.YtcikjeiebpmmcaaGreatQyPMchx13
import Derived.Test.YtcikjeiebpmmcaaGreatQyPMchx14
import Derived.Test.YtcikjeiebpmmcaaGreatQyPMchx15
import Derived.Test.YtcikjeiebpmmcaaGreatQyPMchx16
import Derived.Test.YtcikjeiebpmmcaaGreatQyPMchx17
import Derived.Test.YtcikjeiebpmmcaaGreatQyPMchx18
import Derived.Test.YtcikjeiebpmmcaaGreatQyPMchx19
import Derived.Test.YtcikjeiebpmmcaaGreatQyPMchx20
import Derived.Test.YtcikjeiebpmmcaaGreatQyPureMchUne
namespace Go.Proofs.YtcikjeiebpmmcaaGreat.PureMch
open Go.RowKit Go.Proofs.YtcikjeiebpmmcaaGreat Go.Proofs.YtcikjeiebpmmcaaGreat.PMch Go.Proofs.YtcikjeiebpmmcaaGreatW.PrintWords
set_option linter.unusedVariables false
set_option linter.unusedSimpArgs false
theorem refUnescape_go (s : ByteArray) (hs : s.size ≤ 1099511627776) : ∀ (n k i : Nat) (bs : List UInt8), i + n = s.size → n < k → bs.length ≤ i →
    odometerref03_Unescape.l0 k s (nb bs) (i : Int) = some (unescR bs (s.data.toList.drop i)) := by
  intro n
  induction n using Nat.strongRecOn with
  | _ n ih =>
    intro k i bs h hk hb
    obtain ⟨k, rfl⟩ : ∃ j, k = j + 1 := ⟨k - 1, by omega⟩
    have hsz : s.data.toList.length = s.size := by simp
    rcases Nat.eq_zero_or_pos n with h0 | h0
    · obtain rfl : i = s.size := by omega
      rw [odometerref03_Unescape.l0, if_neg (by omega), List.drop_of_length_le (by omega), unescR_nil, str_nb]
    · have hi : i < s.size := by omega
      have hw : wrap64 ((i : Int) + 1) = ((i + 1 : Nat) : Int) := by rw [wrap_of] <;> omega
      have hw2 : wrap64 (((i + 1 : Nat) : Int) + 1) = ((i + 2 : Nat) : Int) := by rw [wrap_of] <;> omega
      have hlen : (nb bs).length < 140737488355328 := by rw [nb_length]; omega
      rw [odometerref03_Unescape.l0, if_pos (by omega), if_pos (by omega), List.drop_eq_getElem_cons (by omega), bt_get s i hi, hw, hw2]
      generalize s.data.toList[i]'(by omega) = c
      have e34 : ((c.toNat : Int) = 34) = (c = 34) := byte_iff c 34
      have e10 : ((c.toNat : Int) = 10) = (c = 10) := byte_iff c 10
      have e92 : ((c.toNat : Int) = 92) = (c = 92) := byte_iff c 92
      simp only [e34, e10, e92]
      by_cases h92 : c = 92
      · rw [if_pos h92]
        subst h92
        by_cases hend : i + 1 = s.size
        · rw [if_pos (by omega), List.drop_of_length_le (by omega), unescR_end]
        · rw [if_neg (by omega), if_pos (by omega), if_pos (by omega), List.drop_eq_getElem_cons (by omega), bt_get s (i + 1) (by omega)]
          generalize s.data.toList[i + 1]'(by omega) = d
          have f110 : ((d.toNat : Int) = 110) = (d = 110) := byte_iff d 110
          have f92 : ((d.toNat : Int) = 92) = (d = 92) := byte_iff d 92
          have f34 : ((d.toNat : Int) = 34) = (d = 34) := byte_iff d 34
          simp only [f110, f92, f34]
          by_cases d110 : d = 110
          · subst d110
            rw [if_pos rfl, if_pos hlen, unescR_n]
            have := ih (n - 2) (by omega) k (i + 2) (bs ++ [10]) (by omega) (by omega) (by simp; omega)
            rw [← nb_snoc] at this
            exact this
          · rw [if_neg d110]
            by_cases d92 : d = 92
            · rw [if_pos d92, if_pos hlen, unescR_two _ _ _ d110 (Or.inl d92), nb_snoc]
              exact ih (n - 2) (by omega) k (i + 2) _ (by omega) (by omega) (by simp; omega)
            · rw [if_neg d92]
              by_cases d34 : d = 34
              · rw [if_pos d34, if_pos hlen, unescR_two _ _ _ d110 (Or.inr d34), nb_snoc]
                exact ih (n - 2) (by omega) k (i + 2) _ (by omega) (by omega) (by simp; omega)
              · rw [if_neg d34, unescR_not _ _ _ d110 (by simp [d92, d34])]
      · rw [if_neg h92]
        by_cases h34 : c = 34
        · rw [if_pos h34, unescR_bad _ _ _ (Or.inl h34)]
        · rw [if_neg h34]
          by_cases h10 : c = 10
          · rw [if_pos h10, unescR_bad _ _ _ (Or.inr h10)]
          · rw [if_neg h10, if_pos hlen, unescR_one _ _ _ (by simp [h34, h10]) h92, nb_snoc]
            exact ih (n - 1) (by omega) k (i + 1) _ (by omega) (by omega) (by simp; omega)
theorem refUnescape_f (k : Nat) (s : ByteArray) (hs : s.size ≤ 1099511627776) (hk : s.size + 1 ≤ k) : odometerref03_Unescape.f k s = some (unescR [] s.data.toList) :=
  refUnescape_go s hs s.size k 0 [] (by omega) (by omega) (by simp)
end Go.Proofs.YtcikjeiebpmmcaaGreat.PureMch
