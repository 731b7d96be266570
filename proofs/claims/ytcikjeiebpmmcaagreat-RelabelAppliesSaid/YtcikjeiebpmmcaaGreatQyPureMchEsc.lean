/- A text of this claim, pruned by a program of the session (prune.py) to what the theorem rests on. -/
import Derived.Test.YtcikjeiebpmmcaaGreatQyPMchx0
import Derived.Test.YtcikjeiebpmmcaaGreatQyPMchx1
import Derived.Test.YtcikjeiebpmmcaaGreatQyPMchx2
import Derived.Test.YtcikjeiebpmmcaaGreatQyPMchx3
import Derived.Test.YtcikjeiebpmmcaaGreatQyPMchx4
import Derived.Test.YtcikjeiebpmmcaaGreatQyPMchx5
import Derived.Test.YtcikjeiebpmmcaaGreatQyPMchx6
import Derived.Test.YtcikjeiebpmmcaaGreatQyPMchx7
import Derived.Test.YtcikjeiebpmmcaaGreatQyPMchx8
import Derived.Test.YtcikjeiebpmmcaaGreatQyPMchx9
import Derived.Test.YtcikjeiebpmmcaaGreatQyPMchx10
import Derived.Test.YtcikjeiebpmmcaaGreatQyPMchx11
import Derived.Test.YtcikjeiebpmmcaaGreatQyPMchx12
import Derived.Test.YtcikjeiebpmmcaaGreatQyPMchx13
import Derived.Test.YtcikjeiebpmmcaaGreatQyPMchx14
import Derived.Test.YtcikjeiebpmmcaaGreatQyPMchx15
import Derived.Test.YtcikjeiebpmmcaaGreatQyPMchx16
import Derived.Test.YtcikjeiebpmmcaaGreatQyPMchx17
import Derived.Test.YtcikjeiebpmmcaaGreatQyPMchx18
import Derived.Test.YtcikjeiebpmmcaaGreatQyPMchx19
import Derived.Test.YtcikjeiebpmmcaaGreatQyPMchx20
import Derived.Test.YtcikjeiebpmmcaaGreatQyPureMchByt
namespace Go.Proofs.YtcikjeiebpmmcaaGreat.PureMch
open Go.RowKit Go.Proofs.YtcikjeiebpmmcaaGreat Go.Proofs.YtcikjeiebpmmcaaGreat.PMch Go.Proofs.YtcikjeiebpmmcaaGreatW.PrintWords
set_option linter.unusedVariables false
set_option linter.unusedSimpArgs false
theorem refEscape_go (s : ByteArray) (hs : s.size ≤ 1099511627776) : ∀ (n k i : Nat) (bs : List UInt8), i + n = s.size → n < k → bs.length ≤ 2 * i →
    odometerref03_Escape.l0 k s (nb bs) (i : Int) = some ⟨(bs ++ (s.data.toList.drop i).flatMap escByte).toArray⟩
  | 0, k + 1, i, bs, h, hk, hb => by
    have hsz : s.data.toList.length = s.size := by simp
    obtain rfl : i = s.size := by omega
    rw [odometerref03_Escape.l0, if_neg (by omega), List.drop_of_length_le (by omega), str_nb]
    simp
  | n + 1, k + 1, i, bs, h, hk, hb => by
    have hsz : s.data.toList.length = s.size := by simp
    have hi : i < s.size := by omega
    have hw : wrap64 ((i : Int) + 1) = ((i + 1 : Nat) : Int) := by rw [wrap_of] <;> omega
    have hlen : (nb bs).length < 140737488355328 := by rw [nb_length]; omega
    rw [odometerref03_Escape.l0, if_pos (by omega), if_pos (by omega), List.drop_eq_getElem_cons (by omega), bt_get s i hi, hw]
    generalize s.data.toList[i]'(by omega) = c
    have e34 : ((c.toNat : Int) = 34) = (c = 34) := byte_iff c 34
    have e10 : ((c.toNat : Int) = 10) = (c = 10) := byte_iff c 10
    have e92 : ((c.toNat : Int) = 92) = (c = 92) := byte_iff c 92
    simp only [e34, e10, e92, Option.bind_some]
    have t1 : nb bs ++ [92, 110] = nb (bs ++ [92, 110]) := nb_two bs 92 110
    have t2 : nb bs ++ [92, (c.toNat : Int)] = nb (bs ++ [92, c]) := nb_two bs 92 c
    have hl2 : (nb bs).length + 2 < 140737488355328 := by rw [nb_length]; omega
    have hrec : ∀ m : List UInt8, m.length ≤ 2 → odometerref03_Escape.l0 k s (nb (bs ++ m)) ((i + 1 : Nat) : Int) = some ⟨((bs ++ m) ++ (s.data.toList.drop (i + 1)).flatMap escByte).toArray⟩ := fun m hm =>
      refEscape_go s hs n k (i + 1) (bs ++ m) (by omega) (by omega) (by simp; omega)
    rw [List.flatMap_cons, ← List.append_assoc]
    unfold escByte at *
    by_cases h10 : c = 10
    · rw [if_pos h10, if_pos (by simpa using hl2), t1, hrec _ (by simp)]
      subst h10
      rfl
    · rw [if_neg h10]
      by_cases h92 : c = 92
      · rw [if_pos h92, if_pos (by simpa using hl2), t2, hrec _ (by simp)]
        subst h92
        rfl
      · rw [if_neg h92]
        by_cases h34 : c = 34
        · rw [if_pos h34, if_pos (by simpa using hl2), t2, hrec _ (by simp)]
          subst h34
          rfl
        · rw [if_neg h34, if_pos hlen, nb_snoc, hrec _ (by simp)]
          simp [h10, h92, h34]
theorem refEscape_f (k : Nat) (s : ByteArray) (hs : s.size ≤ 1099511627776) (hk : s.size + 1 ≤ k) : odometerref03_Escape.f k s = some ⟨(s.data.toList.flatMap escByte).toArray⟩ := by
  have h := refEscape_go s hs s.size k 0 [] (by omega) (by omega) (by simp)
  rw [List.drop_zero, List.nil_append] at h
  exact h
end Go.Proofs.YtcikjeiebpmmcaaGreat.PureMch
