/- Pruned. -/
import Derived.Test.YtcikjeiebpmmcaaGreatQyPNamx0
import Derived.Test.YtcikjeiebpmmcaaGreatQyPNamx1
namespace Go.Proofs.YtcikjeiebpmmcaaGreat
open Go.RowKit Go.Proofs.YtcikjeiebpmmcaaGreatW.PrintWords Go.Proofs.YtcikjeiebpmmcaaGreat.PNam
set_option linter.unusedVariables false
set_option linter.unusedSimpArgs false
def okByte (more c : Int) (first : Bool) : Bool := (decide (97 ≤ c) && decide (c ≤ 122)) || (decide (65 ≤ c) && decide (c ≤ 90)) || decide (c = 95) || decide (c = more) || (!first && decide (48 ≤ c) && decide (c ≤ 57))
def okFrom (s : ByteArray) (more : Int) : Nat → Nat → Bool
  | 0, _ => true
  | n + 1, i => okByte more (bt s i) (i == 0) && okFrom s more n (i + 1)
def namedB (s : ByteArray) (more : Int) : Bool := okFrom s more s.size 0 && (decide (1 ≤ s.size) && decide (s.size ≤ 200))
theorem wrap_of (x : Int) (h1 : -9223372036854775808 ≤ x) (h2 : x < 9223372036854775808) : wrap64 x = x := by
  simp only [wrap64, IntKind.wrap, IntKind.bits, IntKind.signed]
  omega
theorem named_step (k : Nat) (s : ByteArray) (more : Int) (i : Nat) (hi : i < s.size) (hs : s.size ≤ 1099511627776) :
    label_named.l0 (k + 1) s more (s.size : Int) (i : Int) = if okByte more (bt s i) (i == 0) = true then label_named.l0 k s more (s.size : Int) ((i + 1 : Nat) : Int) else some false := by
  have hw : wrap64 ((i : Int) + 1) = ((i + 1 : Nat) : Int) := by rw [wrap_of] <;> omega
  have h0 : ((i : Int) = 0) = ((i == 0) = true) := by simp
  rw [label_named.l0, if_pos (by omega : (i : Int) < (s.size : Int)), if_pos (by omega : (0 : Int) ≤ i), if_pos (by omega : (i : Int) < (s.size : Int)), hw]
  simp only [h0]
  generalize label_named.l0 k s more (s.size : Int) ((i + 1 : Nat) : Int) = R
  generalize (i == 0) = z
  generalize bt s i = c
  unfold okByte
  by_cases h1 : 97 ≤ c <;> by_cases h2 : c ≤ 122 <;> by_cases h3 : 65 ≤ c <;> by_cases h4 : c ≤ 90 <;> by_cases h5 : c = 95 <;> by_cases h6 : c = more <;> by_cases h7 : 48 ≤ c <;> by_cases h8 : c ≤ 57 <;> cases z <;> first | omega | (simp [*, Int.not_lt.2, Int.not_le.1]; try omega)
theorem named_end (k : Nat) (s : ByteArray) (more : Int) : label_named.l0 (k + 1) s more (s.size : Int) (s.size : Int) = some (decide (1 ≤ s.size) && decide (s.size ≤ 200)) := by
  rw [label_named.l0, if_neg (by omega)]
  by_cases h : 1 ≤ s.size
  · rw [if_pos (by omega)]
    simp only [h, decide_true, Bool.true_and, Option.some.injEq, decide_eq_decide]
    omega
  · rw [if_neg (by omega)]
    simp [h]
theorem named_go (s : ByteArray) (more : Int) (hs : s.size ≤ 1099511627776) : ∀ (n k i : Nat), i + n = s.size → n < k → label_named.l0 k s more (s.size : Int) (i : Int) = some (okFrom s more n i && (decide (1 ≤ s.size) && decide (s.size ≤ 200)))
  | 0, k + 1, i, h, _ => by
    obtain rfl : i = s.size := by omega
    rw [named_end]
    simp [okFrom]
  | n + 1, k + 1, i, h, hk => by
    rw [named_step k s more i (by omega) hs, okFrom]
    cases okByte more (bt s i) (i == 0)
    · simp
    · rw [if_pos rfl, named_go s more hs n k (i + 1) (by omega) (by omega)]
      simp
theorem named_calls (s : ByteArray) (more : Int) (w : World) (hs : s.size ≤ 1099511627776) : Calls Tryz.prog 97 #[.string s, .int .u8 more] w fun e w' => e = .returned (.bool (namedB s more)) ∧ Drawn0 w w' :=
  label_named.calls (s.size + 1) s more (namedB s more) w (named_go s more hs s.size (s.size + 1) 0 (by omega) (by omega))
end Go.Proofs.YtcikjeiebpmmcaaGreat
