/- A text of this claim, pruned by a program of the session (prune.py) to what the theorem rests on. -/
import Derived.Test.YtcikjeiebpmmcaaQbPRbox0
import Derived.Test.YtcikjeiebpmmcaaQbPRbox1
import Derived.Test.YtcikjeiebpmmcaaQbPRbox2
import Derived.Test.YtcikjeiebpmmcaaQbPRbox3
import Derived.Test.YtcikjeiebpmmcaaQbPRbox4
import Derived.Test.YtcikjeiebpmmcaaQbPRbox5
import Derived.Test.YtcikjeiebpmmcaaQbPRbox6
namespace Go.Proofs.Ytcikjeiebpmmcaa.PureRbo
open Go.RowKit Go.Proofs.Ytcikjeiebpmmcaa Go.Proofs.Ytcikjeiebpmmcaa.PRbo Go.Proofs.YtcikjeiebpmmcaaW.PrintWords
set_option linter.unusedVariables false
set_option linter.unusedSimpArgs false
def nb (l : List UInt8) : List Int := l.map fun b => (b.toNat : Int)
theorem nb_snoc (l : List UInt8) (c : UInt8) : nb l ++ [(c.toNat : Int)] = nb (l ++ [c]) := by simp [nb]
theorem nb_length (l : List UInt8) : (nb l).length = l.length := by simp [nb]
theorem str_nb (l : List UInt8) : strOfNums (nb l) = ⟨l.toArray⟩ := by
  unfold strOfNums nb
  rw [List.map_map]
  congr 2
  conv => rhs; rw [← List.map_id l]
  apply List.map_congr_left
  intro b _
  simp
theorem byte_iff (c d : UInt8) : ((c.toNat : Int) = (d.toNat : Int)) = (c = d) := by
  apply propext
  rw [← UInt8.toNat_inj]
  omega
theorem bt_get (s : ByteArray) (i : Nat) (h : i < s.size) : bt s (i : Int) = ((s.data.toList[i]'(by simpa using h)).toNat : Int) := by
  rw [← bt_at s (i : Int) (by simpa using h)]
  rfl
theorem bytes_eta (s : ByteArray) : (⟨s.data.toList.toArray⟩ : ByteArray) = s := by cases s; simp
end Go.Proofs.Ytcikjeiebpmmcaa.PureRbo
