/- A text of this claim, pruned by a program of the session (prune.py) to what the theorem rests on. -/
import Derived.Test.YtcikjeiebpmmcaaGreatQyPMchx0
import Derived.Test.YtcikjeiebpmmcaaGreatQyPMchx1
import Derived.Test.YtcikjeiebpmmcaaGreatQyPMchx2
import Derived.Test.YtcikjeiebpmmcaaGreatQyPMchx3
import Derived.Test.YtcikjeiebpmmcaaGreatQyPMchx4
import Derived.Test.YtcikjeiebpmmcaaGreatQyPMchx5
import Derived.Test.YtcikjeiebpmmcaaGreatQyPMchx6
import Derived.Test.YtcikjeiebpmmcaaGreatQyPMchx7
import Derived.Test.YtcikjeiebpmmcaaGreatQyPMchx8
import Derived.Test.YtcikjeiebpmmcaaGreatQyPMchx9
import Derived.Test.YtcikjeiebpmmcaaGreatQyPMchx10
import Derived.Test.YtcikjeiebpmmcaaGreatQyPMchx11
import Derived.Test.YtcikjeiebpmmcaaGreatQyPMchx12
import Derived.Test.YtcikjeiebpmmcaaGreatQyPMchx13
import Derived.Test.YtcikjeiebpmmcaaGreatQyPMchx14
import Derived.Test.YtcikjeiebpmmcaaGreatQyPMchx15
import Derived.Test.YtcikjeiebpmmcaaGreatQyPMchx16
import Derived.Test.YtcikjeiebpmmcaaGreatQyPMchx17
import Derived.Test.YtcikjeiebpmmcaaGreatQyPMchx18
import Derived.Test.YtcikjeiebpmmcaaGreatQyPMchx19
import Derived.Test.YtcikjeiebpmmcaaGreatQyPMchx20
namespace Go.Proofs.YtcikjeiebpmmcaaGreat.PureMch
open Go.RowKit Go.Proofs.YtcikjeiebpmmcaaGreat Go.Proofs.YtcikjeiebpmmcaaGreat.PMch Go.Proofs.YtcikjeiebpmmcaaGreatW.PrintWords
set_option linter.unusedVariables false
set_option linter.unusedSimpArgs false
def nb (l : List UInt8) : List Int := l.map fun b => (b.toNat : Int)
theorem nb_snoc (l : List UInt8) (c : UInt8) : nb l ++ [(c.toNat : Int)] = nb (l ++ [c]) := by simp [nb]
theorem nb_two (l : List UInt8) (c d : UInt8) : nb l ++ [(c.toNat : Int), (d.toNat : Int)] = nb (l ++ [c, d]) := by simp [nb]
theorem nb_length (l : List UInt8) : (nb l).length = l.length := by simp [nb]
theorem str_nb (l : List UInt8) : strOfNums (nb l) = ⟨l.toArray⟩ := by
  unfold strOfNums nb
  rw [List.map_map]
  congr 2
  conv => rhs; rw [← List.map_id l]
  apply List.map_congr_left
  intro b _
  simp
theorem byte_iff (c d : UInt8) : ((c.toNat : Int) = (d.toNat : Int)) = (c = d) := by
  apply propext
  rw [← UInt8.toNat_inj]
  omega
theorem bt_get (s : ByteArray) (i : Nat) (h : i < s.size) : bt s (i : Int) = ((s.data.toList[i]'(by simpa using h)).toNat : Int) := by
  rw [← bt_at s (i : Int) (by simpa using h)]
  rfl
theorem bytes_eta (s : ByteArray) : (⟨s.data.toList.toArray⟩ : ByteArray) = s := by cases s; simp
end Go.Proofs.YtcikjeiebpmmcaaGreat.PureMch
