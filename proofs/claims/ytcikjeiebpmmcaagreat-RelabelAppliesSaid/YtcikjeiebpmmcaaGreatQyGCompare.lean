/- Pruned. -/
import Derived.Test.YtcikjeiebpmmcaaGreatQyGBase
import Derived.WalkLawsBesides
import Derived.Outline
namespace Go.Proofs.YtcikjeiebpmmcaaGreat
open Go.RowKit Go.Proofs.YtcikjeiebpmmcaaGreatW.PrintWords Go.Proofs.YtcikjeiebpmmcaaGreatW.PrintLast Go.Proofs.YtcikjeiebpmmcaaGreatW.PrintMore
set_option linter.unusedVariables false
set_option linter.unusedSimpArgs false
theorem less_cons (a b : UInt8) (x y : List UInt8) : Op.bytesLess (a :: x) (b :: y) = (a < b || (a == b && Op.bytesLess x y)) := by
  simp [Op.bytesLess]
theorem greater_of : ∀ (x y : List UInt8), (!Op.bytesLess x y && !(x == y)) = Op.bytesLess y x
  | [], [] => by simp [Op.bytesLess]
  | [], _ :: _ => by simp [Op.bytesLess]
  | _ :: _, [] => by simp [Op.bytesLess]
  | a :: x, b :: y => by
    have ih := greater_of x y
    rw [less_cons, less_cons, ← ih, List.cons_beq_cons]
    by_cases h1 : a < b
    · have h2 : ¬ b < a := by rw [UInt8.lt_iff_toNat_lt] at *; omega
      have h3 : ¬ b = a := by rintro rfl; exact h2 h1
      simp [h1, h2, h3]
    · by_cases h2 : b < a
      · have h3 : ¬ a = b := by rintro rfl; exact h1 h2
        simp [h1, h2, h3]
      · have h3 : a = b := by
          rw [UInt8.lt_iff_toNat_lt] at h1 h2
          exact UInt8.toNat_inj.1 (by omega)
        subst h3
        simp [h1]
theorem compare_calls (a0 a1 : ByteArray) (w : World) :
    Calls Tryz.prog 48 #[.string a0, .string a1] w fun e w' => e = .returned (.int .i64 (if Op.bytesLess a0.toList a1.toList then (-1) else if Op.bytesLess a1.toList a0.toList then 1 else 0)) ∧ Drawn0 w w' := by
  rw [← greater_of a0.toList a1.toList]
  by_cases h1 : Op.bytesLess a0.toList a1.toList = true
  · go_enter Tryz.func48, Tryz.ntmps48
    go_wp2
    go_ret
    exact ⟨by simp [h1], ⟨0, rfl⟩⟩
  · replace h1 : Op.bytesLess a0.toList a1.toList = false := by simpa using h1
    by_cases h2 : (a0.toList == a1.toList) = true
    · go_enter Tryz.func48, Tryz.ntmps48
      go_wp2
      all_goals (go_ret; exact ⟨by first | rfl | (simp [h1, h2]; done) | (exfalso; simp_all; done), ⟨0, rfl⟩⟩)
    · replace h2 : (a0.toList == a1.toList) = false := by simpa using h2
      go_enter Tryz.func48, Tryz.ntmps48
      go_wp2
      all_goals (go_ret; exact ⟨by first | rfl | (simp [h1, h2]; done) | (exfalso; simp_all; done), ⟨0, rfl⟩⟩)
end Go.Proofs.YtcikjeiebpmmcaaGreat
