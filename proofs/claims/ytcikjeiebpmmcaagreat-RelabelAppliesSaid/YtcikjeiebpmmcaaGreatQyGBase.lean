/- Pruned. -/
import Derived.Test.YtcikjeiebpmmcaaGreatProg
import Derived.Below
import Derived.Lib.IndexMore
import Derived.Lib.Join
import Derived.Test.YtcikjeiebpmmcaaGreatQyWords
namespace Go.Proofs.YtcikjeiebpmmcaaGreat
open Go.RowKit Go.Proofs.YtcikjeiebpmmcaaGreatW.PrintWords
set_option linter.unusedVariables false
set_option linter.unusedSimpArgs false
def SH (w : World) : Prop := ∃ m, w.cell? ⟨0, 0, none⟩ = some (.int .i64 m)
theorem SH.below {w W : World} (h : SH w) (hb : Below w.heap.size w W) : SH W := by
  obtain ⟨m, hm⟩ := h
  exact ⟨m, (hb.cell (World.block_lt_of_cell? w _ hm)).trans hm⟩
theorem setCell_drewN_at (w : World) (n : Nat) (a : Addr) (v : Value) : (w.drewN n).setCell a v = (w.setCell a v).drewN n := rfl
theorem add_none (b off n : Nat) : (⟨b, off, none⟩ : Addr).add n = ⟨b, off + n, none⟩ := by
  unfold Addr.add; split <;> simp_all
theorem C_at {α : Type} {d : Kd α} {w : World} {A : Option Addr} {n : Nat} {xs : List α} (h : Kd.C d w A n xs) (hn : 0 < n) (hs : 0 < d.sz) :
    ∃ b off, A = some ⟨b, off, none⟩ ∧ b < w.heap.size ∧ ∀ j p, xs[j]? = some p → ∃ c, c.length = d.sz ∧ d.K w p c ∧ ∀ i u, c[i]? = some u → w.cell? ⟨b, off + j * d.sz + i, none⟩ = some u := by
  obtain ⟨hl, hm, hr⟩ := h
  obtain ⟨⟨b, off, spot⟩, rfl, hc⟩ := hr hn
  have h0 : ∃ p, xs[0]? = some p := ⟨_, List.getElem?_eq_getElem (by omega)⟩
  obtain ⟨p, hp⟩ := h0
  obtain ⟨c, hcl, hK, hcell⟩ := hc 0 p hp
  have h1 : ∃ u, c[0]? = some u := ⟨_, List.getElem?_eq_getElem (by omega)⟩
  obtain ⟨u, hu⟩ := h1
  have h2 := hcell 0 u hu
  have hsp : spot = none := by
    have : (⟨b, off, spot⟩ : Addr).add (0 * d.sz + 0) = ⟨b, off, spot⟩ := by simp [Addr.add]
    rw [this] at h2
    cases spot with
    | none => rfl
    | some q =>
      simp only [World.cell?] at h2
      split at h2 <;> simp at h2
  subst hsp
  refine ⟨b, off, rfl, ?_, fun j p hp => ?_⟩
  · rw [add_none] at h2
    exact World.block_lt_of_cell? w _ h2
  · obtain ⟨c, hcl, hK, hcell⟩ := hc j p hp
    refine ⟨c, hcl, hK, fun i u hu => ?_⟩
    have := hcell i u hu
    rw [add_none, ← Nat.add_assoc] at this
    exact this
end Go.Proofs.YtcikjeiebpmmcaaGreat
