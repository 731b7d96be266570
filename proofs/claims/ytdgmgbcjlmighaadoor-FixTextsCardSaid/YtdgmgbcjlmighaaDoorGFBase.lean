import Derived.Test.YtdgmgbcjlmighaaDoorProg
import Derived.Below
import Derived.Test.YtdgmgbcjlmighaaDoorGMore
import Derived.Test.YtdgmgbcjlmighaaDoorGShelf
import Derived.Lib.OthersKept
import Derived.Laws.IdiomStrings
/-! Small words for blocks, and a text's iterator. -/
namespace Go.Proofs.YtdgmgbcjlmighaaDoor
open Go.RowKit Go.Proofs.YtdgmgbcjlmighaaDoorW.PrintWords
set_option linter.unusedVariables false
set_option linter.unusedSimpArgs false
theorem blk3_cell {w : World} {b : Nat} {x y z : Value} {t : TypeId} (h : w.heap[b]? = some (.cells #[x, y, z] t (0, 0))) (i : Nat) : w.cell? ⟨b, i, none⟩ = #[x, y, z][i]? := by simp [World.cell?, h]
theorem ownsRow_iterAt {w : World} {base : Nat} {e : TypeId} {size : Nat} {v : Value} {n : Nat} {xs : List Value} (h : w.ownsRow base e size v n xs) {k : Nat} (hk : k < base) (s : ByteArray) (p : Nat) : (w.iterAt k s p).ownsRow base e size v n xs := by
  obtain ⟨h1, h2⟩ := h
  refine ⟨h1, ?_⟩
  rcases h2 with h2 | ⟨g, cap, cur, a, b, c, d⟩
  · exact .inl h2
  · exact .inr ⟨g, cap, cur, a, b, by rw [Lib.iterAt_other _ _ _ _ _ (by omega)]; exact c, d⟩
theorem iterPos_of {w : World} {k : Nat} {s : ByteArray} {p : Nat} (h : w.heap[k]? = some (.stringIter s p)) : w.iterPos k = p := by simp [World.iterPos, h]
theorem lt_of_blk {w : World} {b : Nat} {o : Obj} (h : w.heap[b]? = some o) : b < w.heap.size := (Array.getElem?_eq_some_iff.1 h).1
theorem ownsRow_setCell {w : World} {base : Nat} {e : TypeId} {size : Nat} {v : Value} {n : Nat} {xs : List Value} (h : w.ownsRow base e size v n xs) (b i : Nat) (hb : b < base) (u : Value) : (w.setCell ⟨b, i, none⟩ u).ownsRow base e size v n xs := by
  obtain ⟨h1, h2⟩ := h
  refine ⟨h1, ?_⟩
  rcases h2 with h2 | ⟨g, cap, cur, hv, hg, hh, r⟩
  · exact Or.inl h2
  · exact Or.inr ⟨g, cap, cur, hv, hg, by rw [heap_setCell_other _ _ _ _ (by show g ≠ b; omega)]; exact hh, r⟩
theorem cell_one_new (w : World) (n : Nat) (a : Value) (t : TypeId) (hn : n = w.heap.size) : ∀ j u, [a][j]? = some u → (w.alloc (.cells #[a] t)).cell? ((⟨n, 0, none⟩ : Addr).add j) = some u := by
  subst hn
  intro j u hj
  match j, hj with
  | 0, hj => simp at hj; subst hj; simp [Addr.add]
  | j + 1, hj => simp at hj
theorem two_other {w : World} {b : Nat} {o : Obj} (h : w.heap[b]? = some o) (x y : Value) {i j : Nat} : ((w.setCell ⟨b + 1, i, none⟩ x).setCell ⟨b + 1, j, none⟩ y).heap[b]? = some o :=
  (heap_setCell_other _ _ _ _ (by show b ≠ b + 1; omega)).trans ((heap_setCell_other _ _ _ _ (by show b ≠ b + 1; omega)).trans h)
theorem below_two {B : Nat} {w0 w : World} (h : Below B w0 w) (x y : Value) {i j : Nat} : Below B w0 ((w.setCell ⟨B + 1, i, none⟩ x).setCell ⟨B + 1, j, none⟩ y) :=
  (h.setCell (by show B ≤ B + 1; omega) _).setCell (by show B ≤ B + 1; omega) _
theorem below_drawn (B : Nat) (w : World) (n : Nat) : Below B w (w.drewN n) := ⟨rfl, rfl, rfl, Nat.le_refl _, fun _ _ => rfl⟩
theorem store3 {w : World} {b : Nat} {x y z : Value} {t : TypeId} (h : w.heap[b]? = some (.cells #[x, y, z] t (0, 0))) (x' y' z' : Value) :
    (((w.setCell ⟨b, 0, none⟩ x').setCell ⟨b, 1, none⟩ y').setCell ⟨b, 2, none⟩ z').heap[b]? = some (.cells #[x', y', z'] t (0, 0)) :=
  heap_setCell_same _ _ _ _ _ _ (heap_setCell_same _ _ _ _ _ _ (heap_setCell_same _ _ _ _ _ _ h))
theorem below_store3 {B : Nat} {w0 w : World} (h : Below B w0 w) {b : Nat} (hb : B ≤ b) (x' y' z' : Value) : Below B w0 (((w.setCell ⟨b, 0, none⟩ x').setCell ⟨b, 1, none⟩ y').setCell ⟨b, 2, none⟩ z') :=
  ((h.setCell hb _).setCell hb _).setCell hb _
end Go.Proofs.YtdgmgbcjlmighaaDoor
