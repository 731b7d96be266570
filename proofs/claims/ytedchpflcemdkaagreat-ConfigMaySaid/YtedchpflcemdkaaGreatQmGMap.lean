/- A text of this claim, pruned by a program of the session (prune.py) to what the theorem rests on. -/
import Derived.Maps.Own
import Derived.Maps.OwnSet
import Derived.Maps.OwnOps
import Derived.Maps.RangeWalk
import Derived.StringKeys
import Derived.Below
import Derived.Deep.Draws
namespace Go.Proofs.YtedchpflcemdkaaGreat
open Go.RowKit Go.Maps
set_option linter.unusedVariables false
set_option linter.unusedSimpArgs false
def holdR (v : Value) : Option (DataW Value × List MemPlace) := some (.held v, [])
structure KeyT (P : Program) (k : TypeId) (α : Type) where
  lit : α → Lit
  val : α → Value
  ok : α → Prop
  keyed : Keyed P k
  key : ∀ x, ok x → keyOf P k (val x) = some (lit x)
  inv : ∀ v l, keyOf P k v = some l → ∃ x, ok x ∧ v = val x ∧ l = lit x
  inj : ∀ x y, lit x = lit y → x = y
section
variable {P : Program} {k : TypeId} {α : Type}
def Here (D : DataW Value) (l : Lit) : Option Value → Prop
  | none => Maps.has D l = false
  | some v => Maps.has D l = true ∧ ∀ z, D.atKey l z = .held v
def MapAt (K : KeyT P k α) (w : World) (b : Nat) (f : α → Option Value) (cnt : Nat) : Prop :=
  ∃ D, w.ownsMap P k holdR b cnt D ∧ Maps.size D = cnt ∧ ∀ x, K.ok x → Here D (K.lit x) (f x)
variable {K : KeyT P k α} {w : World} {b : Nat} {f : α → Option Value} {cnt : Nat}
theorem isKey (K : KeyT P k α) {x : α} (hx : K.ok x) : WideAt.IsKeyLit (K.lit x) := K.keyed.key (K.key x hx)
theorem own_tight {R : Value → Option (DataW Value × List MemPlace)} {n : Nat} {D : DataW Value} (h : w.ownsMap P k R b n D) : w.ownsMap P k R b (Maps.size D) D := by
  obtain ⟨es, clock, hb, F, hs, hD⟩ := h
  refine ⟨es, clock, hb, F, ?_, hD⟩
  rw [hD]
  simp [Maps.size, length_sorted]
theorem here_has {D : DataW Value} {l : Lit} {o : Option Value} (h : Here D l o) : Maps.has D l = o.isSome := by
  cases o with
  | none => exact h
  | some v => exact h.1
theorem here_at {D : DataW Value} {l : Lit} {o : Option Value} (h : Here D l o) (z : Value) : D.atKey l (.held z) = .held (o.getD z) := by
  cases o with
  | none => exact Maps.atKey_of_not_has h _
  | some v => exact h.2 _
theorem MapAt.made (K : KeyT P k α) (w : World) : MapAt K (w.alloc (.map #[] 0)) w.heap.size (fun _ => none) 0 :=
  ⟨.map [], World.ownsMap_made w P k holdR, rfl, fun _ _ => rfl⟩
theorem MapAt.lt (h : MapAt K w b f cnt) : b < w.heap.size := by
  obtain ⟨D, h1, _⟩ := h
  exact h1.lt
theorem MapAt.kept {w' : World} (h : MapAt K w b f cnt) (hb : w'.heap[b]? = w.heap[b]?) : MapAt K w' b f cnt := by
  obtain ⟨D, ⟨es, clock, h1, h2⟩, h3⟩ := h
  exact ⟨D, ⟨es, clock, hb.trans h1, h2⟩, h3⟩
theorem MapAt.alloc (h : MapAt K w b f cnt) (o : Obj) : MapAt K (w.alloc o) b f cnt := h.kept (Below.heap_alloc w o b h.lt)
theorem MapAt.below {w' : World} (h : MapAt K w b f cnt) (hb : Below w.heap.size w w') : MapAt K w' b f cnt := h.kept (hb.block b h.lt)
def upd [DecidableEq α] (f : α → Option Value) (x : α) (v : Option Value) : α → Option Value := fun y => if y = x then v else f y
theorem upd_same [DecidableEq α] (f : α → Option Value) (x : α) (v : Option Value) : upd f x v x = v := if_pos rfl
theorem upd_other [DecidableEq α] (f : α → Option Value) (x : α) (v : Option Value) {y : α} (h : y ≠ x) : upd f x v y = f y := if_neg h
theorem MapAt.put [DecidableEq α] {t e : TypeId} (h : MapAt K w b f cnt) (ht : P.underlying t = some (.map k e)) (hn : cnt < maxLen) {x : α} (hx : K.ok x) (v : Value) :
    ∃ w', (Instr.mapUpdate t (.map (some b)) (K.val x) v).run P w = .ok () w' ∧ MapAt K w' b (upd f x (some v)) (if (f x).isSome then cnt else cnt + 1) ∧ w.grownBy w' (some b) := by
  obtain ⟨D, h1, h2, h3⟩ := h
  obtain ⟨w', hrun, r1, r2⟩ := h1.update K.keyed ht hn (K.key x hx) (show holdR v = some (.held v, []) from rfl)
  have hs := Maps.size_put (h1.tidy K.keyed) (k := K.lit x) (.held v)
  rw [here_has (h3 x hx), h2] at hs
  refine ⟨w', hrun, ⟨_, by rw [← hs]; exact own_tight r1, hs, fun y hy => ?_⟩, r2⟩
  by_cases e : y = x
  · subst e
    rw [upd_same]
    exact ⟨Maps.has_put_same h1.isMap (isKey K hy) _, fun z => Maps.atKey_put_same h1.isMap (isKey K hy) _ _⟩
  · have hne : K.lit y ≠ K.lit x := fun h => e (K.inj _ _ h)
    rw [upd_other _ _ _ e]
    have := h3 y hy
    cases hfy : f y with
    | none =>
      rw [hfy] at this
      exact (Maps.has_put_other hne _).trans this
    | some u =>
      rw [hfy] at this
      exact ⟨(Maps.has_put_other hne _).trans this.1, fun z => (Maps.atKey_put_other hne _ _).trans (this.2 z)⟩
theorem MapAt.look {t e : TypeId} (h : MapAt K w b f cnt) (ht : P.underlying t = some (.map k e)) {z : Value} (hz : (zeroValue e).run P w = .ok z w) {x : α} (hx : K.ok x) :
    (Instr.lookup t (.map (some b)) (K.val x) false).run P w = .ok ((f x).getD z) w := by
  obtain ⟨D, h1, h2, h3⟩ := h
  obtain ⟨v, ps, hrun, hR⟩ := h1.lookup K.keyed ht hz (show holdR z = some (.held z, []) from rfl) (K.key x hx)
  rw [here_at (h3 x hx)] at hR
  have e1 : (DataW.held v : DataW Value) = .held ((f x).getD z) := congrArg Prod.fst (Option.some.inj (show some (DataW.held v, ([] : List MemPlace)) = some (.held ((f x).getD z), ps) from hR))
  cases e1
  exact hrun
variable {r todo : Nat} {left : α → Bool}
section
variable {ops : Array Oper} {rest : List Oper} {o : Oper} {a : Act} {Q : Exit → Act → World → Prop}
theorem wpList_putM [DecidableEq α] (hg : o.guard = none) (m x v : Operand) (t : TypeId) (hop : o.op = Op.mapUpdate t m x v) (e : TypeId) (ht : P.underlying t = some (.map k e)) (hm : a.eval m = .map (some b)) (h : MapAt K w b f cnt) (hn : cnt < maxLen)
    (xk : α) (hok : K.ok xk) (hx : a.eval x = K.val xk) (val : Value) (hv : a.eval v = val)
    (hK : ∀ w', MapAt K w' b (upd f xk (some val)) (if (f xk).isSome then cnt else cnt + 1) → w.grownBy w' (some b) → wpList P ops Q rest (a.put o.dst undef) w') :
    wpList P ops Q (o :: rest) a w := by
  refine wpList_plain hg fun K' hK' => ?_
  obtain ⟨w', hrun, r1, r2⟩ := h.put ht hn hok val
  unfold Oper.wp
  simp [execOp, hop, hm, hx, hv, hrun, Result.andThen]
  exact hK' _ _ (hK w' r1 r2)
end
end
end Go.Proofs.YtedchpflcemdkaaGreat
