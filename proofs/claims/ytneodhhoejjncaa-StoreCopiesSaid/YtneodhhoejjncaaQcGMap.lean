/- A text of this claim, pruned by a program of the session (prune.py) to what the theorem rests on. -/
import Derived.Maps.Own
import Derived.Maps.OwnSet
import Derived.Maps.OwnOps
import Derived.Maps.RangeWalk
import Derived.StringKeys
import Derived.Below
import Derived.Deep.Draws
namespace Go.Proofs.Ytneodhhoejjncaa
open Go.RowKit Go.Maps
set_option linter.unusedVariables false
set_option linter.unusedSimpArgs false
def holdR (v : Value) : Option (DataW Value × List MemPlace) := some (.held v, [])
structure KeyT (P : Program) (k : TypeId) (α : Type) where
  lit : α → Lit
  val : α → Value
  ok : α → Prop
  keyed : Keyed P k
  key : ∀ x, ok x → keyOf P k (val x) = some (lit x)
  inv : ∀ v l, keyOf P k v = some l → ∃ x, ok x ∧ v = val x ∧ l = lit x
  inj : ∀ x y, lit x = lit y → x = y
theorem bytes_of_data {s t : ByteArray} (h : s.data.toList = t.data.toList) : s = t := by
  apply ByteArray.ext
  exact Array.toList_inj.1 h
noncomputable def strKey {P : Program} {k : TypeId} (h : P.underlying k = some .string) : KeyT P k ByteArray where
  lit s := .string s.data.toList
  val s := .string s
  ok s := s.size ≤ maxLen
  keyed := string_keyed h
  key s hs := WideMaps.keyOf_string_mk h hs
  inv v l hv := by
    obtain ⟨s, e1, e2, e3⟩ := WideMaps.string_of_keyOf h hv
    exact ⟨s, e3, e1, e2⟩
  inj x y he := bytes_of_data (Lit.string.inj he)
section
variable {P : Program} {k : TypeId} {α : Type}
def Here (D : DataW Value) (l : Lit) : Option Value → Prop
  | none => Maps.has D l = false
  | some v => Maps.has D l = true ∧ ∀ z, D.atKey l z = .held v
def MapAt (K : KeyT P k α) (w : World) (b : Nat) (f : α → Option Value) (cnt : Nat) : Prop :=
  ∃ D, w.ownsMap P k holdR b cnt D ∧ Maps.size D = cnt ∧ ∀ x, K.ok x → Here D (K.lit x) (f x)
variable {K : KeyT P k α} {w : World} {b : Nat} {f : α → Option Value} {cnt : Nat}
theorem isKey (K : KeyT P k α) {x : α} (hx : K.ok x) : WideAt.IsKeyLit (K.lit x) := K.keyed.key (K.key x hx)
theorem own_tight {R : Value → Option (DataW Value × List MemPlace)} {n : Nat} {D : DataW Value} (h : w.ownsMap P k R b n D) : w.ownsMap P k R b (Maps.size D) D := by
  obtain ⟨es, clock, hb, F, hs, hD⟩ := h
  refine ⟨es, clock, hb, F, ?_, hD⟩
  rw [hD]
  simp [Maps.size, length_sorted]
theorem here_has {D : DataW Value} {l : Lit} {o : Option Value} (h : Here D l o) : Maps.has D l = o.isSome := by
  cases o with
  | none => exact h
  | some v => exact h.1
theorem here_at {D : DataW Value} {l : Lit} {o : Option Value} (h : Here D l o) (z : Value) : D.atKey l (.held z) = .held (o.getD z) := by
  cases o with
  | none => exact Maps.atKey_of_not_has h _
  | some v => exact h.2 _
theorem MapAt.made (K : KeyT P k α) (w : World) : MapAt K (w.alloc (.map #[] 0)) w.heap.size (fun _ => none) 0 :=
  ⟨.map [], World.ownsMap_made w P k holdR, rfl, fun _ _ => rfl⟩
theorem MapAt.lt (h : MapAt K w b f cnt) : b < w.heap.size := by
  obtain ⟨D, h1, _⟩ := h
  exact h1.lt
theorem MapAt.obj (h : MapAt K w b f cnt) : ∃ es clock, w.heap[b]? = some (.map es clock) := by
  obtain ⟨D, ⟨es, clock, hb, _⟩, _⟩ := h
  exact ⟨es, clock, hb⟩
theorem MapAt.kept {w' : World} (h : MapAt K w b f cnt) (hb : w'.heap[b]? = w.heap[b]?) : MapAt K w' b f cnt := by
  obtain ⟨D, ⟨es, clock, h1, h2⟩, h3⟩ := h
  exact ⟨D, ⟨es, clock, hb.trans h1, h2⟩, h3⟩
theorem MapAt.alloc (h : MapAt K w b f cnt) (o : Obj) : MapAt K (w.alloc o) b f cnt := h.kept (Below.heap_alloc w o b h.lt)
theorem MapAt.grown {w' : World} {row : Option Nat} (h : MapAt K w b f cnt) (hg : w.grownBy w' row) (hne : some b ≠ row) : MapAt K w' b f cnt := h.kept (hg.block b h.lt hne)
theorem MapAt.below {w' : World} (h : MapAt K w b f cnt) (hb : Below w.heap.size w w') : MapAt K w' b f cnt := h.kept (hb.block b h.lt)
theorem MapAt.congr {g : α → Option Value} (h : MapAt K w b f cnt) (hg : ∀ x, K.ok x → f x = g x) : MapAt K w b g cnt := by
  obtain ⟨D, h1, h2, h3⟩ := h
  exact ⟨D, h1, h2, fun x hx => by rw [← hg x hx]; exact h3 x hx⟩
def upd [DecidableEq α] (f : α → Option Value) (x : α) (v : Option Value) : α → Option Value := fun y => if y = x then v else f y
theorem upd_same [DecidableEq α] (f : α → Option Value) (x : α) (v : Option Value) : upd f x v x = v := if_pos rfl
theorem upd_other [DecidableEq α] (f : α → Option Value) (x : α) (v : Option Value) {y : α} (h : y ≠ x) : upd f x v y = f y := if_neg h
theorem MapAt.put [DecidableEq α] {t e : TypeId} (h : MapAt K w b f cnt) (ht : P.underlying t = some (.map k e)) (hn : cnt < maxLen) {x : α} (hx : K.ok x) (v : Value) :
    ∃ w', (Instr.mapUpdate t (.map (some b)) (K.val x) v).run P w = .ok () w' ∧ MapAt K w' b (upd f x (some v)) (if (f x).isSome then cnt else cnt + 1) ∧ w.grownBy w' (some b) := by
  obtain ⟨D, h1, h2, h3⟩ := h
  obtain ⟨w', hrun, r1, r2⟩ := h1.update K.keyed ht hn (K.key x hx) (show holdR v = some (.held v, []) from rfl)
  have hs := Maps.size_put (h1.tidy K.keyed) (k := K.lit x) (.held v)
  rw [here_has (h3 x hx), h2] at hs
  refine ⟨w', hrun, ⟨_, by rw [← hs]; exact own_tight r1, hs, fun y hy => ?_⟩, r2⟩
  by_cases e : y = x
  · subst e
    rw [upd_same]
    exact ⟨Maps.has_put_same h1.isMap (isKey K hy) _, fun z => Maps.atKey_put_same h1.isMap (isKey K hy) _ _⟩
  · have hne : K.lit y ≠ K.lit x := fun h => e (K.inj _ _ h)
    rw [upd_other _ _ _ e]
    have := h3 y hy
    cases hfy : f y with
    | none =>
      rw [hfy] at this
      exact (Maps.has_put_other hne _).trans this
    | some u =>
      rw [hfy] at this
      exact ⟨(Maps.has_put_other hne _).trans this.1, fun z => (Maps.atKey_put_other hne _ _).trans (this.2 z)⟩
def putW (P : Program) (t : TypeId) (b : Nat) (key v : Value) (W : World) : World := match (Instr.mapUpdate t (.map (some b)) key v).run P W with
  | .ok _ w' => w'
  | _ => W
theorem MapAt.putW [DecidableEq α] {t e : TypeId} (h : MapAt K w b f cnt) (ht : P.underlying t = some (.map k e)) (hn : cnt < maxLen) {x : α} (hx : K.ok x) (v : Value) :
    (Instr.mapUpdate t (.map (some b)) (K.val x) v).run P w = .ok () (putW P t b (K.val x) v w) ∧ MapAt K (putW P t b (K.val x) v w) b (upd f x (some v)) (if (f x).isSome then cnt else cnt + 1) ∧ w.grownBy (putW P t b (K.val x) v w) (some b) := by
  obtain ⟨w', h1, h2, h3⟩ := h.put ht hn hx v
  have e : Go.Proofs.Ytneodhhoejjncaa.putW P t b (K.val x) v w = w' := by
    unfold Go.Proofs.Ytneodhhoejjncaa.putW
    rw [h1]
  rw [e]
  exact ⟨h1, h2, h3⟩
theorem MapAt.del [DecidableEq α] {t e : TypeId} (h : MapAt K w b f cnt) (ht : P.underlying t = some (.map k e)) {x : α} (hx : K.ok x) (ty : TypeId) :
    ∃ w', (Builtin.delete_ #[t, k] ty #[.map (some b), K.val x]).run P w = .ok (.tuple #[]) w' ∧ MapAt K w' b (upd f x none) (if (f x).isSome then cnt - 1 else cnt) ∧ w.mapTurned w' b := by
  obtain ⟨D, h1, h2, h3⟩ := h
  obtain ⟨w', hrun, r1, r2⟩ := h1.drop K.keyed ht (K.key x hx) ty
  have hs := Maps.size_del (h1.tidy K.keyed) (k := K.lit x)
  rw [here_has (h3 x hx), h2] at hs
  have hs2 : Maps.size (D.del (K.lit x)) = if (f x).isSome then cnt - 1 else cnt := by
    cases hf : (f x).isSome with
    | true => rw [hf, if_pos rfl] at hs; rw [if_pos rfl]; omega
    | false => rw [hf, if_neg (by simp)] at hs; rw [if_neg (by simp)]; omega
  refine ⟨w', hrun, ⟨_, by rw [← hs2]; exact own_tight r1, hs2, fun y hy => ?_⟩, r2⟩
  by_cases e : y = x
  · subst e
    rw [upd_same]
    exact Maps.has_del_same
  · have hne : K.lit y ≠ K.lit x := fun h => e (K.inj _ _ h)
    rw [upd_other _ _ _ e]
    have := h3 y hy
    cases hfy : f y with
    | none =>
      rw [hfy] at this
      exact (Maps.has_del_other hne).trans this
    | some u =>
      rw [hfy] at this
      exact ⟨(Maps.has_del_other hne).trans this.1, fun z => (Maps.atKey_del_other hne _).trans (this.2 z)⟩
theorem MapAt.lookOk {t e : TypeId} (h : MapAt K w b f cnt) (ht : P.underlying t = some (.map k e)) {z : Value} (hz : (zeroValue e).run P w = .ok z w) {x : α} (hx : K.ok x) :
    (Instr.lookup t (.map (some b)) (K.val x) true).run P w = .ok (.tuple #[(f x).getD z, .bool (f x).isSome]) w := by
  obtain ⟨D, h1, h2, h3⟩ := h
  obtain ⟨v, ps, hrun, hR⟩ := h1.look_ok K.keyed ht hz (show holdR z = some (.held z, []) from rfl) (K.key x hx)
  rw [here_at (h3 x hx), here_has (h3 x hx)] at *
  have e1 : (DataW.held v : DataW Value) = .held ((f x).getD z) := congrArg Prod.fst (Option.some.inj (show some (DataW.held v, ([] : List MemPlace)) = some (.held ((f x).getD z), ps) from hR))
  cases e1
  exact hrun
theorem MapAt.look {t e : TypeId} (h : MapAt K w b f cnt) (ht : P.underlying t = some (.map k e)) {z : Value} (hz : (zeroValue e).run P w = .ok z w) {x : α} (hx : K.ok x) :
    (Instr.lookup t (.map (some b)) (K.val x) false).run P w = .ok ((f x).getD z) w := by
  obtain ⟨D, h1, h2, h3⟩ := h
  obtain ⟨v, ps, hrun, hR⟩ := h1.lookup K.keyed ht hz (show holdR z = some (.held z, []) from rfl) (K.key x hx)
  rw [here_at (h3 x hx)] at hR
  have e1 : (DataW.held v : DataW Value) = .held ((f x).getD z) := congrArg Prod.fst (Option.some.inj (show some (DataW.held v, ([] : List MemPlace)) = some (.held ((f x).getD z), ps) from hR))
  cases e1
  exact hrun
theorem MapAt.len {t e : TypeId} (h : MapAt K w b f cnt) (ht : P.underlying t = some (.map k e)) (ty : TypeId) : (Builtin.len_ #[t] ty #[.map (some b)]).run P w = .ok (.int .i64 cnt) w := by
  obtain ⟨D, h1, h2, h3⟩ := h
  have := h1.len ht ty
  rwa [h2] at this
def RangeAt (K : KeyT P k α) (w : World) (b r : Nat) (f : α → Option Value) (cnt : Nat) (left : α → Bool) (todo : Nat) : Prop :=
  ∃ D lf, w.ranges P k holdR b r cnt D lf todo ∧ Maps.size D = cnt ∧ (∀ x, K.ok x → Here D (K.lit x) (f x)) ∧ (∀ x, K.ok x → lf (K.lit x) = left x) ∧ ∀ l, lf l = true → ∃ x, K.ok x ∧ l = K.lit x
variable {r todo : Nat} {left : α → Bool}
theorem RangeAt.owns (h : RangeAt K w b r f cnt left todo) : MapAt K w b f cnt := by
  obtain ⟨D, lf, h1, h2, h3, _⟩ := h
  exact ⟨D, h1.owns, h2, h3⟩
theorem RangeAt.left_eq (h : RangeAt K w b r f cnt left todo) : w.rangeLeft b r = todo := by
  obtain ⟨D, lf, h1, _⟩ := h
  exact h1.left_eq
theorem RangeAt.lt (h : RangeAt K w b r f cnt left todo) : r < w.heap.size := by
  obtain ⟨D, lf, h1, _⟩ := h
  exact h1.lt
theorem RangeAt.obj (h : RangeAt K w b r f cnt left todo) : ∃ m s seen c0, w.heap[r]? = some (.mapIter m s seen c0) := by
  obtain ⟨D, lf, ⟨es, clock, since, seen, c0, hb, F, hs, hD, hr, _⟩, _⟩ := h
  exact ⟨_, _, _, _, hr⟩
theorem RangeAt.kept {w' : World} (h : RangeAt K w b r f cnt left todo) (hb : w'.heap[b]? = w.heap[b]?) (hr : w'.heap[r]? = w.heap[r]?) : RangeAt K w' b r f cnt left todo := by
  obtain ⟨D, lf, ⟨es, clock, since, seen, c0, h1, h2, h3, h4, h5, h6⟩, h7⟩ := h
  exact ⟨D, lf, ⟨es, clock, since, seen, c0, hb.trans h1, h2, h3, h4, hr.trans h5, h6⟩, h7⟩
theorem key_of_has {D : DataW Value} {n : Nat} {R : Value → Option (DataW Value × List MemPlace)} (h : w.ownsMap P k R b n D) (K : KeyT P k α) {l : Lit} (hl : Maps.has D l = true) : ∃ x, K.ok x ∧ l = K.lit x := by
  obtain ⟨es, clock, hb, F, hs, rfl⟩ := h
  obtain ⟨p, hp, hpk⟩ := List.any_eq_true.1 (show (((es.toList.map (WideElems.rg P k R)).foldr DataW.insert []).any fun p => p.1.sameKey l) = true from hl)
  obtain ⟨x, hx, rfl⟩ := List.mem_map.1 (mem_sorted.1 hp)
  obtain ⟨y, hy⟩ := F.reads x hx
  have e1 := WideAt.sameKey_eq hpk
  rw [WideElems.rg_of hy] at e1
  obtain ⟨a, ha, _, h2⟩ := K.inv _ _ (WideElems.rd_key hy)
  exact ⟨a, ha, by rw [← e1, h2]⟩
theorem MapAt.range {t e : TypeId} (h : MapAt K w b f cnt) (ht : P.underlying t = some (.map k e)) :
    ∃ w', (Instr.range t (.map (some b))).run P w = .ok (.pointer (some ⟨w.heap.size, 0, none⟩)) w' ∧ RangeAt K w' b w.heap.size f cnt (fun x => (f x).isSome) cnt ∧ w.grownBy w' none ∧ w'.heap.size = w.heap.size + 1 := by
  obtain ⟨D, h1, h2, h3⟩ := h
  obtain ⟨w', hrun, r1, r2, r3⟩ := h1.range K.keyed ht
  rw [h2] at r1
  exact ⟨w', hrun, ⟨D, _, r1, h2, h3, fun x hx => here_has (h3 x hx), fun l hl => key_of_has h1 K hl⟩, r2, r3⟩
theorem strike_at [DecidableEq α] {lf : Lit → Bool} {x : α} (hx : K.ok x) (hl : ∀ x, K.ok x → lf (K.lit x) = left x) (y : α) (hy : K.ok y) :
    (lf (K.lit y) && !(K.lit y).sameKey (K.lit x)) = (left y && !decide (y = x)) := by
  rw [hl y hy]
  congr 2
  by_cases e : y = x
  · subst e
    rw [decide_eq_true rfl]
    exact WideAt.sameKey_self (isKey K hy)
  · rw [decide_eq_false e]
    exact Maps.sameKey_ne fun h => e (K.inj _ _ h)
section
variable {ops : Array Oper} {rest : List Oper} {o : Oper} {a : Act} {Q : Exit → Act → World → Prop}
theorem wpList_rangeM (hg : o.guard = none) (m : Operand) (t : TypeId) (hop : o.op = Op.range t m) (e : TypeId) (ht : P.underlying t = some (.map k e)) (hm : a.eval m = .map (some b)) (h : MapAt K w b f cnt)
    (hK : ∀ w', RangeAt K w' b w.heap.size f cnt (fun x => (f x).isSome) cnt → w.grownBy w' none → w'.heap.size = w.heap.size + 1 → wpList P ops Q rest (a.put o.dst (.pointer (some ⟨w.heap.size, 0, none⟩))) w') :
    wpList P ops Q (o :: rest) a w := by
  refine wpList_plain hg fun K' hK' => ?_
  obtain ⟨w', hrun, r1, r2, r3⟩ := h.range ht
  unfold Oper.wp
  simp [execOp, hop, hm, hrun, Result.andThen]
  exact hK' _ _ (hK w' r1 r2 r3)
theorem wpList_nextM [DecidableEq α] (hg : o.guard = none) (it : Operand) (hop : o.op = Op.next it false) (hit : a.eval it = .pointer (some ⟨r, 0, none⟩)) (h : RangeAt K w b r f cnt left todo)
    (hDone : todo = 0 → (∀ x, K.ok x → left x = false) → wpList P ops Q rest (a.put o.dst (.tuple #[.bool false])) w)
    (hMore : ∀ (x : α) (v : Value) (w' : World) (todo' : Nat), K.ok x → left x = true → f x = some v → RangeAt K w' b r f cnt (fun y => left y && !decide (y = x)) todo' → todo' < todo → w.grownBy w' (some r) → w'.heap.size = w.heap.size →
      (Instr.entry (.pointer (some ⟨r, 0, none⟩))).run P w' = .ok (.tuple #[K.val x, v]) w' → wpList P ops Q rest (a.put o.dst (.tuple #[.bool true, K.val x, v])) w') :
    wpList P ops Q (o :: rest) a w := by
  obtain ⟨D, lf, h1, h2, h3, h4, h5⟩ := h
  refine wpList_plain hg fun K' hK' => ?_
  unfold Oper.wp
  rcases h1.next K.keyed o.type with ⟨h0, hl, hrun⟩ | ⟨key, v, kl, y, w', cnt', hkey, hlk, hv, hat, hrun, hrg, hlt, hgr, hsz, hen⟩
  · simp [execOp, hop, hit, hrun, Result.andThen]
    exact hK' _ _ (hDone h0 fun x hx => (h4 x hx).symm.trans (hl _))
  · obtain ⟨x, hx, rfl, rfl⟩ := K.inv key kl hkey
    simp [execOp, hop, hit, hrun, Result.andThen]
    refine hK' _ _ (hMore x v w' cnt' hx ((h4 x hx).symm.trans hlk) ?_ ⟨D, _, hrg, h2, h3, fun z hz => strike_at hx h4 z hz, fun l hl => h5 l (by rw [Bool.and_eq_true] at hl; exact hl.1)⟩ hlt hgr hsz hen)
    have hh := h3 x hx
    cases hf : f x with
    | none =>
      rw [hf] at hh
      have hlf : left x = false := by
        cases hq : left x with
        | false => rfl
        | true =>
          exfalso
          obtain ⟨es, clock, since, seen, c0, hb, F, hs, hD, hr, hold, _, hl1, hl2, _, _⟩ := h1
          obtain ⟨e0, he0, hke⟩ := hl2 _ ((h4 x hx).trans hq)
          have : Maps.has D (K.lit x) = true := by
            rw [hD]
            exact List.any_eq_true.2 ⟨_, mem_sorted.2 (List.mem_map.2 ⟨e0, he0, rfl⟩), by rw [hke]; exact WideAt.sameKey_self (isKey K hx)⟩
          rw [hh] at this
          cases this
      rw [← h4 x hx, hlk] at hlf
      cases hlf
    | some u =>
      rw [hf] at hh
      have e1 := (hat (.held u)).symm.trans (hh.2 _)
      have e2 : holdR v = some (.held v, []) := rfl
      rw [e2] at hv
      obtain rfl := Option.some.inj hv
      have e3 : (DataW.held v : DataW Value) = .held u := e1
      cases e3
      rfl
theorem wpList_putM [DecidableEq α] (hg : o.guard = none) (m x v : Operand) (t : TypeId) (hop : o.op = Op.mapUpdate t m x v) (e : TypeId) (ht : P.underlying t = some (.map k e)) (hm : a.eval m = .map (some b)) (h : MapAt K w b f cnt) (hn : cnt < maxLen)
    (xk : α) (hok : K.ok xk) (hx : a.eval x = K.val xk) (val : Value) (hv : a.eval v = val)
    (hK : ∀ w', MapAt K w' b (upd f xk (some val)) (if (f xk).isSome then cnt else cnt + 1) → w.grownBy w' (some b) → wpList P ops Q rest (a.put o.dst undef) w') :
    wpList P ops Q (o :: rest) a w := by
  refine wpList_plain hg fun K' hK' => ?_
  obtain ⟨w', hrun, r1, r2⟩ := h.put ht hn hok val
  unfold Oper.wp
  simp [execOp, hop, hm, hx, hv, hrun, Result.andThen]
  exact hK' _ _ (hK w' r1 r2)
theorem wpList_delM [DecidableEq α] (hg : o.guard = none) (m x : Operand) (t : TypeId) (hop : o.op = Op.call { callee := Callee.builtin Builtin.delete, args := #[m, x], argTypes := #[t, k] }) (e : TypeId) (ht : P.underlying t = some (.map k e)) (hm : a.eval m = .map (some b)) (h : MapAt K w b f cnt)
    (xk : α) (hok : K.ok xk) (hx : a.eval x = K.val xk)
    (hK : ∀ w', MapAt K w' b (upd f xk none) (if (f xk).isSome then cnt - 1 else cnt) → w.mapTurned w' b → wpList P ops Q rest (a.put o.dst (.tuple #[])) w') :
    wpList P ops Q (o :: rest) a w := by
  refine wpList_plain hg fun K' hK' => ?_
  obtain ⟨w', hrun, r1, r2⟩ := h.del ht hok o.type
  unfold Oper.wp
  simp [execOp, hop, resolve, invoke, builtin, hm, hx, hrun, Result.andThen]
  exact hK' _ _ (hK w' r1 r2)
end
end
end Go.Proofs.Ytneodhhoejjncaa
