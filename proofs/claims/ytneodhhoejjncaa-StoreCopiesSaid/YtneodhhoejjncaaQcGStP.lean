/- A text of this claim, pruned by a program of the session (prune.py) to what the theorem rests on. -/
import Derived.Test.YtneodhhoejjncaaQcGOne
namespace Go.Proofs.Ytneodhhoejjncaa
open Go.RowKit Go.Proofs.YtneodhhoejjncaaW.PrintWords
set_option linter.unusedVariables false
set_option linter.unusedSimpArgs false
abbrev StS := ByteArray → Option Lst
def er (f : StF) : StS := fun s => (f s).map (·.2)
def updS (S : StS) (s : ByteArray) (v : Option Lst) : StS := fun t => if t = s then v else S t
def oneP (most : Int) (owner : Int) (st : StS × Nat) (x : Smp) : Sn × StS × Nat :=
  match st.1 x.nm with
  | none => if most ≤ st.2 then (⟨x, 4, false, 0⟩, st) else (⟨x, 1, false, 0⟩, updS st.1 x.nm (some ⟨x, true, owner⟩), st.2 + 1)
  | some was => if x.time < was.x.time then (⟨x, 2, false, 0⟩, st) else if x.time = was.x.time then (⟨x, 3, false, 0⟩, st)
      else (⟨x, 1, was.live, if was.live then was.x.val else 0⟩, updS st.1 x.nm (some ⟨x, true, owner⟩), st.2)
theorem er_upd (f : StF) (s : ByteArray) (p : Nat) (l : Lst) : er (updF f s (some (p, l))) = updS (er f) s (some l) := by
  funext t
  unfold er updF updS
  split <;> rfl
theorem foot_upd {B mb : Nat} {f : StF} {s : ByteArray} {p : Nat} {l : Lst} {k : Nat} (h : foot B mb (updF f s (some (p, l))) k) : foot B mb f k ∨ k = p := by
  rcases h with h | h | ⟨t, x, ht, h⟩
  · exact Or.inl (Or.inl h)
  · exact Or.inl (Or.inr (Or.inl h))
  · unfold updF at h
    split at h
    · exact Or.inr (congrArg Prod.fst (Option.some.inj h)).symm
    · exact Or.inl (Or.inr (Or.inr ⟨t, x, ht, h⟩))
structure Left (w w' : World) (B mb : Nat) (most : Int) (f f' : StF) (cnt' : Nat) : Prop where
  st : StAt w' B mb most f' cnt'
  kept : KeptOff (foot B mb f) w w'
  grows : ∀ k, foot B mb f' k → foot B mb f k ∨ w.heap.size ≤ k
theorem Left.same {w w' : World} {B mb : Nat} {most : Int} {f : StF} {cnt : Nat} (h : StAt w B mb most f cnt) (hb : Below w.heap.size w w') : Left w w' B mb most f f cnt := ⟨h.below hb, Kept_below hb, fun k hk => Or.inl hk⟩
theorem Left.trans {w w1 w2 : World} {B mb : Nat} {most : Int} {f f1 f2 : StF} {c1 c2 : Nat} (h : Left w w1 B mb most f f1 c1) (k : Left w1 w2 B mb most f1 f2 c2) : Left w w2 B mb most f f2 c2 :=
  ⟨k.st, h.kept.trans k.kept h.grows, fun q hq => by
    rcases k.grows q hq with g | g
    · exact h.grows q g
    · exact Or.inr (Nat.le_trans h.kept.size g)⟩
theorem one_calls (B mb : Nat) (most : Int) (f : StF) (cnt : Nat) (owner : Int) (x : Smp) (w : World) (h : StAt w B mb most f cnt) (hx : sK.ok x.nm) (hc : cnt < maxLen) :
    Calls Try.prog 24 #[.pointer (some ⟨B, 0, none⟩), .int .i64 owner, .agg (smpL x).toArray] w fun e w' => e = .returned (.agg (snL (oneP most owner (er f, cnt) x).1).toArray) ∧
      ∃ f', er f' = (oneP most owner (er f, cnt) x).2.1 ∧ Left w w' B mb most f f' (oneP most owner (er f, cnt) x).2.2 := by
  cases hf : f x.nm with
  | none =>
    have he : er f x.nm = none := by unfold er; rw [hf]; rfl
    have hone : oneP most owner (er f, cnt) x = if most ≤ cnt then (⟨x, 4, false, 0⟩, er f, cnt) else (⟨x, 1, false, 0⟩, updS (er f) x.nm (some ⟨x, true, owner⟩), cnt + 1) := by
      unfold oneP
      simp only [he]
    rw [hone]
    by_cases hm : most ≤ cnt
    · rw [if_pos hm]
      exact (one_full B mb most f cnt owner x w h hx hf hm).mono fun e w' ⟨he, hb⟩ => ⟨he, f, rfl, Left.same h hb⟩
    · rw [if_neg hm]
      exact (one_room B mb most f cnt owner x w h hx hf (by omega) hc).mono fun e w' ⟨he, p, hp, hs, hk⟩ => ⟨he, _, er_upd f x.nm p _, hs, hk, fun k hk => (foot_upd hk).imp id (fun e => by omega)⟩
  | some pw =>
    obtain ⟨p, was⟩ := pw
    have he : er f x.nm = some was := by unfold er; rw [hf]; rfl
    have hone : oneP most owner (er f, cnt) x = if x.time < was.x.time then (⟨x, 2, false, 0⟩, er f, cnt) else if x.time = was.x.time then (⟨x, 3, false, 0⟩, er f, cnt)
      else (⟨x, 1, was.live, if was.live then was.x.val else 0⟩, updS (er f) x.nm (some ⟨x, true, owner⟩), cnt) := by
      unfold oneP
      simp only [he]
    rw [hone]
    have hg : ∀ k, foot B mb (updF f x.nm (some (p, ⟨x, true, owner⟩))) k → foot B mb f k ∨ w.heap.size ≤ k := fun k hk => by
      rcases foot_upd hk with g | g
      · exact Or.inl g
      · exact Or.inl (Or.inr (Or.inr ⟨x.nm, was, hx, by rw [g]; exact hf⟩))
    by_cases h1 : x.time < was.x.time
    · rw [if_pos h1]
      exact (one_order B mb most f cnt owner x w h hx p was hf h1).mono fun e w' ⟨he, hb⟩ => ⟨he, f, rfl, Left.same h hb⟩
    · rw [if_neg h1]
      by_cases h2 : x.time = was.x.time
      · rw [if_pos h2]
        exact (one_twice B mb most f cnt owner x w h hx p was hf h2).mono fun e w' ⟨he, hb⟩ => ⟨he, f, rfl, Left.same h hb⟩
      · rw [if_neg h2]
        cases hl : was.live with
        | false => exact (one_on B mb most f cnt owner x w h hx p was hf (by omega) hl).mono fun e w' ⟨he, hs, hk⟩ => ⟨he, _, er_upd f x.nm p _, hs, hk, hg⟩
        | true => exact (one_live B mb most f cnt owner x w h hx p was hf (by omega) hl).mono fun e w' ⟨he, hs, hk⟩ => ⟨he, _, er_upd f x.nm p _, hs, hk, hg⟩
theorem foot_ty {w : World} {B mb : Nat} {most : Int} {f : StF} {cnt : Nat} (h : StAt w B mb most f cnt) {k : Nat} (hk : foot B mb f k) :
    k = mb ∨ ∃ cs t, w.heap[k]? = some (.cells cs t (0, 0)) ∧ (t = 52 ∨ t = 54) := by
  rcases hk with rfl | rfl | ⟨s, x, hs, hf⟩
  · exact Or.inr ⟨_, _, h.blk, Or.inl rfl⟩
  · exact Or.inl rfl
  · exact Or.inr ⟨_, _, h.els s k x hs hf, Or.inr rfl⟩
theorem foot_not_cells {w : World} {B mb : Nat} {most : Int} {f : StF} {cnt : Nat} (h : StAt w B mb most f cnt) {k : Nat} {cs : Array Value} {t : TypeId} {fr : Nat × Nat} (hb : w.heap[k]? = some (.cells cs t fr)) (h1 : t ≠ 52) (h2 : t ≠ 54) : ¬ foot B mb f k := by
  intro hk
  rcases foot_ty h hk with rfl | ⟨cs', t', hb', ht⟩
  · obtain ⟨es, c, hm⟩ := h.map.obj
    rw [hb] at hm
    cases hm
  · rw [hb] at hb'
    cases hb'
    rcases ht with ht | ht
    · exact h1 ht
    · exact h2 ht
theorem foot_not_map {w : World} {B mb : Nat} {most : Int} {f : StF} {cnt : Nat} (h : StAt w B mb most f cnt) {k : Nat} {o : Obj} (hb : w.heap[k]? = some o) (ho : ∀ cs t, o ≠ .cells cs t (0, 0)) (hne : k ≠ mb) : ¬ foot B mb f k := by
  intro hk
  rcases foot_ty h hk with rfl | ⟨cs', t', hb', ht⟩
  · exact hne rfl
  · rw [hb] at hb'
    exact ho _ _ (Option.some.inj hb')
theorem own_keptOff {w w' : World} {F : Nat → Prop} {base : Nat} {e : TypeId} {size n : Nat} {v : Value} {xs : List Value} (h : w.ownsRow base e size v n xs) (hk : KeptOff F w w') (hF : ∀ k cs, w.heap[k]? = some (.cells cs e (0, 0)) → ¬ F k) : w'.ownsRow base e size v n xs := by
  refine ⟨h.1, ?_⟩
  rcases h.2 with h0 | ⟨g, cap, cur, hv, hg, hb, r⟩
  · exact Or.inl h0
  · exact Or.inr ⟨g, cap, cur, hv, hg, (hk.block g (blk_lt hb) (hF g cur hb)).trans hb, r⟩
theorem own_ty {w : World} {base : Nat} {e : TypeId} {size n : Nat} {v : Value} {xs : List Value} (h : w.ownsRow base e size v n xs) {k : Nat} (hk : v.ownBlock = some k) : base ≤ k ∧ ∃ cs, w.heap[k]? = some (.cells cs e (0, 0)) := by
  rcases h.2 with ⟨rfl, _⟩ | ⟨g, cap, cur, rfl, hg, hb, _⟩
  · cases hk
  · obtain rfl : g = k := by simpa [Value.ownBlock] using hk
    exact ⟨hg, cur, hb⟩
theorem Left.grown {w W W' : World} {B mb : Nat} {most : Int} {f f' : StF} {c : Nat} {row : Option Nat} (h : Left w W B mb most f f' c) (hg : W.grownBy W' row) (hr : ∀ k, row = some k → w.heap.size ≤ k ∧ ¬ foot B mb f' k) : Left w W' B mb most f f' c :=
  ⟨h.st.kept fun k hk => hg.block k (h.st.lt hk) (fun e => (hr k e.symm).2 hk), h.kept.grown hg (fun k e => Or.inl (hr k e).1), h.grows⟩
theorem Left.alloc {w W : World} {B mb : Nat} {most : Int} {f f' : StF} {c : Nat} (h : Left w W B mb most f f' c) (o : Obj) : Left w (W.alloc o) B mb most f f' c := h.grown (World.grownBy_alloc W o none) (by simp)
section
variable {P : Program} {ops : Array Oper} {rest : List Oper} {o : Oper} {a : Act} {Q : Exit → Act → World → Prop} {w : World}
theorem wpList_nextStore {mb r cnt todo : Nat} {f : StF} {left : ByteArray → Bool} (hg : o.guard = none) (it : Operand) (hop : o.op = Op.next it false) (hit : a.eval it = .pointer (some ⟨r, 0, none⟩)) (h : RangeAt sK w mb r (fun s => (f s).map fun p => ptrV p.1) cnt left todo)
    (hDone : todo = 0 → (∀ s, sK.ok s → left s = false) → wpList Try.prog ops Q rest (a.put o.dst (.tuple #[.bool false])) w)
    (hMore : ∀ (s : ByteArray) (p : Nat) (l : Lst) (w' : World) (todo' : Nat), sK.ok s → left s = true → f s = some (p, l) → RangeAt sK w' mb r (fun s => (f s).map fun p => ptrV p.1) cnt (fun y => left y && !decide (y = s)) todo' → todo' < todo → w.grownBy w' (some r) → w'.heap.size = w.heap.size →
      (Instr.entry (.pointer (some ⟨r, 0, none⟩))).run Try.prog w' = .ok (.tuple #[.string s, .pointer (some ⟨p, 0, none⟩)]) w' → wpList Try.prog ops Q rest (a.put o.dst (.tuple #[.bool true, .string s, .pointer (some ⟨p, 0, none⟩)])) w') :
    wpList Try.prog ops Q (o :: rest) a w :=
  wpList_nextM hg it hop hit h hDone fun s v w' todo' hs hl hf hR hlt hgr hsz hen => by
    cases hfs : f s with
    | none => rw [hfs] at hf; cases hf
    | some pl =>
      rw [hfs] at hf
      obtain ⟨p, l⟩ := pl
      obtain rfl : ptrV p = v := Option.some.inj hf
      exact hMore s p l w' todo' hs hl hfs hR hlt hgr hsz hen
def goneV : Value := .agg #[.bool true]
theorem wpList_nextGone {g r cnt todo : Nat} {gf : ByteArray → Option Value} {left : ByteArray → Bool} (hg : o.guard = none) (it : Operand) (hop : o.op = Op.next it false) (hit : a.eval it = .pointer (some ⟨r, 0, none⟩)) (h : RangeAt sK w g r gf cnt left todo) (hgf : ∀ s v, gf s = some v → v = goneV)
    (hDone : todo = 0 → (∀ s, sK.ok s → left s = false) → wpList Try.prog ops Q rest (a.put o.dst (.tuple #[.bool false])) w)
    (hMore : ∀ (s : ByteArray) (w' : World) (todo' : Nat), sK.ok s → left s = true → gf s = some goneV → RangeAt sK w' g r gf cnt (fun y => left y && !decide (y = s)) todo' → todo' < todo → w.grownBy w' (some r) → w'.heap.size = w.heap.size →
      (Instr.entry (.pointer (some ⟨r, 0, none⟩))).run Try.prog w' = .ok (.tuple #[.string s, .agg #[.bool true]]) w' → wpList Try.prog ops Q rest (a.put o.dst (.tuple #[.bool true, .string s, .agg #[.bool true]])) w') :
    wpList Try.prog ops Q (o :: rest) a w :=
  wpList_nextM hg it hop hit h hDone fun s v w' todo' hs hl hf hR hlt hgr hsz hen => by
    have := hgf s v hf
    subst this
    exact hMore s w' todo' hs hl hf hR hlt hgr hsz hen
theorem wpList_putGone {g n : Nat} {gf : ByteArray → Option Value} (hg : o.guard = none) (m x v : Operand) (hop : o.op = Op.mapUpdate 63 m x v) (hm : a.eval m = .map (some g)) (h : MapAt sK w g gf n) (hn : n < maxLen)
    (s : ByteArray) (hs : sK.ok s) (hx : a.eval x = .string s) (hv : a.eval v = .agg #[.bool true])
    (hK : ∀ w', MapAt sK w' g (upd gf s (some goneV)) (if (gf s).isSome then n else n + 1) → w.grownBy w' (some g) → wpList Try.prog ops Q rest (a.put o.dst undef) w') : wpList Try.prog ops Q (o :: rest) a w :=
  wpList_putM hg m x v _ hop _ Try.underlying63 hm h hn s hs hx goneV hv hK
theorem wpList_delGone {g n : Nat} {gf : ByteArray → Option Value} (hg : o.guard = none) (m x : Operand) (hop : o.op = Op.call { callee := Callee.builtin Builtin.delete, args := #[m, x], argTypes := #[63, 9] }) (hm : a.eval m = .map (some g)) (h : MapAt sK w g gf n)
    (s : ByteArray) (hs : sK.ok s) (hx : a.eval x = .string s)
    (hK : ∀ w', MapAt sK w' g (upd gf s none) (if (gf s).isSome then n - 1 else n) → w.mapTurned w' g → wpList Try.prog ops Q rest (a.put o.dst (.tuple #[])) w') : wpList Try.prog ops Q (o :: rest) a w :=
  wpList_delM hg m x _ hop _ Try.underlying63 hm h s hs hx hK
end
def due (owner : Int) (S : StS) (s : ByteArray) : Bool := match S s with
  | some x => decide (x.owner = owner) && x.live
  | none => false
theorem due_some {owner : Int} {f : StF} {s : ByteArray} {p : Nat} {l : Lst} (h : f s = some (p, l)) : due owner (er f) s = (decide (l.owner = owner) && l.live) := by
  unfold due er
  rw [h]
  rfl
def ReadsS (F : Nat → Prop) (w : World) (A : Option Addr) (l : List Smp) : Prop :=
  l = [] ∨ ∃ b off, A = some ⟨b, off, none⟩ ∧ b < w.heap.size ∧ ¬ F b ∧ ∀ i x, l[i]? = some x → ∀ j v, (smpL x)[j]? = some v → w.cell? ⟨b, off + i * 4 + j, none⟩ = some v
theorem KeptOff.mono {F F' : Nat → Prop} {w w' : World} (h : KeptOff F w w') (hF : ∀ k, F k → F' k) : KeptOff F' w w' := ⟨h.os, h.tape, h.output, h.size, fun k hk hn => h.block k hk fun e => hn (hF k e)⟩
theorem ReadsS.kept {F : Nat → Prop} {w w' : World} {A : Option Addr} {l : List Smp} (h : ReadsS F w A l) (hk : KeptOff F w w') : ReadsS F w' A l := by
  rcases h with h | ⟨b, off, e, hb, hn, hc⟩
  · exact Or.inl h
  · exact Or.inr ⟨b, off, e, Nat.lt_of_lt_of_le hb hk.size, hn, fun i x hi j v hv => (cell_blk _ (hk.block b hb hn)).trans (hc i x hi j v hv)⟩
theorem ReadsS.wide {F F' : Nat → Prop} {w : World} {A : Option Addr} {l : List Smp} (h : ReadsS F w A l) (hF : ∀ k, k < w.heap.size → ¬ F k → ¬ F' k) : ReadsS F' w A l := by
  rcases h with h | ⟨b, off, e, hb, hn, hc⟩
  · exact Or.inl h
  · exact Or.inr ⟨b, off, e, hb, hF b hb hn, hc⟩
def among (l : List Smp) (s : ByteArray) : Bool := l.any fun x => decide (x.nm = s)
theorem among_snoc (l : List Smp) (x : Smp) (s : ByteArray) : among (l ++ [x]) s = (among l s || decide (x.nm = s)) := by
  unfold among
  rw [List.any_append]
  simp
def outS (owner : Int) (l : List Smp) (S : StS) : StS := fun s => (S s).map fun x => if due owner S s && !among l s then ⟨x.x, false, x.owner⟩ else x
def outF (owner : Int) (S : StS) (f : StF) (l : List Smp) (left : ByteArray → Bool) : StF := fun s => (f s).map fun p => (p.1, if due owner S s && !among l s && !left s then ⟨p.2.x, false, p.2.owner⟩ else p.2)
theorem StAt.congr {w : World} {B mb : Nat} {most : Int} {f f' : StF} {cnt : Nat} (h : StAt w B mb most f cnt) (hf : ∀ s, sK.ok s → f s = f' s) : StAt w B mb most f' cnt :=
  ⟨h.blk, h.map.congr fun s hs => by rw [hf s hs], fun s p x hs e => h.els s p x hs (by rw [hf s hs]; exact e), fun s t p x y hs ht e1 e2 => h.inj s t p x y hs ht (by rw [hf s hs]; exact e1) (by rw [hf t ht]; exact e2)⟩
theorem foot_outF {B mb owner : _} {S : StS} {f : StF} {l : List Smp} {left : ByteArray → Bool} {k : Nat} : foot B mb (outF owner S f l left) k ↔ foot B mb f k := by
  unfold foot
  have key : (∃ s x, sK.ok s ∧ outF owner S f l left s = some (k, x)) ↔ ∃ s x, sK.ok s ∧ f s = some (k, x) := by
    constructor
    · rintro ⟨s, x, hs, h⟩
      unfold outF at h
      obtain ⟨q, hq, e⟩ := Option.map_eq_some_iff.1 h
      have e1 : q.1 = k := congrArg Prod.fst e
      exact ⟨s, q.2, hs, by rw [hq, ← e1]⟩
    · rintro ⟨s, x, hs, h⟩
      exact ⟨s, if due owner S s && !among l s && !left s then ⟨x.x, false, x.owner⟩ else x, hs, by unfold outF; rw [h]; rfl⟩
  rw [key]
def goneF (owner : Int) (S : StS) (l : List Smp) (s : ByteArray) : Option Value := if due owner S s && !among l s then some goneV else none
theorem goneF_val {owner : Int} {S : StS} {l : List Smp} {s : ByteArray} {v : Value} (h : goneF owner S l s = some v) : v = goneV := by
  unfold goneF at h
  split at h
  · exact (Option.some.inj h).symm
  · cases h
theorem goneF_due {owner : Int} {S : StS} {l : List Smp} {s : ByteArray} (h : goneF owner S l s = some goneV) : (due owner S s && !among l s) = true := by
  unfold goneF at h
  split at h
  · assumption
  · cases h
theorem outF_start (owner : Int) (S : StS) (f : StF) (l : List Smp) : outF owner S f l (fun s => (goneF owner S l s).isSome) = f := by
  funext s
  unfold outF goneF
  cases hf : f s with
  | none => rfl
  | some p =>
    show some (p.1, if (due owner S s && !among l s && !(if due owner S s && !among l s then some goneV else none).isSome) = true then _ else p.2) = some p
    cases hd : due owner S s && !among l s <;> simp
theorem er_outF (owner : Int) (f : StF) (l : List Smp) : er (outF owner (er f) f l (fun _ => false)) = outS owner l (er f) := by
  funext s
  unfold outS outF
  show ((f s).map _).map _ = (er f s).map _
  unfold er
  rw [Option.map_map, Option.map_map]
  congr 1
  funext p
  simp
theorem outF_step (owner : Int) (S : StS) (f : StF) (l : List Smp) (left : ByteArray → Bool) {s : ByteArray} {p : Nat} {x : Lst} (hf : f s = some (p, x)) (hd : (due owner S s && !among l s) = true) :
    updF (outF owner S f l left) s (some (p, ⟨x.x, false, x.owner⟩)) = outF owner S f l (fun y => left y && !decide (y = s)) := by
  funext y
  unfold updF
  by_cases hy : y = s
  · subst hy
    rw [if_pos rfl]
    unfold outF
    rw [hf]
    simp [hd]
  · rw [if_neg hy]
    unfold outF
    simp only [decide_eq_false hy, Bool.not_false, Bool.and_true]
theorem look1_store {w : World} {B mb : Nat} {most : Int} {f : StF} {cnt : Nat} (h : StAt w B mb most f cnt) {s : ByteArray} (hs : sK.ok s) {p : Nat} {x : Lst} (hf : f s = some (p, x)) :
    (Instr.lookup 50 (.map (some mb)) (.string s) false).run Try.prog w = .ok (.pointer (some ⟨p, 0, none⟩)) w := by
  have := h.map.look Try.underlying50 (zero_ptr w) hs
  simp only [hf] at this
  exact this
end Go.Proofs.Ytneodhhoejjncaa
