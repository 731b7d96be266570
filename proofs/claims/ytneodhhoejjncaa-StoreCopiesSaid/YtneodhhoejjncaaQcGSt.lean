/- A text of this claim, pruned by a program of the session (prune.py) to what the theorem rests on. -/
import Derived.Test.YtneodhhoejjncaaProg
import Derived.Test.YtneodhhoejjncaaQcGMap
import Derived.Test.YtneodhhoejjncaaQcWWords
import Derived.OrdersHeld
import Derived.Deep.RegionHeld3
import Derived.Laws.BitsLemmas
import Derived.RowKit
import Derived.Test.YtneodhhoejjncaaQcWApart
import Derived.RegionTactic
import Derived.BigRegion
import Derived.Deep.QuietTactic
import Derived.BigQuiet
import Derived.Deep.DeepCutAuto
import Derived.Outline
import Derived.WalkSpells
import Derived.WalkKit
namespace Go.Proofs.Ytneodhhoejjncaa
open Go.RowKit Go.Proofs.YtneodhhoejjncaaW.PrintWords
set_option linter.unusedVariables false
set_option linter.unusedSimpArgs false
structure Smp where
  nm : ByteArray
  val : Int
  time : Int
  counts : Bool
structure Lst where
  x : Smp
  live : Bool
  owner : Int
structure Sn where
  x : Smp
  verdict : Int
  chain : Bool
  ahead : Int
def smpL (x : Smp) : List Value := [.string x.nm, .int .i64 x.val, .int .i64 x.time, .bool x.counts]
def lstL (x : Lst) : List Value := [.string x.x.nm, .int .i64 x.x.val, .int .i64 x.x.time, .bool x.x.counts, .bool x.live, .int .i64 x.owner]
def snL (x : Sn) : List Value := [.string x.x.nm, .int .i64 x.x.val, .int .i64 x.x.time, .bool x.x.counts, .int .i64 x.verdict, .bool x.chain, .int .i64 x.ahead]
noncomputable abbrev sK : KeyT Try.prog 9 ByteArray := strKey Try.underlying9
def ptrV (p : Nat) : Value := .pointer (some ⟨p, 0, none⟩)
abbrev StF := ByteArray → Option (Nat × Lst)
structure StAt (w : World) (B mb : Nat) (most : Int) (f : StF) (cnt : Nat) : Prop where
  blk : w.heap[B]? = some (.cells #[.int .i64 most, .map (some mb)] 52 (0, 0))
  map : MapAt sK w mb (fun s => (f s).map fun p => ptrV p.1) cnt
  els : ∀ s p x, sK.ok s → f s = some (p, x) → w.heap[p]? = some (.cells (lstL x).toArray 54 (0, 0))
  inj : ∀ s t p x y, sK.ok s → sK.ok t → f s = some (p, x) → f t = some (p, y) → s = t
def foot (B mb : Nat) (f : StF) (k : Nat) : Prop := k = B ∨ k = mb ∨ ∃ s x, sK.ok s ∧ f s = some (k, x)
structure KeptOff (F : Nat → Prop) (w w' : World) : Prop where
  os : w'.os = w.os
  tape : w'.tape = w.tape
  output : w'.output = w.output
  size : w.heap.size ≤ w'.heap.size
  block : ∀ k, k < w.heap.size → ¬ F k → w'.heap[k]? = w.heap[k]?
theorem KeptOff.refl (F : Nat → Prop) (w : World) : KeptOff F w w := ⟨rfl, rfl, rfl, Nat.le_refl _, fun _ _ _ => rfl⟩
theorem KeptOff.alloc {F : Nat → Prop} {w W : World} (h : KeptOff F w W) (o : Obj) : KeptOff F w (W.alloc o) :=
  ⟨h.os, h.tape, h.output, by have := h.size; simp; omega, fun k hk hF => by rw [Below.heap_alloc W o k (by have := h.size; omega)]; exact h.block k hk hF⟩
theorem KeptOff.drewN {F : Nat → Prop} {w W : World} (h : KeptOff F w W) (n : Nat) : KeptOff F w (W.drewN n) := ⟨h.os, h.tape, h.output, h.size, h.block⟩
theorem KeptOff.setCell {F : Nat → Prop} {w W : World} (h : KeptOff F w W) {p : Addr} (hp : w.heap.size ≤ p.block ∨ F p.block) (u : Value) : KeptOff F w (W.setCell p u) :=
  ⟨h.os, h.tape, h.output, by have := h.size; simpa [World.setCell] using this, fun k hk hF => by
    rw [Below.heap_setCell W p u k (fun e => by subst e; rcases hp with hp | hp; omega; exact hF hp)]
    exact h.block k hk hF⟩
theorem KeptOff.grown {F : Nat → Prop} {w W W' : World} {row : Option Nat} (h : KeptOff F w W) (hg : W.grownBy W' row) (hr : ∀ k, row = some k → w.heap.size ≤ k ∨ F k) : KeptOff F w W' :=
  ⟨hg.os.trans h.os, hg.tape.trans h.tape, hg.output.trans h.output, Nat.le_trans h.size hg.size, fun k hk hF => by
    rw [hg.block k (by have := h.size; omega) (fun e => by rcases hr k e.symm with h | h; omega; exact hF h)]
    exact h.block k hk hF⟩
theorem KeptOff.below {F : Nat → Prop} {w W W' : World} (h : KeptOff F w W) (hb : Below W.heap.size W W') : KeptOff F w W' := h.grown (row := none) ⟨hb.os, hb.tape, hb.output, hb.size, fun i hi _ => hb.block i hi⟩ (by simp)
theorem KeptOff.trans {F F' : Nat → Prop} {w W W' : World} (h : KeptOff F w W) (h' : KeptOff F' W W') (hF : ∀ k, F' k → F k ∨ w.heap.size ≤ k) : KeptOff F w W' :=
  ⟨h'.os.trans h.os, h'.tape.trans h.tape, h'.output.trans h.output, Nat.le_trans h.size h'.size, fun k hk hFk => by
    rw [h'.block k (by have := h.size; omega) (fun e => by rcases hF k e with h | h; exact hFk h; omega)]
    exact h.block k hk hFk⟩
theorem KeptOff.toBelow {F : Nat → Prop} {w W : World} (h : KeptOff F w W) {base : Nat} (hb : base ≤ w.heap.size) (hF : ∀ k, F k → base ≤ k) : Below base w W :=
  ⟨h.os, h.tape, h.output, h.size, fun k hk => h.block k (by omega) (fun e => by have := hF k e; omega)⟩
theorem Kept_below {F : Nat → Prop} {w W : World} (hb : Below w.heap.size w W) : KeptOff F w W := (KeptOff.refl F w).below hb
theorem StAt.kept {w w' : World} {B mb : Nat} {most : Int} {f : StF} {cnt : Nat} (h : StAt w B mb most f cnt) (hk : ∀ k, foot B mb f k → w'.heap[k]? = w.heap[k]?) : StAt w' B mb most f cnt :=
  ⟨(hk B (Or.inl rfl)).trans h.blk, h.map.kept (hk mb (Or.inr (Or.inl rfl))), fun s p x hs hf => (hk p (Or.inr (Or.inr ⟨s, x, hs, hf⟩))).trans (h.els s p x hs hf), h.inj⟩
theorem StAt.lt {w : World} {B mb : Nat} {most : Int} {f : StF} {cnt : Nat} (h : StAt w B mb most f cnt) {k : Nat} (hk : foot B mb f k) : k < w.heap.size := by
  rcases hk with rfl | rfl | ⟨s, x, hs, hf⟩
  · exact blk_lt h.blk
  · exact h.map.lt
  · exact blk_lt (h.els s k x hs hf)
theorem StAt.below {w w' : World} {B mb : Nat} {most : Int} {f : StF} {cnt : Nat} (h : StAt w B mb most f cnt) (hb : Below w.heap.size w w') : StAt w' B mb most f cnt := h.kept fun k hk => hb.block k (h.lt hk)
theorem StAt.off {F : Nat → Prop} {w w' : World} {B mb : Nat} {most : Int} {f : StF} {cnt : Nat} (h : StAt w B mb most f cnt) (hk : KeptOff F w w') (hF : ∀ k, foot B mb f k → ¬ F k) : StAt w' B mb most f cnt := h.kept fun k hf => hk.block k (h.lt hf) (hF k hf)
theorem StAt.setCell {w : World} {B mb : Nat} {most : Int} {f : StF} {cnt : Nat} (h : StAt w B mb most f cnt) {p : Addr} (hp : ¬ foot B mb f p.block) (u : Value) : StAt (w.setCell p u) B mb most f cnt := h.kept fun k hk => Below.heap_setCell w p u k (fun e => by subst e; exact hp hk)
theorem StAt.drewN {w : World} {B mb : Nat} {most : Int} {f : StF} {cnt : Nat} (h : StAt w B mb most f cnt) (n : Nat) : StAt (w.drewN n) B mb most f cnt := h.kept fun _ _ => rfl
theorem StAt.alloc {w : World} {B mb : Nat} {most : Int} {f : StF} {cnt : Nat} (h : StAt w B mb most f cnt) (o : Obj) : StAt (w.alloc o) B mb most f cnt := h.kept fun k hk => Below.heap_alloc w o k (h.lt hk)
theorem zero_ptr (w : World) : (zeroValue 65).run Try.prog w = .ok (.pointer none) w := by kernel_rfl
theorem look_store {w : World} {B mb : Nat} {most : Int} {f : StF} {cnt : Nat} (h : StAt w B mb most f cnt) {s : ByteArray} (hs : sK.ok s) :
    (Instr.lookup 50 (.map (some mb)) (.string s) true).run Try.prog w = .ok (.tuple #[match f s with | some p => ptrV p.1 | none => .pointer none, .bool (f s).isSome]) w := by
  have := h.map.lookOk Try.underlying50 (zero_ptr w) hs
  cases hf : f s with
  | none => simp only [hf] at this ⊢; exact this
  | some p => simp only [hf] at this ⊢; exact this
theorem fputs {f : StF} {s : ByteArray} {p : Nat} {l : Lst} : upd (fun t => (f t).map fun p => ptrV p.1) s (some (ptrV p)) = fun t => ((if t = s then some (p, l) else f t).map fun p => ptrV p.1) := by
  funext t
  unfold upd
  split <;> rfl
def updF (f : StF) (s : ByteArray) (v : Option (Nat × Lst)) : StF := fun t => if t = s then v else f t
theorem StAt.put {W : World} {B mb : Nat} {most : Int} {f : StF} {cnt : Nat} (h : StAt W B mb most f cnt) {s : ByteArray} (hs : sK.ok s) (hf : f s = none) (hc : cnt < maxLen) (p : Nat) (l : Lst) (hp : W.heap[p]? = some (.cells (lstL l).toArray 54 (0, 0))) (hnew : ¬ foot B mb f p) :
    StAt (putW Try.prog 50 mb (.string s) (ptrV p) W) B mb most (updF f s (some (p, l))) (cnt + 1) ∧ W.grownBy (putW Try.prog 50 mb (.string s) (ptrV p) W) (some mb) := by
  obtain ⟨_, h2, h3⟩ := h.map.putW Try.underlying50 hc hs (ptrV p)
  simp only [hf, Option.map_none, Option.isSome_none, Bool.false_eq_true, if_false] at h2
  rw [show sK.val s = Value.string s from rfl] at h2 h3
  obtain ⟨es, clock, hmb⟩ := h.map.obj
  have hnm : ∀ {k : Nat} {cs : Array Value} {t : TypeId}, W.heap[k]? = some (.cells cs t (0, 0)) → (putW Try.prog 50 mb (.string s) (ptrV p) W).heap[k]? = some (.cells cs t (0, 0)) := fun {k cs t} hk => by
    rw [h3.block k (blk_lt hk) (fun e => by obtain rfl := Option.some.inj e; rw [hmb] at hk; cases hk)]
    exact hk
  refine ⟨⟨hnm h.blk, ?_, fun t q x ht hq => ?_, fun t u q x y ht hu hq hr => ?_⟩, h3⟩
  · rw [fputs (l := l)] at h2
    exact h2
  · unfold updF at hq
    split at hq
    · obtain ⟨rfl, rfl⟩ : p = q ∧ l = x := by simpa using hq
      exact hnm hp
    · exact hnm (h.els t q x ht hq)
  · unfold updF at hq hr
    split at hq
    · rename_i e1
      split at hr
      · rename_i e2
        rw [e1, e2]
      · obtain ⟨rfl, _⟩ : p = q ∧ l = x := by simpa using hq
        exact absurd (Or.inr (Or.inr ⟨u, y, hu, hr⟩)) hnew
    · split at hr
      · obtain ⟨rfl, _⟩ : p = q ∧ l = y := by simpa using hr
        exact absurd (Or.inr (Or.inr ⟨t, x, ht, hq⟩)) hnew
      · exact h.inj t u q x y ht hu hq hr
end Go.Proofs.Ytneodhhoejjncaa
