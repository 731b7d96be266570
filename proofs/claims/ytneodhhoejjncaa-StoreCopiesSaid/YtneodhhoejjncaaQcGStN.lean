/- A text of this claim, pruned by a program of the session (prune.py) to what the theorem rests on. -/
import Derived.Test.YtneodhhoejjncaaQcGStK
import Derived.RangeFuncNested
import Derived.RangeFuncBound
import Derived.RangeFuncCalls
import Derived.RangeFuncLeaves
import Derived.RangeFuncMany
import Derived.RangeFuncFrom
import Derived.Shelf.Abstract
import Derived.Shelf.RegionOpen
import Derived.WalkKit
import Derived.OwnWalkIn
import Derived.TacticsInMore
import Derived.LoopNIn
import Derived.LoopIn
namespace Go.Proofs.Ytneodhhoejjncaa
open Go.RowKit Go.Shelf Go.Proofs.YtneodhhoejjncaaW.PrintWords
set_option linter.unusedVariables false
set_option linter.unusedSimpArgs false
def pairV (x : ByteArray × Lst) : Array Value := #[.string x.1, .agg (lstL x.2).toArray]
def KeepsIn (lo hi top : Nat) (W W' : World) : Prop := W.heap.size ≤ W'.heap.size ∧ (∀ k, lo ≤ k → k < hi → W'.heap[k]? = W.heap[k]?) ∧ ∀ k o, top ≤ k → W.heap[k]? = some o → o.isCells = true → W'.heap[k]? = some o
theorem keepsIn_r {lo hi top : Nat} (A : World) : KeepsIn lo hi top A A := ⟨Nat.le_refl _, fun _ _ _ => rfl, fun _ _ _ h _ => h⟩
theorem keepsIn_t {lo hi top : Nat} {A B C : World} (h : KeepsIn lo hi top A B) (k : KeepsIn lo hi top B C) : KeepsIn lo hi top A C := ⟨Nat.le_trans h.1 k.1, fun q h1 h2 => (k.2.1 q h1 h2).trans (h.2.1 q h1 h2), fun q o h1 h2 h3 => k.2.2 q o h1 (h.2.2 q o h1 h2 h3) h3⟩
theorem keepsIn_b {lo hi top : Nat} {w : World} (hn : hi ≤ w.heap.size) (W : World) (l : Nat) (o o' : Obj) (hl : w.heap.size ≤ l) (h : W.heap[l]? = some o) (hc : o.isCells = false) (_ : o.isWalk = false) : KeepsIn lo hi top W (W.putObj l o') := by
  have hg := grownBy_putObj' W l o'
  have hll := (Array.getElem?_eq_some_iff.1 h).1
  refine ⟨hg.size, fun k h1 h2 => hg.block k (by omega) (fun e => by cases e; omega), fun k o2 _ h2 h3 => ?_⟩
  rw [hg.block k (Array.getElem?_eq_some_iff.1 h2).1 (fun e => by
    cases e
    rw [h] at h2
    cases h2
    rw [hc] at h3
    cases h3)]
  exact h2
theorem keepsIn_alloc {lo hi top : Nat} (W : World) (o : Obj) (h : hi ≤ W.heap.size) : KeepsIn lo hi top W (W.alloc o) := ⟨by rw [World.size_alloc]; omega, fun k _ h2 => Below.heap_alloc W o k (by omega), fun k o2 _ h2 _ => (Below.heap_alloc W o k (Array.getElem?_eq_some_iff.1 h2).1).trans h2⟩
theorem keepsIn_set {lo hi top : Nat} (W : World) (p : Addr) (v : Value) (h1 : p.block < lo ∨ hi ≤ p.block) (h2 : p.block < top) : KeepsIn lo hi top W (W.setCell p v) := ⟨by simp [World.setCell], fun k a b => Below.heap_setCell W p v k (by omega), fun k o a b _ => (Below.heap_setCell W p v k (by omega)).trans b⟩
def Gives (lo hi : Nat) (W : World) (g : Value) (xs : List (ByteArray × Lst)) : Prop :=
  ∃ B, g = .func (.func 29) #[] #[.pointer (some ⟨B, 0, none⟩)] ∧ ∀ w, Below W.heap.size W w → ∀ n, 9 ≤ n → SeqStopsK Fence.wide n Try.prog 29 #[.pointer (some ⟨B, 0, none⟩)] pairV (KeepsIn lo hi w.heap.size) (fun ys => ys = xs) (fun pre => pre <+: xs) xs.length w
def AllAt (xs : List (ByteArray × Lst)) (W : World) : Ending → World → Prop := fun e w' => ∃ g, e = .returned g ∧ Below W.heap.size W w' ∧ Gives W.heap.size w'.heap.size w' g xs
def Boxed2 (W : World) (B : Nat) (t : TypeId) (cs : Array Value) : Prop := W.heap[B]? = some (.cells cs t (0, 0))
theorem Boxed2.own {W W' : World} {B : Nat} {t : TypeId} {cs : Array Value} {row : Option Nat} (h : Boxed2 W B t cs) (hg : W.grownBy W' row) (hr : ∀ r, row = some r → ∃ o : Obj, W.heap[r]? = some o ∧ o.isCells = false) : Boxed2 W' B t cs :=
  (hg.block B (blk_lt h) (fun e => by
    obtain ⟨o, ho, hc⟩ := hr B e.symm
    rw [show W.heap[B]? = _ from h] at ho
    cases ho
    cases hc)).trans h
def liveN (xs : List (ByteArray × Lst)) : Nat := (xs.filter fun x => x.2.live).length
theorem liveN_snoc (xs : List (ByteArray × Lst)) (x : ByteArray × Lst) : liveN (xs ++ [x]) = liveN xs + (if x.2.live = true then 1 else 0) := by
  unfold liveN
  rw [List.filter_append, List.length_append]
  cases h : x.2.live <;> simp [h]
theorem liveN_le (xs : List (ByteArray × Lst)) : liveN xs ≤ xs.length := List.length_filter_le _ _
attribute [local go_sem] Oper.semAt_some
set_option maxRecDepth 100000 in
set_option maxHeartbeats 4000000 in
theorem live_calls (p : Value) (xs : List (ByteArray × Lst)) (w : World) (hx : xs.length ≤ maxLen) (hall : ∀ W, Below w.heap.size w W → Calls Try.prog 21 #[p] W (AllAt xs W)) :
    Calls Try.prog 22 #[p] w fun e w' => e = .returned (.int .i64 (liveN xs)) ∧ Below w.heap.size w w' := by
  have ha := hall _ ((Below.refl _ w).alloc (Nat.le_refl _) (.cells #[.int .i64 0] 3))
  clear hall
  refine (callsIn_wide (n := 12)).1 ?_
  refine callsIn_of_wp_marks Try.func22 rfl trivial ?_ rfl
  simp only [Try.ntmps22, List.size_toArray, List.length_cons, List.length_nil, Nat.reduceAdd, Nat.reduceSub, Array.replicate_succ, Array.replicate_zero, List.push_toArray, List.append_toArray, List.nil_append, List.cons_append]
  have hfa : Fence.wide.fn 21 := trivial
  gi_wp2_with (gi_at_call 21; refine (callsIn_wide.2 ha).mono ?_; rintro e W0 ⟨g, rfl, hB1, B, rfl, hst⟩)
  have hsz0 := hB1.size
  rw [World.size_alloc] at hB1 hsz0 hst
  have bN : Boxed W0 w.heap.size 3 (.int .i64 ((liveN [] : Nat) : Int)) := (hB1.block w.heap.size (by omega)).trans (Boxed.new w 3 (.int .i64 0))
  have hB0 : Below w.heap.size w W0 := ((Below.refl _ w).alloc (Nat.le_refl _) (.cells #[.int .i64 0] 3)).trans (hB1.mono (by omega))
  refine wpIn_rangeFunc_ownH rfl (by omega) (gf := 29) (lb := #[.pointer (some ⟨B, 0, none⟩)]) rfl trivial (enters_of Try.func29 (by kernel_rfl) rfl)
    (hst W0 (Below.refl _ _) 11 (by omega)) keepsIn_t (keepsIn_b (Nat.le_refl _)) (Below.refl _ _) (fun _ => rfl)
    (fun pre W => (Boxed W w.heap.size 3 (.int .i64 (liveN pre : Nat)) ∧ pre.length ≤ xs.length) ∧ (Below w.heap.size w W ∧ W0.heap.size ≤ W.heap.size))
    (fun _ _ _ => False)
    (OwnFrom.and (OwnFrom.and (Own.from (boxed_own _ _ _) _) (fun _ _ _ _ h _ _ => h)) (OwnFrom.and (ownFrom_below (Nat.le_refl _) (by omega)) (fun _ _ _ _ h hg _ => Nat.le_trans h hg.size)))
    (fun _ _ _ _ _ hs _ _ => hs)
    ⟨⟨bN, Nat.zero_le _⟩, hB0, Nat.le_refl _⟩
    (fun x a' W => ∃ Bx, W0.heap.size ≤ Bx ∧ Boxed2 W Bx 54 (lstL x.2).toArray ∧ a' = { tmps := #[p, undef, .pointer (some ⟨w.heap.size, 0, none⟩), undef, .pointer (some ⟨Bx, 0, none⟩), p, .func (.func 29) #[] #[.pointer (some ⟨B, 0, none⟩)], .string x.1, .agg (lstL x.2).toArray, undef, undef, undef, undef, undef], defers := [] })
    (fun x a' _ X Y row hs hg hr => by obtain ⟨Bx, h1, h2, h3⟩ := hs; exact ⟨Bx, h1, h2.own hg (fun r e => (hr r e).2), h3⟩)
    ?assign ?body ?done ?stop
  case assign =>
    rintro l pre x W K ⟨⟨b1, hpl⟩, hbW, hsW⟩ hK
    simp only [pairV, lstL] at hK ⊢
    gi_wp2
    exact hK _ _ ((KeepsOthers.alloc _ _).from _) (keepsIn_alloc W _ hsW) ⟨⟨b1.alloc _, hpl⟩, hbW.alloc hbW.size _, by rw [World.size_alloc]; omega⟩ ⟨W.heap.size, hsW, World.alloc_heap_new W _, rfl⟩
  case body =>
    rintro l pre x a' W hl ⟨r, hr⟩ ⟨⟨b1, hpl⟩, hbW, hsW⟩ ⟨Bx, hBx, bX, rfl⟩ hlt
    have c1 := b1.cell
    have f1 := b1.frozen
    have x4 : W.cell? ⟨Bx, 4, none⟩ = some (.bool x.2.live) := (blk_cell bX 4).trans rfl
    cases hlv : x.2.live with
    | false =>
      rw [hlv] at x4
      gi_wp2
      exact ⟨(KeepsOthers.refl _).from _, keepsIn_r _, ⟨by rw [liveN_snoc, hlv]; exact b1, by rw [List.length_append]; exact hlt⟩, hbW, hsW⟩
    | true =>
      rw [hlv] at x4
      have hle := liveN_le pre
      have hw : wrap64 ((liveN pre : Nat) + 1) = ((liveN (pre ++ [x]) : Nat) : Int) := by
        rw [liveN_snoc, hlv]
        simp only [maxLen] at hx
        unfold wrap64
        simp
        omega
      gi_wp2
      exact ⟨(KeepsOthers.setCell _ _ _).from _, keepsIn_set W _ _ (Or.inl (Nat.lt_succ_self _)) (by show w.heap.size < _; omega), ⟨b1.set _, by rw [List.length_append]; exact hlt⟩, hbW.setCell (p := ⟨w.heap.size, 0, none⟩) (Nat.le_refl _) _, by simpa [World.setCell] using hsW⟩
  case done =>
    rintro D zs W hD rfl ⟨⟨b1, _⟩, hbW, hsW⟩ hK
    have c1 := b1.cell
    have f1 := b1.frozen
    gi_wp2
    have hK' := (KeepsOthers.setCell W ⟨w.heap.size, 0, none⟩ (.int .i64 (liveN zs : Nat))).same D _ hK rfl
    refine ⟨by simp, .inl ⟨_, _, rfl, run_takeDeferred hK', ?_⟩⟩
    have hc5 := cell_kept (World.cell?_setCell_same' W ⟨w.heap.size, 0, none⟩ (.int .i64 (liveN zs : Nat)) (by rw [c1]; rfl)) (grownBy_putObj' _ D (.deferred none)) (fun r e => by cases e; exact ⟨_, hK', rfl⟩)
    refine ⟨.int .i64 (liveN zs : Nat), ?_, rfl, ?_⟩
    · simp [results, Try.f22, go_sem, hc5]
    · exact (hbW.setCell (p := ⟨w.heap.size, 0, none⟩) (Nat.le_refl _) _).trans (belowK_b (w := w) (Nat.le_refl _) _ D _ _ (by omega) hK' rfl rfl)
  case stop =>
    rintro D c pre W _ _ h _
    exact h.elim
end Go.Proofs.Ytneodhhoejjncaa
