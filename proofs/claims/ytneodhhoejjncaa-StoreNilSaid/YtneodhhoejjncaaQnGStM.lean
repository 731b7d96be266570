/- A text of this claim, pruned by a program of the session (prune.py) to what the theorem rests on. -/
import Derived.Test.YtneodhhoejjncaaQnGPut
import Derived.Test.YtneodhhoejjncaaProg
import Derived.Below
import Derived.Deep.Draws
import Derived.Deep.AppendLies
import Derived.Maps.AppendAt
import Derived.OwnWalk
import Derived.Laws.BytesArg
import Derived.Laws.MakeOwn
import Derived.Laws.OwnMore
import Derived.Deep.OwnRows
import Derived.Tactics
import Derived.Lib.ConvBytes
import Derived.Laws.Slices
import Derived.WalkKit
import Derived.KernelRfl
import Derived.RowKit3
import Derived.Deep.LoopGhost
import Derived.Deep.QuietTactic
import Derived.BigQuiet
import Derived.WideLaws
import Derived.Deep.DeepCutAuto
import Derived.Deep.CutBlock
import Derived.Deep.RegionHeld3
import Derived.Laws.Rows
import Derived.Lib.AppendStr
import Derived.ArgAppend
import Derived.Laws.IdiomCopy
import Derived.OrdersHeld
import Derived.Laws.BitsLemmas
import Derived.RowKit
import Derived.Test.YtneodhhoejjncaaQnWWords
import Derived.Test.YtneodhhoejjncaaQnWApart
import Derived.Test.YtneodhhoejjncaaQnWKept
import Derived.Test.YtneodhhoejjncaaQnWShare
import Derived.Laws.StructEq
import Derived.Test.YtneodhhoejjncaaQnWMore
namespace Go.Proofs.Ytneodhhoejjncaa
open Go.RowKit Go.Proofs.YtneodhhoejjncaaW.PrintWords Go.Proofs.YtneodhhoejjncaaW.PrintMore
attribute [local go_sem] max2_int max_two
set_option linter.unusedVariables false
set_option linter.unusedSimpArgs false
theorem own_cells {w : World} {base e size n : Nat} {v : Value} {xs : List Value} (h : w.ownsRow base e size v n xs) (hn : 0 < n) : ∃ g cap, v = .slice (some ⟨g, 0, none⟩) n cap ∧ n ≤ cap ∧ base ≤ g ∧ (∃ cs, w.heap[g]? = some (.cells cs e (0, 0))) ∧ ∀ j u, xs[j]? = some u → w.cell? ⟨g, j, none⟩ = some u := by
  rcases h.2 with ⟨rfl, h0⟩ | ⟨g, cap, cur, rfl, hg, hb, hle, hcap, hc, ht⟩
  · omega
  · refine ⟨g, cap, rfl, hle, hg, ⟨cur, hb⟩, fun j u hj => ?_⟩
    rw [blk_cell hb j, ← Array.getElem?_toList]
    rw [← ht] at hj
    rw [List.getElem?_take] at hj
    split at hj
    · exact hj
    · cases hj
theorem st_new (w : World) (m : Int) : StAt ((w.alloc (.map #[] 0)).alloc (.cells #[.int .i64 m, .map (some w.heap.size)] 52)) (w.heap.size + 1) w.heap.size m (fun _ => none) 0 :=
  ⟨by have := blk_new (w.alloc (.map #[] 0)) (.cells #[.int .i64 m, .map (some w.heap.size)] 52); rwa [size_push] at this, ((MapAt.made sK w).alloc _).congr fun _ _ => rfl, (fun s p x _ h => by cases h), (fun s t p x y _ _ h => by cases h)⟩
def NewPost (m : Int) (w : World) (e : Ending) (w' : World) : Prop := ∃ B mb, e = .returned (.pointer (some ⟨B, 0, none⟩)) ∧ w.heap.size ≤ B ∧ w.heap.size ≤ mb ∧ StAt w' B mb m (fun _ => none) 0 ∧ Below w.heap.size w w'
theorem new_calls (most : Int) (w : World) : Calls Try.prog 9 #[.int .i64 most] w (NewPost (if most < 0 then 0 else most) w) := by
  have hmk : ∀ W, (Instr.makeMap 50 none).run Try.prog W = .ok (.map (some W.heap.size)) (W.alloc (.map #[] 0)) := fun W => run_makeMap _ _
  have hb : ∀ o1 o2, Below w.heap.size w ((w.alloc o1).alloc o2) := fun o1 o2 => ((Below.refl _ w).alloc (Nat.le_refl _) o1).alloc (by simp) o2
  have HST := Aside0.mk (st_new w)
  have HB := Aside0.mk hb
  clear hb
  by_cases h : most < 0
  · rw [if_pos h]
    go_enter Try.func9, Try.ntmps9
    go_wp2
    go_ret
    exact ⟨_, _, rfl, Nat.le_succ _, Nat.le_refl _, HST.out 0, HB.out _ _⟩
  · rw [if_neg h]
    go_enter Try.func9, Try.ntmps9
    go_wp2
    go_ret
    exact ⟨_, _, rfl, Nat.le_succ _, Nat.le_refl _, HST.out most, HB.out _ _⟩
theorem knowns_calls (n : Int) (w : World) : Calls Try.prog 23 #[.int .i64 n] w fun e w' => e = .returned (.agg #[.string ⟨#[97]⟩, .int .i64 n, .int .i64 n, .bool false]) ∧ Below w.heap.size w w' := by
  have hb : ∀ o1, Below w.heap.size w (w.alloc o1) := fun o1 => (Below.refl _ w).alloc (Nat.le_refl _) o1
  go_enter Try.func23, Try.ntmps23
  go_wp2
  refine bodyPost_ret (v := .agg #[.string ⟨#[97]⟩, .int .i64 n, .int .i64 n, .bool false]) (by simp [results, Try.results23, go_sem]) rfl ⟨rfl, ?_⟩
  repeat (refine Below.setCell ?_ (Nat.le_refl _) _)
  exact hb _
end Go.Proofs.Ytneodhhoejjncaa
