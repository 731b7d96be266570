/- A text of this claim, pruned by a program of the session (prune.py) to what the theorem rests on. -/
import Derived.Test.YtneodhhoejjncaaQcGCompare
import Derived.Test.YtneodhhoejjncaaQcGShelf
import Derived.Test.YtneodhhoejjncaaQcGStC
import Derived.Shelf.SlIter.Sorted
import Derived.Shelf.SlIter.NilStops
import Derived.Shelf.AbstractIn
namespace Go.Proofs.Ytneodhhoejjncaa
open Go.RowKit Go.Shelf Go.Sort Go.Proofs.YtneodhhoejjncaaW.PrintWords
set_option linter.unusedVariables false
set_option linter.unusedSimpArgs false
def cmpI (x y : List UInt8) : Int := if Op.bytesLess x y then (-1) else if Op.bytesLess y x then 1 else 0
theorem label_compare (a b : ByteArray) (w : World) : Calls Try.prog 32 #[.string a, .string b] w fun e w' => e = .returned (.int .i64 (cmpI a.toList b.toList)) ∧ Drawn0 w w' := by
  have hc : Calls Try.prog 36 #[.string a, .string b] w fun e w' => e = .returned (.int .i64 (cmpI a.toList b.toList)) ∧ Drawn0 w w' := compare_calls a b w
  generalize cmpI a.toList b.toList = q at *
  go_enter Try.func32, Try.ntmps32
  go_wp2_with (go_at_call 36; refine hc.mono ?_; rintro e w1 ⟨rfl, hd⟩)
  go_ret
  exact ⟨rfl, hd⟩
theorem less_irrefl (x : List UInt8) : Op.bytesLess x x = false := by simp [bytesLess_eq]
theorem less_trans {x y z : List UInt8} (h1 : Op.bytesLess x y = true) (h2 : Op.bytesLess y z = true) : Op.bytesLess x z = true := by
  simp only [bytesLess_eq, decide_eq_true_eq] at *
  exact List.lt_trans h1 h2
theorem less_total {x y : List UInt8} (h1 : Op.bytesLess x y = false) (h2 : Op.bytesLess y x = false) : x = y := by
  have h := greater_of x y
  rw [h1, h2] at h
  simpa using h
theorem lt_cmp : ltOf cmpI = Op.bytesLess := by
  funext x y
  unfold ltOf cmpI
  cases h1 : Op.bytesLess x y
  · cases h2 : Op.bytesLess y x <;> simp
  · simp
theorem less_swo : SWO Op.bytesLess where
  irrefl x := less_irrefl _
  trans x y z h1 h2 := less_trans h1 h2
  ntrans x y z h1 h2 := by
    cases h : Op.bytesLess x z with
    | false => rfl
    | true =>
      exfalso
      cases h3 : Op.bytesLess y x with
      | true => have := less_trans h3 h; rw [this] at h2; cases h2
      | false =>
        have := less_total h1 h3
        rw [this] at h
        rw [h] at h2
        cases h2
def leS : List UInt8 → List UInt8 → Bool := fun x y => !Op.bytesLess y x
theorem cmp_reads (blk size : Nat) (w : World) : CmpReads Try.prog 32 #[] encStr cmpI blk 0 size w := fun m os dk _ x y =>
  (label_compare ⟨x.toArray⟩ ⟨y.toArray⟩ _).mono fun e w' ⟨he, hd⟩ => ⟨by rw [he]; simp [ByteArray.toList_eq], hd.out⟩
theorem sortedFunc_in (n : Nat) (hn : 4 ≤ n) (g : Nat) (lb : Array Value) (eg : ∀ args w, (callFunc g args).run Try.prog w = .ok (.enter g args) w) (S : List (List UInt8) → Prop) (N : Nat) (hN : N ≤ maxLen) (hNb : N * 16 ≤ 140737488355328) (w : World) (hseq : SeqGives Fence.wide (n - 1 - 1 - 1) Try.prog g lb encStr S N w) :
    CallsIn Fence.wide n Try.prog 30 #[.func (.func g) #[] lb, .func (.func 32) #[] #[]] w fun e w' => ∃ (v : Value) (ss : List (List UInt8)), e = .returned v ∧ S ss ∧
      w'.ownsRow w.heap.size 9 1 v ss.length ((ss.mergeSort leS).map encStr) ∧ Below w.heap.size w w' := by
  have h1 : 1 ≤ n := by omega
  have hf8 : Fence.wide.fn 33 := trivial
  have hf9 : Fence.wide.fn 34 := trivial
  have ec : ∀ args w, (callFunc 32 args).run Try.prog w = .ok (.enter 32 args) w := enters_of Try.func32 (by kernel_rfl) rfl
  have cC := AnyZ.collect_in (ρ := Try.collectL_ren) Try.collectL Fence.wide (n - 1) trivial trivial rfl (by omega) g lb trivial eg _ N hN hNb w hseq.bounded
  change CallsIn _ _ Try.prog 33 _ _ _ at cC
  refine callsIn_of_wp Try.func30 rfl trivial ?_ rfl
  simp only [Try.ntmps30, List.size_toArray, List.length_cons, List.length_nil, Nat.reduceAdd, Nat.reduceSub, Array.replicate_succ, Array.replicate_zero, List.push_toArray, List.append_toArray, List.nil_append, List.cons_append]
  gi_wp2_with (gi_at_call 33; refine cC.mono ?_; rintro e W ⟨v, ss, rfl, ⟨hS, hlen⟩, hrow, hnil, hb⟩)
  replace hrow : W.ownsRow w.heap.size 9 1 v ss.length (ss.map encStr) := hrow
  rcases hrow.2 with ⟨rfl, hz⟩ | ⟨gb, cap, cur, rfl, hbase, hgb, r1, r2, r3, r4⟩
  · have hss : ss = [] := List.eq_nil_of_length_eq_zero hz
    subst hss
    have cN := (callsIn_wide (n := n - 1)).2 (AnyF.slices_SortFunc_none (P := Try.prog) (ρ := Try.sortL_ren) { Try.sortL with } none 0 (.func (.func 32) #[] #[]) W)
    change CallsIn _ _ Try.prog 34 _ _ _ at cN
    gi_wp2_with (gi_at_call 34; refine cN.mono ?_; rintro e w' ⟨rfl, rfl⟩)
    go_ret
    exact ⟨.slice none 0 0, [], rfl, hS, by simpa using hrow, hb⟩
  · have hH : Holds encStr W gb 0 ss.toArray := holds_of_block hgb (by simpa using r4)
    have hgl : gb < W.heap.size := (Array.getElem?_eq_some_iff.1 hgb).1
    have hsz : ss.toArray.size < 4611686018427387904 := by simp only [maxLen] at hN; simp; omega
    have cS := (callsIn_wide (n := n - 1)).2 (Any.slices_SortFunc_total (P := Try.prog) (ρ := Try.sortL_ren) Try.sortL encStr (fun _ => rfl) cmpI (by rw [lt_cmp]; exact less_swo) 32 #[] gb 0 cap ss.toArray W ec (cmp_reads gb _ W).lays hH hgl hsz (by rw [lt_cmp]; exact fun x y a b => less_total a b))
    rw [lt_cmp] at cS
    change CallsIn _ _ Try.prog 34 _ _ _ at cS
    rw [show ss.toArray.size = ss.length by simp] at cS
    gi_wp2_with (gi_at_call 34; refine cS.mono ?_; rintro e w' ⟨rfl, nn, os, rfl⟩)
    go_ret
    exact ⟨_, ss, rfl, hS, ownsRow_sorted (by simp) hbase hgb r1 r2 r3, hb.grown (grownBy_sorted _) hb.size (fun j hj => by cases hj; exact hbase)⟩
end Go.Proofs.Ytneodhhoejjncaa
