/- A text of this claim, pruned by a program of the session (prune.py) to what the theorem rests on. -/
import Derived.Test.YtedchpflcemdkaaQkGLoad
import Derived.Orders
namespace Go.Proofs.Ytedchpflcemdkaa
open Go.RowKit
set_option linter.unusedVariables false
set_option linter.unusedSimpArgs false
def unl : List Bool → Nat
  | [] => 0
  | b :: l => (if b then 0 else 1) + unl l
theorem unl_set : ∀ (l : List Bool) (i : Nat), l[i]? = some false → unl (l.set i true) + 1 = unl l
  | [], i, h => by simp at h
  | b :: l, 0, h => by
    simp at h; subst h; simp [unl]; omega
  | b :: l, i + 1, h => by
    have := unl_set l i (by simpa using h)
    simp only [List.set_cons_succ, unl]
    omega
theorem unl_pos : ∀ (l : List Bool) (i : Nat), l[i]? = some false → 0 < unl l := fun l i h => by have := unl_set l i h; omega
theorem unl_replicate (n : Nat) : unl (List.replicate n false) = n := by
  induction n with
  | zero => rfl
  | succ n ih => rw [List.replicate_succ, unl, ih]; simp; omega
theorem listed_false {listed : Array Bool} {i : Nat} (h : listed.getD i true = false) : listed.toList[i]? = some false := by
  rw [Array.getD_eq_getD_getElem?] at h
  rw [Array.getElem?_toList]
  cases hq : listed[i]? with
  | none => rw [hq] at h; cases h
  | some b => rw [hq] at h; simp at h; rw [h]
section
variable {P : Program} {ops : Array Oper} {Q : Exit → Act → World → Prop}
theorem wpAny_inv (I : Array Bool → Act → World → Prop)
    (hs : ∀ i o listed a w, ops[i]? = some o → I listed a w → listed.getD i true = false → (∀ e ∈ o.after, Region.binds .any e = true → listed.getD e.on false = true) → ∀ K : Act → World → Prop, (∀ a' w', I (listed.setIfInBounds i true) a' w' → K a' w') →
      if Region.wanted o (yielded ops a.tmps) then o.wp P a w K Q else K (a.put o.dst undef) w)
    (hend : ∀ listed a w, I listed a w → (∀ i o, ops[i]? = some o → listed.getD i true = false → ∃ e ∈ o.after, Region.binds .any e = true ∧ listed.getD e.on false = false) → Q .normal a w) :
    ∀ (fuel : Nat) (listed : Array Bool) (a : Act) (w : World), unl listed.toList ≤ fuel → I listed a w → wpAny P .any ops Q fuel listed a w := by
  have hE : ∀ listed a w, I listed a w → Region.ready .any ops listed = [] → Q .normal a w := fun listed a w hI hr => by
    refine hend listed a w hI (fun i o hi hl => ?_)
    refine Classical.byContradiction fun hno => ?_
    have : i ∈ Region.ready .any ops listed := mem_ready.2 ⟨hl, o, hi, fun e he hb => by
      cases hg : listed.getD e.on false with
      | true => rfl
      | false => exact absurd ⟨e, he, hb, hg⟩ hno⟩
    rw [hr] at this
    cases this
  intro fuel
  induction fuel with
  | zero =>
    intro listed a w hf hI
    have hr : Region.ready .any ops listed = [] := by
      cases hq : Region.ready .any ops listed with
      | nil => rfl
      | cons i l =>
        have : i ∈ Region.ready .any ops listed := by rw [hq]; exact List.mem_cons_self
        have := unl_pos _ _ (listed_false (mem_ready.1 this).1)
        omega
    exact ⟨hr, hE _ _ _ hI hr⟩
  | succ fuel ih =>
    intro listed a w hf hI
    refine ⟨hE _ _ _ hI, fun i hi => ?_⟩
    obtain ⟨h1, o, ho, h2⟩ := mem_ready.1 hi
    have hk := hs i o listed a w ho hI h1 h2 (wpAny P .any ops Q fuel (listed.setIfInBounds i true)) (fun a' w' hI' => ih _ _ _ (by have := unl_set _ _ (listed_false h1); rw [Array.toList_setIfInBounds]; omega) hI')
    unfold wpOp
    rw [ho]
    dsimp only
    split
    · rename_i hw; rw [if_pos hw] at hk; exact .inl hk
    · rename_i hw; rw [if_neg hw] at hk; exact hk
theorem region_inv {id : Nat} {a : Act} {w : World} {l : List Oper} (hm : P.follows .mixedOrders = true) (I : Array Bool → Act → World → Prop)
    (h0 : I (Array.replicate l.toArray.size false) a { w with drawn := w.drawn + 1 })
    (hs : ∀ i o listed a w, l.toArray[i]? = some o → I listed a w → listed.getD i true = false → (∀ e ∈ o.after, Region.binds .any e = true → listed.getD e.on false = true) → ∀ K : Act → World → Prop, (∀ a' w', I (listed.setIfInBounds i true) a' w' → K a' w') →
      if Region.wanted o (yielded l.toArray a.tmps) then o.wp P a w K Q else K (a.put o.dst undef) w)
    (hend : ∀ listed a w, I listed a w → (∀ i o, l.toArray[i]? = some o → listed.getD i true = false → ∃ e ∈ o.after, Region.binds .any e = true ∧ listed.getD e.on false = false) → Q .normal a w) :
    (Code.region id l.toArray true).wp P Q a w :=
  wp_region_any hm (wpAny_inv I hs hend _ _ _ _ (by rw [Array.toList_replicate, unl_replicate]; exact Nat.le_refl _) h0)
end
end Go.Proofs.Ytedchpflcemdkaa
