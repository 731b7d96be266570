/- A text of this claim, pruned by a program of the session (prune.py) to what the theorem rests on. -/
import Derived.Test.YtneodhhoejjncaaProg
import Derived.Deep.RegionHeld
namespace Go.Proofs.Ytneodhhoejjncaa
open Go
set_option linter.unusedVariables false
section
variable {P : Program} {ops : Array Oper} {Q : Exit → Act → World → Prop} {md : Region.Mode} {S : World → Prop} {last : Nat}
def anyL (P : Program) (md : Region.Mode) (ops : Array Oper) (Q : Exit → Act → World → Prop) (S : World → Prop) (last : Nat) : Nat → Array Bool → Act → World → Prop
  | 0, listed, a, w => Region.ready md ops listed = [] ∧ Q .normal a w
  | fuel + 1, listed, a, w => (Region.ready md ops listed = [] → Q .normal a w) ∧
      ∀ i ∈ Region.ready md ops listed, wpOp P ops Q i (fun a' w' => (i ≠ last → S w') ∧ anyL P md ops Q S last fuel (listed.setIfInBounds i true) a' w') a w
theorem anyL_any : ∀ (fuel : Nat) (listed : Array Bool) (a : Act) (w : World), anyL P md ops Q S last fuel listed a w → wpAny P md ops Q fuel listed a w
  | 0, _, _, _, h => h
  | fuel + 1, _, _, _, h => ⟨h.1, fun i hi => wpOp_mono (fun a' w' h' => anyL_any fuel _ a' w' h'.2) (h.2 i hi)⟩
theorem anyL_first {i : Nat} {oi ol : Oper} {v : Value} (hi : ops[i]? = some oi) (hsel : ∀ (j : Nat) (o : Oper) cs b, ops[j]? = some o → o.op ≠ .select cs b)
    (hQ : ∀ c a w, Q (.panic c) (a.put oi.dst v) w → Q (.panic c) a w) (hil : i ≠ last) (hl : ops[last]? = some ol) (hw : ∃ e ∈ ol.after, Region.binds md e = true ∧ e.on = i) :
    ∀ (fuel : Nat) (listed : Array Bool) (a : Act) (w : World),
      (∀ j oj, ops[j]? = some oj → j ≠ i → listed.getD j true = false → (∀ e ∈ oj.after, Region.binds md e = true → e.on ≠ i) → oi.apart ops oj = true) →
      i ∈ Region.ready md ops listed → YieldsIf P ops S oi v a → S w →
      anyL P md ops Q S last fuel (listed.setIfInBounds i true) (a.put oi.dst v) w → anyL P md ops Q S last (fuel + 1) listed a w
  | 0, listed, a, w, _, hr, hy, hS, H => ⟨fun h => (by rw [h] at hr; cases hr), fun j hj => by
      by_cases hji : j = i
      · rw [hji]
        exact hy.wpOp hi hS ⟨fun _ => hS, H⟩
      · have h0 := ready_mono hj hji
        rw [H.1] at h0
        cases h0⟩
  | fuel + 1, listed, a, w, hfree, hr, hy, hS, H => ⟨fun h => (by rw [h] at hr; cases hr), fun j hj => by
      by_cases hji : j = i
      · rw [hji]
        exact hy.wpOp hi hS ⟨fun _ => hS, H⟩
      · obtain ⟨hun, oj, hoj, hall⟩ := mem_ready.1 hj
        have hi0 := (mem_ready.1 hr).1
        have hnot : ∀ e ∈ oj.after, Region.binds md e = true → e.on ≠ i := fun e he hb heq => by
          have h1 := hall e he hb
          rw [heq] at h1
          rcases Nat.lt_or_ge i listed.size with h' | h'
          · simp [h'] at hi0 h1
            rw [hi0] at h1
            cases h1
          · simp [Array.getElem?_eq_none h'] at h1
        have hjl : j ≠ last := fun e => by
          rw [e, hl] at hoj
          obtain ⟨e1, he1, he2, he3⟩ := hw
          exact hnot e1 (by rw [← Option.some.inj hoj]; exact he1) he2 he3
        have h2 := wpOp_putIf hoj (hfree j oj hoj hji hun hnot) (fun cs b => hsel i oi cs b hi) (fun cs b => hsel j oj cs b hoj) hQ hy (H.2 j (ready_mono hj hji))
        refine wpOp_mono (fun a' w' h3 => ⟨h3.2.1, anyL_first hi hsel hQ hil hl hw fuel (listed.setIfInBounds j true) a' w' (fun k ok hk hki hu hno => hfree k ok hk hki ?_ hno) (ready_mono hr (Ne.symm hji)) h3.1 (h3.2.1 hjl) ?_⟩) h2
        · by_cases hjk : j = k
          · rw [← hjk]
            exact hun
          · rw [getD_set_ne true hjk] at hu
            exact hu
        · rw [Array.setIfInBounds_comm _ _ hji]
          exact h3.2.2⟩
theorem anyL_take {i : Nat} {oi ol : Oper} {v : Value} {fuel : Nat} {listed : Array Bool} {a : Act} {w : World} (hi : ops[i]? = some oi) (hs : Region.noSelect ops = true) (hf : Region.free md ops listed i = true) (hr : (Region.ready md ops listed).contains i = true)
    (hQ : ∀ c a w, Q (.panic c) (a.put oi.dst v) w → Q (.panic c) a w) (hil : i ≠ last) (hl : ops[last]? = some ol) (hw : (ol.after.any fun e => Region.binds md e && e.on == i) = true) (hwant : Region.wanted oi (yielded ops a.tmps) = true) (hy : ∀ w, S w → (execOp a.eval oi).run P w = .ok (.value v) w) (hS : S w)
    (h : anyL P md ops Q S last fuel (listed.setIfInBounds i true) (a.put oi.dst v) w) : anyL P md ops Q S last (fuel + 1) listed a w :=
  anyL_first hi (Region.noSelect_spec hs) hQ hil hl (by
    obtain ⟨k, hk, hb⟩ := Array.any_eq_true.1 hw
    simp only [Bool.and_eq_true, beq_iff_eq] at hb
    exact ⟨_, Array.getElem_mem hk, hb.1, hb.2⟩) fuel listed a w (Region.free_spec hi hf) (by simpa using hr) (Or.inl ⟨hwant, hy⟩) hS h
theorem anyL_one {i : Nat} {o : Oper} {fuel : Nat} {listed : Array Bool} {a : Act} {w : World} (hr : Region.ready md ops listed = [i]) (ho : ops[i]? = some o) (hwant : Region.wanted o (yielded ops a.tmps) = true)
    (h : Oper.wp P o a w (fun a' w' => (i ≠ last → S w') ∧ anyL P md ops Q S last fuel (listed.setIfInBounds i true) a' w') Q) : anyL P md ops Q S last (fuel + 1) listed a w :=
  ⟨fun h0 => (by rw [hr] at h0; cases h0), fun j hj => by
    rw [hr] at hj
    obtain rfl := List.mem_singleton.1 hj
    unfold wpOp
    simp only [ho, hwant, if_true]
    exact Or.inl h⟩
theorem anyL_two {i j : Nat} {o p : Oper} {fuel : Nat} {listed : Array Bool} {a : Act} {w : World} (hr : Region.ready md ops listed = [i, j]) (ho : ops[i]? = some o) (hp : ops[j]? = some p) (hwo : Region.wanted o (yielded ops a.tmps) = true) (hwp : Region.wanted p (yielded ops a.tmps) = true)
    (h1 : Oper.wp P o a w (fun a' w' => (i ≠ last → S w') ∧ anyL P md ops Q S last fuel (listed.setIfInBounds i true) a' w') Q)
    (h2 : Oper.wp P p a w (fun a' w' => (j ≠ last → S w') ∧ anyL P md ops Q S last fuel (listed.setIfInBounds j true) a' w') Q) : anyL P md ops Q S last (fuel + 1) listed a w :=
  ⟨fun h0 => (by rw [hr] at h0; cases h0), fun k hk => by
    rw [hr] at hk
    rcases List.mem_cons.1 hk with rfl | hk
    · unfold wpOp
      simp only [ho, hwo, if_true]
      exact Or.inl h1
    · obtain rfl := List.mem_singleton.1 hk
      unfold wpOp
      simp only [hp, hwp, if_true]
      exact Or.inl h2⟩
theorem anyL_done {fuel : Nat} {listed : Array Bool} {a : Act} {w : World} (hr : Region.ready md ops listed = []) (h : Q .normal a w) : anyL P md ops Q S last fuel listed a w := by
  cases fuel with
  | zero => exact ⟨hr, h⟩
  | succ fuel => exact ⟨fun _ => h, by rw [hr]; simp⟩
theorem wp_regionL (last : Nat) (S : World → Prop) {id : Nat} {a : Act} {w : World} (hm : P.follows .mixedOrders = true) (h : anyL P .any ops Q S last ops.size (Array.replicate ops.size false) a w.drew) : (Code.region id ops true).wp P Q a w :=
  wp_region_any hm (anyL_any _ _ _ _ h)
end
end Go.Proofs.Ytneodhhoejjncaa
