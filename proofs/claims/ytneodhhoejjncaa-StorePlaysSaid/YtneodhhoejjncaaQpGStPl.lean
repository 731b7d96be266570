/- A text of this claim, pruned by a program of the session (prune.py) to what the theorem rests on. -/
import Derived.Test.YtneodhhoejjncaaQpGStK
import Derived.Test.YtneodhhoejjncaaQpWWords
import Derived.Laws.StructEq
namespace Go.Proofs.Ytneodhhoejjncaa
open Go.RowKit Go.Proofs.YtneodhhoejjncaaW.PrintWords Go.Proofs.Ytneodhhoejjncaa.PFew
set_option linter.unusedVariables false
set_option linter.unusedSimpArgs false
theorem flat_get {α : Type} (f : α → List Value) (n : Nat) (hf : ∀ x, (f x).length = n) : ∀ (l : List α) (k : Nat) (x : α) (j : Nat), l[k]? = some x → j < n → (l.flatMap f)[k * n + j]? = (f x)[j]?
  | [], k, x, j, h, _ => by simp at h
  | y :: l, 0, x, j, h, hj => by
    obtain rfl : y = x := by simpa using h
    rw [List.flatMap_cons, List.getElem?_append_left (by rw [hf]; omega), Nat.zero_mul, Nat.zero_add]
  | y :: l, k + 1, x, j, h, hj => by
    have := flat_get f n hf l k x j (by simpa using h) hj
    rw [List.flatMap_cons, List.getElem?_append_right (by rw [hf, Nat.succ_mul]; omega), hf, ← this]
    congr 1
    rw [Nat.succ_mul]
    omega
theorem snF_get (l : List Sn) (k : Nat) (x : Sn) (j : Nat) (h : l[k]? = some x) (hj : j < 7) : (snF l)[k * 7 + j]? = (snL x)[j]? := flat_get snL 7 (fun _ => rfl) l k x j h hj
def smpF (l : List Smp) : List Value := l.flatMap smpL
theorem smpF_get (l : List Smp) (k : Nat) (x : Smp) (j : Nat) (h : l[k]? = some x) (hj : j < 4) : (smpF l)[k * 4 + j]? = (smpL x)[j]? := flat_get smpL 4 (fun _ => rfl) l k x j h hj
theorem wrap_in (n : Int) (h1 : -9223372036854775808 ≤ n) (h2 : n ≤ 9223372036854775807) : wrap64 n = n := by unfold wrap64; omega
theorem few_l0 (l : List S31) (hl : ∀ x ∈ l, x.f1.length ≤ 4398046511104) : ∀ (n i : Nat) (a : Int) (k : Nat), i + n = 31 → n < k → 0 ≤ a → a ≤ i * 4398046511104 →
    (∀ j x, l[j]? = some x → j < i → ((x.f1.length : Nat) : Int) ≤ a) →
    ∃ b, odometerlaw16_few.l0 k l 30 a (i : Int) = some b ∧ (b = true → l.length ≤ 30 ∧ ∀ x ∈ l, x.f1.length ≤ 200) := by
  intro n
  induction n with
  | zero =>
    intro i a k hi hk h0 ha hj
    obtain ⟨k, rfl⟩ : ∃ n, k = n + 1 := ⟨k - 1, by omega⟩
    rw [odometerlaw16_few.l0]
    by_cases hlt : i < l.length
    · rw [if_pos (by omega), if_neg (by omega), if_neg (by omega)]
      exact ⟨_, rfl, fun h => by cases h⟩
    · rw [if_neg (by omega)]
      by_cases h30 : l.length ≤ 30
      · rw [if_pos (by omega)]
        refine ⟨_, rfl, fun h => ⟨h30, fun x hx => ?_⟩⟩
        have h2 := of_decide_eq_true h
        obtain ⟨j, hjl, rfl⟩ := List.getElem_of_mem hx
        have := hj j _ (List.getElem?_eq_getElem hjl) (by omega)
        omega
      · rw [if_neg (by omega)]
        exact ⟨_, rfl, fun h => by cases h⟩
  | succ n ih =>
    intro i a k hi hk h0 ha hj
    obtain ⟨k, rfl⟩ : ∃ n, k = n + 1 := ⟨k - 1, by omega⟩
    rw [odometerlaw16_few.l0]
    by_cases hlt : i < l.length
    · have hlen := hl l[i] (List.getElem_mem hlt)
      have hr : rd_T31 l (i : Int) = l[i] := by simp [rd_T31, hlt]
      rw [if_pos (by omega), if_pos (by omega), if_pos (by omega), hr, wrap_in (a + _) (by omega) (by omega), wrap_in ((i : Int) + 1) (by omega) (by omega)]
      refine ih (i + 1) _ k (by omega) (by omega) (by omega) (by omega) fun j x hx hji => ?_
      by_cases he : j = i
      · subst he
        rw [List.getElem?_eq_getElem hlt] at hx
        obtain rfl := Option.some.inj hx
        omega
      · have := hj j x hx (by omega)
        omega
    · rw [if_neg (by omega), if_pos (by omega)]
      refine ⟨_, rfl, fun h => ⟨by omega, fun x hx => ?_⟩⟩
      have h2 := of_decide_eq_true h
      obtain ⟨j, hjl, rfl⟩ := List.getElem_of_mem hx
      have := hj j _ (List.getElem?_eq_getElem hjl) (by omega)
      omega
theorem few_f (l : List S31) (hl : ∀ x ∈ l, x.f1.length ≤ 4398046511104) : ∃ b, odometerlaw16_few.f 32 l 30 = some b ∧ (b = true → l.length ≤ 30 ∧ ∀ x ∈ l, x.f1.length ≤ 200) :=
  few_l0 l hl 31 0 0 32 (by omega) (by omega) (by omega) (by omega) fun j x _ h => absurd h (by omega)
end Go.Proofs.Ytneodhhoejjncaa
