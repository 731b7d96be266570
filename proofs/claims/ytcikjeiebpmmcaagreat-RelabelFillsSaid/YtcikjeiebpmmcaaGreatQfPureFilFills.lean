/- A text of this claim, pruned by a program of the session (prune.py) to what the theorem rests on. -/
import Derived.Test.YtcikjeiebpmmcaaGreatQfPureFilFillb
namespace Go.Proofs.YtcikjeiebpmmcaaGreat.PureFil
open Go.RowKit Go.Proofs.YtcikjeiebpmmcaaGreat Go.Proofs.YtcikjeiebpmmcaaGreat.PFil Go.Proofs.YtcikjeiebpmmcaaGreatW.PrintWords
set_option linter.unusedVariables false
set_option linter.unusedSimpArgs false
theorem same0 (ws : List ByteArray) (hl : ws.length ≤ 100000) : ∀ (k i : Nat), i ≤ ws.length → ws.length < i + k → odometerref29_Same.l0 k ws ws (i : Int) = some true
  | 0, i, hi, hk => by omega
  | k + 1, i, hi, hk => by
    rw [odometerref29_Same.l0]
    by_cases hlt : i < ws.length
    · rw [if_pos (by omega), if_pos (by omega), if_pos (by omega), if_pos rfl, wrap_in _ (by omega) (by omega)]
      exact same0 ws hl k (i + 1) (by omega) (by omega)
    · rw [if_neg (by omega)]
theorem same_f (ws : List ByteArray) (hl : ws.length ≤ 100000) (k : Nat) (hk : ws.length < k) : odometerref29_Same.f k ws ws = some true := by
  unfold odometerref29_Same.f
  rw [if_pos rfl]
  exact same0 ws hl k 0 (by omega) (by omega)
theorem fills_j2 (s : ByteArray) (l : List ByteArray) (b : Bool) (hb : b = false → s.size ≤ 300 ∧ l.length ≤ 9 ∧ ∀ x ∈ l, x.size ≤ 1000) (k : Nat) (hk : 1000 ≤ k) : odometerlaw29_RelabelFills.j2 k s l b = some true := by
  obtain ⟨k, rfl⟩ : ∃ n, k = n + 1 := ⟨k - 1, by omega⟩
  rw [odometerlaw29_RelabelFills.j2]
  cases b with
  | true =>
    rw [if_pos rfl, known_ge k (by omega)]
    rfl
  | false =>
    obtain ⟨h1, h2, h3⟩ := hb rfl
    have hr : relabel_Fill.f s l = some (fillR l s) := by
      unfold relabel_Fill.f
      rw [if_pos ⟨by omega, fun x hx => Nat.le_trans (h3 x hx) (by omega)⟩]
    have hq : odometerref29_Fill.f k s l = some (fillR l s) := refill l s (by omega) (fun x hx => Nat.le_trans (h3 x hx) (by omega)) (by omega) k 0 [] (by omega) (by omega) (doing_start l s)
    rw [if_neg (by simp), if_pos (by simp only [List.length_nil]; omega), Option.bind_some, List.nil_append, hr, Option.bind_some, hq, Option.bind_some, if_pos rfl, if_pos (by simp), same_f l (by omega) k (by omega), Option.bind_some, if_pos rfl, known_ge k (by omega)]
    rfl
theorem fills_j1 (s : ByteArray) (l : List ByteArray) (n : Int) (hn : l.length ≤ 9 → ∀ x ∈ l, (x.size : Int) ≤ n) (k : Nat) (hk : 1001 ≤ k) : odometerlaw29_RelabelFills.j1 k s l n = some true := by
  obtain ⟨k, rfl⟩ : ∃ n, k = n + 1 := ⟨k - 1, by omega⟩
  rw [odometerlaw29_RelabelFills.j1]
  by_cases h1 : (s.size : Int) > 300
  · rw [if_pos h1, fills_j2 s l true (fun h => by cases h) k (by omega)]
  · rw [if_neg h1]
    by_cases h2 : (l.length : Int) > 9
    · rw [if_pos h2, fills_j2 s l true (fun h => by cases h) k (by omega)]
    · rw [if_neg h2]
      refine fills_j2 s l _ (fun h => ⟨by omega, by omega, fun x hx => ?_⟩) k (by omega)
      have h3 := of_decide_eq_false h
      have := hn (by omega) x hx
      omega
theorem fills_l0 (s : ByteArray) (l : List ByteArray) (hs : ∀ x ∈ l, x.size ≤ 140737488351232) : ∀ (n i : Nat) (a : Int), i + n = 9 → 0 ≤ a → a ≤ i * 140737488351232 → (∀ j x, l[j]? = some x → j < i → (x.size : Int) ≤ a) → odometerlaw29_RelabelFills.l0 (1100 + n) s l a (i : Int) = some true := by
  intro n
  induction n with
  | zero =>
    intro i a hi h0 ha hj
    rw [show 1100 + 0 = 1099 + 1 from rfl, odometerlaw29_RelabelFills.l0]
    have out : odometerlaw29_RelabelFills.j1 1099 s l a = some true := fills_j1 s l a (fun h9 x hx => by
      obtain ⟨j, hjl, rfl⟩ := List.getElem_of_mem hx
      exact hj j _ (List.getElem?_eq_getElem hjl) (by omega)) 1099 (by omega)
    by_cases hlt : i < l.length
    · rw [if_pos (by omega), if_neg (by omega), out]
    · rw [if_neg (by omega), out]
  | succ n ih =>
    intro i a hi h0 ha hj
    rw [show 1100 + (n + 1) = (1100 + n) + 1 from rfl, odometerlaw29_RelabelFills.l0]
    by_cases hlt : i < l.length
    · have hrd : rdOf ByteArray.empty l (i : Int) = l[i] := by simp [rdOf, hlt]
      have hsz := hs l[i] (List.getElem_mem hlt)
      rw [if_pos (by omega), if_pos (by omega), if_pos (by omega), hrd, wrap_in (a + _) (by omega) (by omega), wrap_in ((i : Int) + 1) (by omega) (by omega)]
      refine ih (i + 1) _ (by omega) (by omega) (by omega) fun j x hx hji => ?_
      by_cases he : j = i
      · subst he
        rw [List.getElem?_eq_getElem hlt] at hx
        obtain rfl := Option.some.inj hx
        omega
      · have := hj j x hx (by omega)
        omega
    · rw [if_neg (by omega)]
      exact fills_j1 s l a (fun h9 x hx => by
        obtain ⟨j, hjl, rfl⟩ := List.getElem_of_mem hx
        exact hj j _ (List.getElem?_eq_getElem hjl) (by omega)) _ (by omega)
theorem RelabelFills (s : ByteArray) (l : List ByteArray) (hs : ∀ x ∈ l, x.size ≤ 140737488351232) : ∃ k, odometerlaw29_RelabelFills.f k s l = some true :=
  ⟨1109, fills_l0 s l hs 9 0 0 (by omega) (by omega) (by omega) fun j x _ h => absurd h (by omega)⟩
end Go.Proofs.YtcikjeiebpmmcaaGreat.PureFil
