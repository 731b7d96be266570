/- A text of this claim, pruned by a program of the session (prune.py) to what the theorem rests on. -/
import Derived.Test.YtcikjeiebpmmcaaGreatProg
import Derived.Below
import Derived.Deep.Slices
import Derived.Deep.Fields
import Derived.ChangeSame
import Derived.ChangeArms
import Derived.SizedLaws
import Derived.Test.YtcikjeiebpmmcaaGreatQfWWords
namespace Go.Proofs.YtcikjeiebpmmcaaGreat
open Go.RowKit Go.Proofs.YtcikjeiebpmmcaaGreatW.PrintWords Go.ChangeShapes Go.WideShapes
set_option linter.unusedVariables false
set_option linter.unusedSimpArgs false
section
variable {H : Type} (enc : TypeId × Value → H) (P : Program) (W : World)
def Opens {α : Type} (t : TypeId) (d : Kd α) (B : α → Prop) : Prop :=
  ∀ (n : Nat) (cs : List Value) (y : DataW H × List MemPlace), DataW.trod enc P W 0 (fun _ => true) true n t cs = some y → (y.1.weights P t).all (· ≤ reachBytes) = true → ∃ x, d.K W x cs ∧ B x
variable {enc P W}
theorem opens_string {t : TypeId} (ht : P.underlying t = some .string) : Opens enc P W t Kd.string (fun s => s.size ≤ 140737488351232) := by
  intro n cs y h hw
  obtain ⟨s, rfl, rfl, _⟩ := DataW.trod_string ht h
  refine ⟨s, rfl, ?_⟩
  have h := of_decide_eq_true (List.all_eq_true.1 hw s.data.toList.length (by simp [DataW.weights]))
  have hr : reachBytes = 140737488351232 := rfl
  rw [hr] at h
  rwa [Array.length_toList] at h
theorem C_of_cells {α : Type} (d : Kd α) (B : α → Prop) (a : Addr) (n : Nat) (hn : n ≤ 9223372036854775807) (h : ∀ i, i < n → ∃ x c, c.length = d.sz ∧ d.K W x c ∧ B x ∧ ∀ j u, c[j]? = some u → W.cell? (a.add (i * d.sz + j)) = some u) :
    ∃ l : List α, l.length = n ∧ d.C W (some a) n l ∧ ∀ x ∈ l, B x := by
  have key : ∀ m, m ≤ n → ∃ l : List α, l.length = m ∧ (∀ x ∈ l, B x) ∧ ∀ j p, l[j]? = some p → ∃ c, c.length = d.sz ∧ d.K W p c ∧ ∀ i u, c[i]? = some u → W.cell? (a.add (j * d.sz + i)) = some u := by
    intro m
    induction m with
    | zero => intro _; exact ⟨[], rfl, by simp, by simp⟩
    | succ m ih =>
      intro hm
      obtain ⟨l, hl, hB, hc⟩ := ih (by omega)
      obtain ⟨x, c, h1, h2, h3, h4⟩ := h m (by omega)
      refine ⟨l ++ [x], by simp [hl], ?_, ?_⟩
      · intro z hz
        rcases List.mem_append.1 hz with hz | hz
        · exact hB z hz
        · rw [List.mem_singleton.1 hz]; exact h3
      · intro j p hj
        rcases Nat.lt_or_ge j l.length with hjl | hjl
        · rw [List.getElem?_append_left hjl] at hj
          exact hc j p hj
        · rw [List.getElem?_append_right hjl] at hj
          have h0 : j - l.length = 0 := by
            rcases Nat.eq_zero_or_pos (j - l.length) with h0 | h0
            · exact h0
            · rw [List.getElem?_eq_none (by simp; omega)] at hj; cases hj
          rw [h0] at hj
          obtain rfl : x = p := by simpa using hj
          obtain rfl : j = m := by omega
          exact ⟨c, h1, h2, h4⟩
  obtain ⟨l, hl, hB, hc⟩ := key n (Nat.le_refl _)
  exact ⟨l, hl, ⟨hl, hn, fun _ => ⟨a, rfl, hc⟩⟩, hB⟩
theorem weightsAll_mem {e : TypeId} : ∀ (ds : List (DataW H)) (d : DataW H), d ∈ ds → (DataW.weightsAll P e ds).all (· ≤ reachBytes) = true → (d.weights P e).all (· ≤ reachBytes) = true
  | [], _, h, _ => by simp at h
  | d0 :: r, d, h, hw => by
    rw [DataW.weightsAll, List.all_append, Bool.and_eq_true] at hw
    rcases List.mem_cons.1 h with rfl | h
    · exact hw.1
    · exact weightsAll_mem r d h hw.2
theorem opens_slice {α : Type} {t e : TypeId} {d : Kd α} {B : α → Prop} (ht : P.underlying t = some (.slice e)) (hc : P.cellsOf e = d.sz) {b : Nat} (hb : P.bytesOf e = b) (he : Opens enc P W e d B) :
    Opens enc P W t (Kd.slice e d) (fun l => l.length * b ≤ 140737488351232 ∧ ∀ x ∈ l, B x) := by
  intro n cs y h hw
  rcases Go.Deep.open_slice ht h with ⟨rfl, rfl⟩ | ⟨a, len, cap, m, n', D, Pl, rfl, _, hl, hm, hmm, rfl, hi⟩
  · exact ⟨[], ⟨none, 0, rfl, Nat.le_refl _, rfl, by simp, fun h => absurd h (by simp)⟩, by simp, by simp⟩
  · simp only [DataW.weights, ht, List.all_cons, Bool.and_eq_true, List.all_append, List.length_map, List.length_range, decide_eq_true_eq] at hw
    have hmc : len ≤ m := by rw [hmm]; simpa using hl
    obtain ⟨l, hll, hC, hB⟩ := C_of_cells d B a len (by have := hm; simp [maxLen] at this; omega) (fun i hi' => by
      obtain ⟨cs', h1, h2⟩ := hi i (by omega)
      obtain ⟨_, hcl, hat⟩ := World.cells?_some h1
      have hwd : ((D i).weights P e).all (· ≤ reachBytes) = true := weightsAll_mem _ _ (List.mem_map.2 ⟨i, List.mem_range.2 hi', rfl⟩) hw.2.1
      obtain ⟨x, hK, hBx⟩ := he n' cs' _ h2 hwd
      refine ⟨x, cs', d.K_len hK, hK, hBx, fun j u hj => ?_⟩
      have hjl : j < P.cellsOf e := by
        rcases Nat.lt_or_ge j cs'.length with h | h
        · omega
        · rw [List.getElem?_eq_none h] at hj; cases hj
      rw [← Go.Deep.add_add, ← hc, hat j hjl, hj])
    subst hll
    refine ⟨l, ⟨some a, cap, rfl, hl, hC⟩, ?_, hB⟩
    have h1 := hw.1
    rw [hb] at h1
    have : l.length * b ≤ (l.length + (m - l.length)) * b := Nat.mul_le_mul_right _ (by omega)
    have hr : reachBytes = 140737488351232 := rfl
    omega
theorem opens_arg {α : Type} {t : TypeId} {d : Kd α} {B : α → Prop} (h : Opens enc P W t d B) {v : Value} {x : DataW H} {p : List MemPlace} (hd : DataW.Trod enc P W 0 (fun _ => true) true t v x p)
    {ts : List TypeId} {ds : List (DataW H)} {j : Nat} (hsz : (DataW.weightsEach P ts ds).all (· ≤ reachBytes) = true) (ht : ts[j]? = some t) (hx : ds[j]? = some x) : ∃ z, d.K W z v.cells.toList ∧ B z := by
  obtain ⟨fuel, hf⟩ := hd
  refine h fuel _ _ hf ?_
  rw [List.all_eq_true] at hsz ⊢
  exact fun n hn => hsz n (DataW.weights_mem_each ht hx n hn)
end
end Go.Proofs.YtcikjeiebpmmcaaGreat
