/- A text of this claim, pruned by a program of the session (prune.py) to what the theorem rests on. -/
import Derived.Test.YtneodhhoejjncaaQcGGet
import Derived.Test.YtneodhhoejjncaaQcGRefD
namespace Go.Proofs.Ytneodhhoejjncaa
open Go.RowKit Go.Proofs.YtneodhhoejjncaaW.PrintWords
set_option linter.unusedVariables false
set_option linter.unusedSimpArgs false
theorem mem_insP (s : ByteArray) (x : Lst) : ∀ (l : List Sr) (a : Sr), a ∈ insP s x l ↔ a = (s, x) ∨ a ∈ l
  | [], a => by simp [insP]
  | b :: r, a => by
    unfold insP
    split
    · rw [List.mem_cons, mem_insP s x r a, List.mem_cons]
      constructor
      · rintro (h | h | h)
        · exact Or.inr (Or.inl h)
        · exact Or.inl h
        · exact Or.inr (Or.inr h)
      · rintro (h | h | h)
        · exact Or.inr (Or.inl h)
        · exact Or.inl h
        · exact Or.inr (Or.inr h)
    · rw [List.mem_cons]
theorem pair_insP (s : ByteArray) (x : Lst) : ∀ l : List Sr, l.Pairwise (fun a b => Op.bytesLess (bytesOf a) (bytesOf b) = true) → (∀ a ∈ l, a.1 ≠ s) → (insP s x l).Pairwise fun a b => Op.bytesLess (bytesOf a) (bytesOf b) = true
  | [], _, _ => by simp [insP]
  | a :: r, h, hn => by
    obtain ⟨h1, h2⟩ := List.pairwise_cons.1 h
    have ih := pair_insP s x r h2 fun b hb => hn b (List.mem_cons_of_mem _ hb)
    unfold insP
    split
    · rename_i hl
      refine List.pairwise_cons.2 ⟨fun b hb => ?_, ih⟩
      rcases (mem_insP s x r b).1 hb with rfl | hb
      · exact hl
      · exact h1 b hb
    · rename_i hl
      have hls : Op.bytesLess s.data.toList (bytesOf a) = true := by
        cases hq : Op.bytesLess s.data.toList (bytesOf a) with
        | true => rfl
        | false =>
          have e := less_total (by unfold bytesOf; simpa using hl) hq
          exact absurd (bytes_of_data e) (hn a (List.mem_cons_self ..))
      refine List.pairwise_cons.2 ⟨fun b hb => ?_, h⟩
      rcases List.mem_cons.1 hb with rfl | hb
      · exact hls
      · exact less_trans hls (h1 b hb)
theorem listed_ins {S : StS} {xs : List Sr} (h : Listed S xs) {s : ByteArray} (hs : sK.ok s) (hS : S s = none) (x : Lst) : Listed (updS S s (some x)) (insP s x xs) := by
  have hn : ∀ a ∈ xs, a.1 ≠ s := fun a ha e => by
    obtain ⟨_, h2⟩ := (h.2 a.1 a.2).1 ha
    rw [e, hS] at h2
    cases h2
  refine ⟨pair_insP s x xs h.1 hn, fun t y => ?_⟩
  rw [mem_insP]
  unfold updS
  by_cases e : t = s
  · subst e
    rw [if_pos rfl]
    constructor
    · rintro (h1 | h1)
      · exact ⟨hs, by rw [(Prod.mk.inj h1).2]⟩
      · exact absurd rfl (hn _ h1)
    · rintro ⟨_, h1⟩
      exact Or.inl (by rw [Option.some.inj h1])
  · rw [if_neg e, h.2]
    constructor
    · rintro (h1 | h1)
      · exact absurd (Prod.mk.inj h1).1 e
      · exact h1
    · exact Or.inr
theorem listed_set {S : StS} {xs : List Sr} (h : Listed S xs) {s : ByteArray} {x0 : Lst} (hS : S s = some x0) (x : Lst) : Listed (updS S s (some x)) (setP s x xs) := by
  have hf : ∀ a : Sr, (if a.1 = s then (a.1, x) else a).1 = a.1 := fun a => by split <;> rfl
  refine ⟨List.pairwise_map.2 (h.1.imp fun {a b} hab => by
    rw [hf a, hf b]
    exact hab), fun t y => ?_⟩
  unfold setP updS
  rw [List.mem_map]
  by_cases e : t = s
  · subst e
    rw [if_pos rfl]
    constructor
    · rintro ⟨a, ha, h1⟩
      split at h1
      · rename_i h2
        obtain ⟨h3, _⟩ := (h.2 a.1 a.2).1 ha
        rw [h2] at h3
        exact ⟨h3, by rw [(Prod.mk.inj h1).2]⟩
      · rename_i h2
        exact absurd (by rw [h1]) h2
    · rintro ⟨h1, h2⟩
      refine ⟨(t, x0), (h.2 t x0).2 ⟨h1, hS⟩, ?_⟩
      rw [if_pos rfl, Option.some.inj h2]
  · rw [if_neg e, ← h.2]
    constructor
    · rintro ⟨a, ha, h1⟩
      split at h1
      · rename_i h2
        exact absurd ((Prod.mk.inj h1).1.symm.trans h2) e
      · exact h1 ▸ ha
    · intro ha
      exact ⟨(t, y), ha, if_neg e⟩
theorem len_insP (s : ByteArray) (x : Lst) : ∀ l : List Sr, (insP s x l).length = l.length + 1
  | [] => rfl
  | a :: r => by
    unfold insP
    split
    · rw [List.length_cons, len_insP s x r, List.length_cons]
    · rfl
theorem listed_one (most owner : Int) (S : StS) (x : Smp) (xs : List Sr) (hx : sK.ok x.nm) (h : Listed S xs) : Listed (oneP most owner (S, xs.length) x).2.1 (oneL most owner S x xs) ∧ (oneL most owner S x xs).length = (oneP most owner (S, xs.length) x).2.2 := by
  unfold oneP oneL
  cases hs : S x.nm with
  | none =>
    simp only [hs]
    by_cases h1 : most ≤ (xs.length : Int)
    · rw [if_pos h1, if_pos h1]
      exact ⟨h, rfl⟩
    · rw [if_neg h1, if_neg h1]
      exact ⟨listed_ins h hx hs _, len_insP _ _ _⟩
  | some was =>
    simp only [hs]
    by_cases h1 : x.time < was.x.time
    · rw [if_pos h1, if_pos h1]
      exact ⟨h, rfl⟩
    · rw [if_neg h1, if_neg h1]
      by_cases h2 : x.time = was.x.time
      · rw [if_pos h2, if_pos h2]
        exact ⟨h, rfl⟩
      · rw [if_neg h2, if_neg h2]
        exact ⟨listed_set h hs _, by unfold setP; exact List.length_map _⟩
theorem listed_samples (most owner : Int) : ∀ (l : List Smp) (S : StS) (xs : List Sr), (∀ x ∈ l, sK.ok x.nm) → Listed S xs →
    (samplesL most owner l (S, xs)).1 = (samplesP most owner l (S, xs.length)).2.1 ∧ Listed (samplesP most owner l (S, xs.length)).2.1 (samplesL most owner l (S, xs)).2 ∧ (samplesL most owner l (S, xs)).2.length = (samplesP most owner l (S, xs.length)).2.2
  | [], S, xs, _, h => ⟨rfl, h, rfl⟩
  | x :: l, S, xs, hk, h => by
    obtain ⟨h1, h2⟩ := listed_one most owner S x xs (hk x (List.mem_cons_self ..)) h
    obtain ⟨r1, r2, r3⟩ := listed_samples most owner l _ _ (fun y hy => hk y (List.mem_cons_of_mem _ hy)) h1
    have e : ((oneP most owner (S, xs.length) x).2.1, (oneL most owner S x xs).length) = (oneP most owner (S, xs.length) x).2 := by rw [h2]
    rw [e] at r1 r2 r3
    exact ⟨r1, r2, r3⟩
theorem listed_map {S : StS} {xs : List Sr} (h : Listed S xs) (g : ByteArray → Lst → Lst) : Listed (fun s => (S s).map (g s)) (xs.map fun a => (a.1, g a.1 a.2)) := by
  refine ⟨List.pairwise_map.2 (h.1.imp fun hab => hab), fun t y => ?_⟩
  rw [List.mem_map]
  constructor
  · rintro ⟨a, ha, h1⟩
    obtain ⟨rfl, rfl⟩ := Prod.mk.inj h1
    obtain ⟨h2, h3⟩ := (h.2 a.1 a.2).1 ha
    exact ⟨h2, by show (S a.1).map _ = _; rw [h3]; rfl⟩
  · rintro ⟨h1, h2⟩
    obtain ⟨x, hx, rfl⟩ := Option.map_eq_some_iff.1 h2
    exact ⟨(t, x), (h.2 t x).2 ⟨h1, hx⟩, rfl⟩
theorem listed_out {S : StS} {xs : List Sr} (h : Listed S xs) (owner : Int) (l : List Smp) : Listed (outS owner l S) (outL owner l xs) := by
  have hm := listed_map h fun s x => if x.owner = owner ∧ among l s = false then ⟨x.x, false, x.owner⟩ else x
  have e1 : (fun s => (S s).map (fun x : Lst => if x.owner = owner ∧ among l s = false then (⟨x.x, false, x.owner⟩ : Lst) else x)) = outS owner l S := by
    funext s
    unfold outS due
    cases hs : S s with
    | none => rfl
    | some x =>
      obtain ⟨y, lv, ow⟩ := x
      simp only [Option.map_some]
      congr 1
      by_cases h1 : ow = owner <;> cases h2 : among l s <;> cases lv <;> simp [h1, h2]
  have e2 : (xs.map fun a : Sr => (a.1, if a.2.owner = owner ∧ among l a.1 = false then (⟨a.2.x, false, a.2.owner⟩ : Lst) else a.2)) = outL owner l xs := by
    unfold outL
    refine List.map_congr_left fun a _ => ?_
    split <;> rfl
  rw [e1, e2] at hm
  exact hm
end Go.Proofs.Ytneodhhoejjncaa
