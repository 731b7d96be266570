/- A text of this claim, pruned by a program of the session (prune.py) to what the theorem rests on. -/
import Derived.Test.YtneodhhoejjncaaQcGMap
import Derived.Sort.KeysCollected
namespace Go.Proofs.Ytneodhhoejjncaa
open Go.RowKit Go.Maps
set_option linter.unusedVariables false
set_option linter.unusedSimpArgs false
section
variable {P : Program} {k : TypeId} {α : Type} {K : KeyT P k α} {w : World} {b : Nat} {f : α → Option Value} {cnt : Nat}
theorem list_pick {A B C : Type} (g : B → C) (fst : A → C) (ok : B → Prop) : ∀ es : List A, (∀ p ∈ es, ∃ x, ok x ∧ fst p = g x) → ∃ ks : List B, ks.map g = es.map fst ∧ ∀ x ∈ ks, ok x
  | [], _ => ⟨[], rfl, fun x h => by cases h⟩
  | p :: es, h => by
    obtain ⟨x, hx, e⟩ := h p (List.mem_cons_self ..)
    obtain ⟨ks, e2, h2⟩ := list_pick g fst ok es fun q hq => h q (List.mem_cons_of_mem _ hq)
    exact ⟨x :: ks, by rw [List.map_cons, List.map_cons, e2, e], fun y hy => (List.mem_cons.1 hy).elim (fun e => e ▸ hx) (h2 y)⟩
theorem MapAt.keysAt (h : MapAt K w b f cnt) : ∃ (es : List (Lit × DataW Value)) (ks : List α), w.ownsMap P k holdR b cnt (.map es) ∧ es.length = cnt ∧ ks.map K.lit = es.map (fun p => p.1) ∧ ks.Nodup ∧ ks.length = cnt ∧ ∀ x, x ∈ ks ↔ K.ok x ∧ (f x).isSome = true := by
  obtain ⟨D, h1, h2, h3⟩ := h
  obtain ⟨es, rfl, hp⟩ := h1.tidy K.keyed
  obtain ⟨es', he', hks⟩ := h1.keysOf
  obtain rfl : es = es' := by simpa using he'
  have hk : ∀ p ∈ es, ∃ x, K.ok x ∧ p.1 = K.lit x := fun p hp => by
    obtain ⟨v, hv⟩ := hks p hp
    obtain ⟨x, a, _, c⟩ := K.inv _ _ hv
    exact ⟨x, a, c⟩
  obtain ⟨ks, e, hok⟩ := list_pick K.lit (fun p => p.1) K.ok es hk
  have hnd : (ks.map K.lit).Nodup := by
    rw [e]
    exact List.pairwise_map.2 (hp.imp fun h => h)
  refine ⟨es, ks, h1, h2, e, ?_, ?_, fun x => ?_⟩
  · exact (List.pairwise_map.1 hnd).imp fun h e => h (congrArg _ e)
  · have := congrArg List.length e
    rw [List.length_map, List.length_map] at this
    rw [this, ← h2]
    rfl
  · have hh : ∀ x, K.ok x → ((f x).isSome = true ↔ x ∈ ks) := fun x hx => by
      rw [← here_has (h3 x hx), has_eq, List.any_eq_true]
      constructor
      · rintro ⟨p, hp, hs⟩
        have e1 := WideAt.sameKey_eq hs
        have : p.1 ∈ es.map fun p => p.1 := List.mem_map.2 ⟨p, hp, rfl⟩
        rw [← e] at this
        obtain ⟨y, hy, e2⟩ := List.mem_map.1 this
        rw [e1] at e2
        exact K.inj _ _ e2 ▸ hy
      · intro hm
        have : K.lit x ∈ ks.map K.lit := List.mem_map.2 ⟨x, hm, rfl⟩
        rw [e] at this
        obtain ⟨p, hp, e2⟩ := List.mem_map.1 this
        exact ⟨p, hp, by rw [show p.1 = K.lit x from e2]; exact WideAt.sameKey_self (isKey K hx)⟩
    constructor
    · exact fun hm => ⟨hok x hm, (hh x (hok x hm)).2 hm⟩
    · rintro ⟨h4, h5⟩
      exact (hh x h4).1 h5
theorem MapAt.keys (h : MapAt K w b f cnt) : ∃ ks : List α, ks.Nodup ∧ ks.length = cnt ∧ ∀ x, x ∈ ks ↔ K.ok x ∧ (f x).isSome = true := by
  obtain ⟨_, ks, _, _, _, h1, h2, h3⟩ := h.keysAt
  exact ⟨ks, h1, h2, h3⟩
theorem MapAt.same_count {w2 : World} {b2 : Nat} {f2 : α → Option Value} {cnt2 : Nat} (h : MapAt K w b f cnt) (h2 : MapAt K w2 b2 f2 cnt2) (hs : ∀ x, K.ok x → (f x).isSome = (f2 x).isSome) : cnt = cnt2 := by
  obtain ⟨ks, n1, l1, m1⟩ := h.keys
  obtain ⟨ks2, n2, l2, m2⟩ := h2.keys
  rw [← l1, ← l2]
  refine List.Perm.length_eq ((List.perm_ext_iff_of_nodup n1 n2).2 fun x => ?_)
  rw [m1, m2]
  constructor
  · rintro ⟨a, c⟩
    exact ⟨a, by rw [← hs x a]; exact c⟩
  · rintro ⟨a, c⟩
    exact ⟨a, by rw [hs x a]; exact c⟩
end
end Go.Proofs.Ytneodhhoejjncaa
