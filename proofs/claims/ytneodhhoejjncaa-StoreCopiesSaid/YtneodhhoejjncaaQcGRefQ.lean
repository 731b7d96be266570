/- A text of this claim, pruned by a program of the session (prune.py) to what the theorem rests on. -/
import Derived.Test.YtneodhhoejjncaaQcGRefN
import Derived.Test.YtneodhhoejjncaaQcGRefS
import Derived.Test.YtneodhhoejjncaaQcGRefP
namespace Go.Proofs.Ytneodhhoejjncaa
open Go.RowKit Go.Proofs.YtneodhhoejjncaaW.PrintWords
set_option linter.unusedVariables false
set_option linter.unusedSimpArgs false
theorem set_setP (s : ByteArray) (y : Lst) : ∀ (xs : List Sr) (k : Nat) (a : Sr), xs.Pairwise (fun a b => Op.bytesLess (bytesOf a) (bytesOf b) = true) → xs[k]? = some a → a.1 = s → xs.set k (a.1, y) = setP s y xs
  | [], k, a, _, h, _ => by simp at h
  | b :: r, 0, a, hp, h, he => by
    obtain rfl : b = a := by simpa using h
    have hr : setP s y r = r := by
      unfold setP
      refine (List.map_congr_left fun c hc => ?_).trans (List.map_id r)
      have := (List.pairwise_cons.1 hp).1 c hc
      rw [if_neg (fun e => by
        unfold bytesOf at this
        rw [e, he, less_irrefl] at this
        cases this)]
      rfl
    show (b.1, y) :: r = (if b.1 = s then (b.1, y) else b) :: setP s y r
    rw [if_pos he, hr]
  | b :: r, k + 1, a, hp, h, he => by
    have hm : a ∈ r := List.mem_of_getElem? (by simpa using h)
    have hb : b.1 ≠ s := fun e => by
      have := (List.pairwise_cons.1 hp).1 a hm
      unfold bytesOf at this
      rw [e, he, less_irrefl] at this
      cases this
    show b :: r.set k (a.1, y) = (if b.1 = s then (b.1, y) else b) :: setP s y r
    rw [if_neg hb, set_setP s y r k a (List.pairwise_cons.1 hp).2 (by simpa using h) he]
theorem oneX_listed {S : StS} {xs : List Sr} (hL : Listed S xs) (most owner : Int) (x : Smp) (hx : sK.ok x.nm) {i : Int} (hi : OfI xs x.nm i) : oneX most owner x xs i = ((oneP most owner (S, xs.length) x).1, oneL most owner S x xs) := by
  rcases hi with ⟨rfl, hno⟩ | ⟨k, a, rfl, hk, ha⟩
  · have hS : S x.nm = none := by
      cases hq : S x.nm with
      | none => rfl
      | some y => exact absurd rfl (hno _ ((hL.2 x.nm y).2 ⟨hx, hq⟩))
    unfold oneX oneP oneL
    rw [if_pos (by decide)]
    simp only [hS]
    by_cases h1 : most ≤ (xs.length : Int)
    · rw [if_pos h1, if_pos h1, if_pos h1]
    · rw [if_neg h1, if_neg h1, if_neg h1]
  · have hS : S x.nm = some a.2 := by
      rw [← ha]
      exact ((hL.2 a.1 a.2).1 (List.mem_of_getElem? hk)).2
    unfold oneX oneP oneL
    rw [if_neg (by omega), Int.toNat_natCast]
    simp only [hS, hk]
    by_cases h1 : x.time < a.2.x.time
    · rw [if_pos h1, if_pos h1, if_pos h1]
    · rw [if_neg h1, if_neg h1, if_neg h1]
      by_cases h2 : x.time = a.2.x.time
      · rw [if_pos h2, if_pos h2, if_pos h2]
      · rw [if_neg h2, if_neg h2, if_neg h2, set_setP x.nm _ xs k a hL.1 hk ha]
theorem rone_calls (base R : Nat) (most owner : Int) (xs : List Sr) (v : Value) (S : StS) (x : Smp) (w : World) (h : RefAt w base R most xs v) (hbase : base ≤ w.heap.size) (hl : xs.length ≤ 1099511627776) (hL : Listed S xs) (hx : sK.ok x.nm) :
    Calls Try.prog 26 #[.pointer (some ⟨R, 0, none⟩), .int .i64 owner, .agg (smpL x).toArray] w fun e w' => e = .returned (.agg (snL (oneP most owner (S, xs.length) x).1).toArray) ∧ ∃ v', RLeft w w' base R most v v' (oneL most owner S x xs) := by
  by_cases hs : ∃ a ∈ xs, a.1 = x.nm
  · exact (rone_some base R most owner xs v x w h hbase hl hs).mono fun e w' ⟨i, hi, he, hr⟩ => by
      rw [oneX_listed hL most owner x hx hi] at he hr
      exact ⟨he, hr⟩
  · exact (rone_none base R most owner xs v x w h hbase hl (fun a ha e => hs ⟨a, ha, e⟩)).mono fun e w' ⟨i, hi, he, hr⟩ => by
      rw [oneX_listed hL most owner x hx hi] at he hr
      exact ⟨he, hr⟩
theorem samplesL_snoc (most owner : Int) (x : Smp) : ∀ (l : List Smp) (st : StS × List Sr), samplesL most owner (l ++ [x]) st = ((oneP most owner ((samplesL most owner l st).1, (samplesL most owner l st).2.length) x).2.1, oneL most owner (samplesL most owner l st).1 x (samplesL most owner l st).2)
  | [], _ => rfl
  | y :: l, st => samplesL_snoc most owner x l _
theorem RLeft.trans {w w1 w2 : World} {base R : Nat} {most : Int} {v v1 v2 : Value} {ys zs : List Sr} (h : RLeft w w1 base R most v v1 ys) (k : RLeft w1 w2 base R most v1 v2 zs) : RLeft w w2 base R most v v2 zs :=
  ⟨k.st, h.kept.trans k.kept h.grows, fun q hq => by
    rcases k.grows q hq with g | g
    · exact h.grows q g
    · exact Or.inr (Nat.le_trans h.kept.size g)⟩
theorem RLeft.grown {w W W' : World} {base R : Nat} {most : Int} {v v' : Value} {ys : List Sr} {row : Option Nat} (h : RLeft w W base R most v v' ys) (hg : W.grownBy W' row) (hr : ∀ k, row = some k → w.heap.size ≤ k ∧ ¬ rfoot R v' k) : RLeft w W' base R most v v' ys :=
  ⟨h.st.kept fun k hk => hg.block k (h.st.lt hk) (fun e => (hr k e.symm).2 hk), h.kept.grown hg (fun k e => Or.inl (hr k e).1), h.grows⟩
end Go.Proofs.Ytneodhhoejjncaa
