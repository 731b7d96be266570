/- A text of this claim, pruned by a program of the session (prune.py) to what the theorem rests on. -/
import Derived.Test.YtneodhhoejjncaaQcGEqu
import Derived.Test.YtneodhhoejjncaaQcGPlay
namespace Go.Proofs.Ytneodhhoejjncaa
open Go.RowKit Go.Proofs.YtneodhhoejjncaaW.PrintWords Go.Proofs.YtneodhhoejjncaaW.PrintMore Go.Proofs.Ytneodhhoejjncaa.PFew
set_option linter.unusedVariables false
set_option linter.unusedSimpArgs false
theorem few_l10 (l : List S31) (hl : ∀ x ∈ l, x.f1.length ≤ 4398046511104) : ∀ (n i : Nat) (a : Int) (k : Nat), i + n = 11 → n < k → 0 ≤ a → a ≤ i * 4398046511104 →
    (∀ j x, l[j]? = some x → j < i → ((x.f1.length : Nat) : Int) ≤ a) →
    ∃ b, odometerlaw16_few.l0 k l 10 a (i : Int) = some b ∧ (b = true → l.length ≤ 10 ∧ ∀ x ∈ l, x.f1.length ≤ 200) := by
  intro n
  induction n with
  | zero =>
    intro i a k hi hk h0 ha hj
    obtain ⟨k, rfl⟩ : ∃ n, k = n + 1 := ⟨k - 1, by omega⟩
    rw [odometerlaw16_few.l0]
    by_cases hlt : i < l.length
    · rw [if_pos (by omega), if_neg (by omega), if_neg (by omega)]
      exact ⟨_, rfl, fun h => by cases h⟩
    · rw [if_neg (by omega)]
      by_cases h30 : l.length ≤ 10
      · rw [if_pos (by omega)]
        refine ⟨_, rfl, fun h => ⟨h30, fun x hx => ?_⟩⟩
        have h2 := of_decide_eq_true h
        obtain ⟨j, hjl, rfl⟩ := List.getElem_of_mem hx
        have := hj j _ (List.getElem?_eq_getElem hjl) (by omega)
        omega
      · rw [if_neg (by omega)]
        exact ⟨_, rfl, fun h => by cases h⟩
  | succ n ih =>
    intro i a k hi hk h0 ha hj
    obtain ⟨k, rfl⟩ : ∃ n, k = n + 1 := ⟨k - 1, by omega⟩
    rw [odometerlaw16_few.l0]
    by_cases hlt : i < l.length
    · have hlen := hl l[i] (List.getElem_mem hlt)
      have hr : rd_T31 l (i : Int) = l[i] := by simp [rd_T31, hlt]
      rw [if_pos (by omega), if_pos (by omega), if_pos (by omega), hr, wrap_in (a + _) (by omega) (by omega), wrap_in ((i : Int) + 1) (by omega) (by omega)]
      refine ih (i + 1) _ k (by omega) (by omega) (by omega) (by omega) fun j x hx hji => ?_
      by_cases he : j = i
      · subst he
        rw [List.getElem?_eq_getElem hlt] at hx
        obtain rfl := Option.some.inj hx
        omega
      · have := hj j x hx (by omega)
        omega
    · rw [if_neg (by omega), if_pos (by omega)]
      refine ⟨_, rfl, fun h => ⟨by omega, fun x hx => ?_⟩⟩
      have h2 := of_decide_eq_true h
      obtain ⟨j, hjl, rfl⟩ := List.getElem_of_mem hx
      have := hj j _ (List.getElem?_eq_getElem hjl) (by omega)
      omega
theorem few_f10 (l : List S31) (hl : ∀ x ∈ l, x.f1.length ≤ 4398046511104) : ∃ b, odometerlaw16_few.f 32 l 10 = some b ∧ (b = true → l.length ≤ 10 ∧ ∀ x ∈ l, x.f1.length ≤ 200) :=
  few_l10 l hl 11 0 0 32 (by omega) (by omega) (by omega) (by omega) fun j x _ h => absurd h (by omega)
def ltR (a b : Sr) : Prop := Op.bytesLess (bytesOf a) (bytesOf b) = true
theorem ltR_irrefl (a : Sr) : ¬ ltR a a := fun h => by
  unfold ltR at h
  rw [less_irrefl] at h
  cases h
theorem sub_sorted : ∀ (ys xs : List Sr), ys.Pairwise ltR → xs.Pairwise ltR → (∀ a ∈ xs, a ∈ ys) → xs.Sublist ys
  | [], xs, _, _, h => by
    cases xs with
    | nil => exact List.Sublist.slnil
    | cons a r => exact absurd (h a (List.mem_cons_self ..)) (by simp)
  | b :: t, [], _, _, _ => List.nil_sublist _
  | b :: t, a :: r, hy, hx, h => by
    obtain ⟨hx1, hx2⟩ := List.pairwise_cons.1 hx
    obtain ⟨hy1, hy2⟩ := List.pairwise_cons.1 hy
    by_cases e : a = b
    · rw [e]
      refine List.Sublist.cons_cons _ (sub_sorted t r hy2 hx2 fun c hc => ?_)
      rcases List.mem_cons.1 (h c (List.mem_cons_of_mem _ hc)) with e2 | hc2
      · have := hx1 c hc
        rw [e2, e] at this
        exact absurd this (ltR_irrefl b)
      · exact hc2
    · have ha : a ∈ t := (List.mem_cons.1 (h a (List.mem_cons_self ..))).resolve_left e
      have hba : ltR b a := hy1 a ha
      refine List.Sublist.cons _ (sub_sorted t (a :: r) hy2 hx fun c hc => ?_)
      rcases List.mem_cons.1 (h c hc) with e2 | hc2
      · rcases List.mem_cons.1 hc with e3 | hc3
        · exact absurd (e3.symm.trans e2) e
        · have h3 := hx1 c hc3
          rw [e2] at h3
          exact absurd (less_trans h3 hba) (ltR_irrefl a)
      · exact hc2
theorem within_iff {f1 f2 : StF} {c1 c2 : Nat} {xs ys : List Sr} (h1 : Listed (er f1) xs) (h2 : Listed (er f2) ys) (l1 : xs.length = c1) (l2 : ys.length = c2) : (c1 = c2 ∧ Within f1 f2) ↔ xs = ys := by
  constructor
  · rintro ⟨hc, hw⟩
    have hs := sub_sorted ys xs h2.1 h1.1 fun a ha => by
      obtain ⟨h3, h4⟩ := (h1.2 a.1 a.2).1 ha
      exact (h2.2 a.1 a.2).2 ⟨h3, hw a.1 a.2 h3 h4⟩
    exact hs.eq_of_length (by omega)
  · intro e
    subst e
    refine ⟨by omega, fun s x hs hx => ?_⟩
    exact ((h2.2 s x).1 ((h1.2 s x).2 ⟨hs, hx⟩)).2
theorem played_kept {w wr W : World} {B mb R : Nat} {m : Int} {i : Nat} {f : StF} {cnt : Nat} {xs : List Sr} {v : Value} {F : Nat → Prop} (h : Played w wr B mb R m i f cnt xs v) (hk : KeptOff F wr W) (hF : ∀ k, foot B mb f k ∨ rfoot R v k → ¬ F k) (hw : ∀ k, F k → w.heap.size ≤ k) : Played w W B mb R m i f cnt xs v :=
  ⟨h.st.off hk fun k hf => hF k (Or.inl hf), h.rf.off hk fun k hf => hF k (Or.inr hf), h.ls, h.len, h.few, h.below.trans (hk.toBelow h.below.size hw), h.foot, h.rfoot⟩
structure Pair (w wr : World) (m : Int) (B mb R i : Nat) (f : StF) (cnt : Nat) (xs : List Sr) (v : Value) (B2 mb2 R2 i2 : Nat) (f2 : StF) (cnt2 : Nat) (xs2 : List Sr) (v2 : Value) : Prop where
  p1 : Played w wr B mb R m i f cnt xs v
  p2 : Played w wr B2 mb2 R2 m i2 f2 cnt2 xs2 v2
  dis : ∀ k, foot B mb f k ∨ rfoot R v k → ¬ (foot B2 mb2 f2 k ∨ rfoot R2 v2 k)
theorem Pair.swap {w wr : World} {m : Int} {B mb R i : Nat} {f : StF} {cnt : Nat} {xs : List Sr} {v : Value} {B2 mb2 R2 i2 : Nat} {f2 : StF} {cnt2 : Nat} {xs2 : List Sr} {v2 : Value} (h : Pair w wr m B mb R i f cnt xs v B2 mb2 R2 i2 f2 cnt2 xs2 v2) : Pair w wr m B2 mb2 R2 i2 f2 cnt2 xs2 v2 B mb R i f cnt xs v := ⟨h.p2, h.p1, fun k h2 h1 => h.dis k h1 h2⟩
theorem Pair.step {w wr W : World} {m : Int} {B mb R i : Nat} {f : StF} {cnt : Nat} {xs : List Sr} {v : Value} {B2 mb2 R2 i2 : Nat} {f2 : StF} {cnt2 : Nat} {xs2 : List Sr} {v2 : Value} (h : Pair w wr m B mb R i f cnt xs v B2 mb2 R2 i2 f2 cnt2 xs2 v2) (hb : Below wr.heap.size wr W) : Pair w W m B mb R i f cnt xs v B2 mb2 R2 i2 f2 cnt2 xs2 v2 := ⟨h.p1.step hb, h.p2.step hb, h.dis⟩
theorem pair_put {w w4 w5 w6 : World} {m ow : Int} {B mb R i n : Nat} {f f5 : StF} {cnt : Nat} {xs : List Sr} {v v6 : Value} {B2 mb2 R2 i2 : Nat} {f2 : StF} {cnt2 : Nat} {xs2 : List Sr} {v2 : Value} {Li : List Smp} (h : Pair w w4 m B mb R i f cnt xs v B2 mb2 R2 i2 f2 cnt2 xs2 v2) (hk : ∀ x ∈ Li, sK.ok x.nm) (hn : Li.length = n) (hn2 : n ≤ 200)
    (he : er f5 = outS ow Li (samplesP m ow Li (er f, cnt)).2.1) (hL : Left w4 w5 B mb m f f5 (samplesP m ow Li (er f, cnt)).2.2) (hR : RLeft w5 w6 w.heap.size R m v v6 (outL ow Li (samplesL m ow Li (er f, xs)).2)) :
    Pair w w6 m B mb R (i + 1) f5 (samplesP m ow Li (er f, cnt)).2.2 (outL ow Li (samplesL m ow Li (er f, xs)).2) v6 B2 mb2 R2 i2 f2 cnt2 xs2 v2 := by
  have h5 := played_kept h.p2 hL.kept (fun k hk2 hf => h.dis k (Or.inl hf) hk2) h.p1.foot
  have h6 := played_kept h5 hR.kept (fun k hk2 hf => h.dis k (Or.inr hf) hk2) h.p1.rfoot
  have hlt : ∀ k, foot B2 mb2 f2 k ∨ rfoot R2 v2 k → k < w4.heap.size := fun k hk2 => by
    rcases hk2 with hk2 | hk2
    · exact h.p2.st.lt hk2
    · exact h.p2.rf.lt hk2
  refine ⟨played_put h.p1 hk hn hn2 he hL hR, h6, fun k hk1 hk2 => ?_⟩
  have hk3 := hlt k hk2
  rcases hk1 with hk1 | hk1
  · rcases hL.grows k hk1 with g | g
    · exact h.dis k (Or.inl g) hk2
    · omega
  · rcases hR.grows k hk1 with g | g
    · exact h.dis k (Or.inr g) hk2
    · have := hL.kept.size; omega
end Go.Proofs.Ytneodhhoejjncaa
