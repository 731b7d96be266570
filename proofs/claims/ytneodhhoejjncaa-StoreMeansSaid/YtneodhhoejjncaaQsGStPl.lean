/- A text of this claim, pruned by a program of the session (prune.py) to what the theorem rests on. -/
import Derived.Test.YtneodhhoejjncaaQsGStK
import Derived.Test.YtneodhhoejjncaaQsWEqStruct
import Derived.Laws.StructEq
namespace Go.Proofs.Ytneodhhoejjncaa
open Go.RowKit Go.Proofs.YtneodhhoejjncaaW.PrintWords Go.Proofs.Ytneodhhoejjncaa.PFew
set_option linter.unusedVariables false
set_option linter.unusedSimpArgs false
theorem eqSmp (d : Nat) (w : World) (x y : Smp) : (Op.equalIn (d + 2) 34 (.agg #[.string x.nm, .int .i64 x.val, .int .i64 x.time, .bool x.counts]) (.agg #[.string y.nm, .int .i64 y.val, .int .i64 y.time, .bool y.counts])).run Try.prog w = .ok (x.nm.toList == y.nm.toList && (x.val == y.val && (x.time == y.time && (x.counts == y.counts)))) w := by
  refine eqA_of Try.underlying34 (by kernel_rfl) ?_
  refine eqf_cons (by rfl) (by go_simp; rfl) (by go_simp; rfl) (by go_simp) ?_
  refine eqf_cons (by rfl) (by go_simp; rfl) (by go_simp; rfl) (by go_simp) ?_
  refine eqf_cons (by rfl) (by go_simp; rfl) (by go_simp; rfl) (by go_simp) ?_
  exact eqf_last (by rfl) (by go_simp; rfl) (by go_simp; rfl) (by go_simp)
theorem smp_neq (x : Smp) (w : World) : (binOp .neq 34 (.agg #[.string x.nm, .int .i64 x.val, .int .i64 x.time, .bool x.counts]) (.agg #[.string x.nm, .int .i64 x.val, .int .i64 x.time, .bool x.counts])).run Try.prog w = .ok (.bool false) w := by
  have h := eqSmp 9998 w x x
  simp only [beq_self_eq_true, Bool.and_self] at h
  rw [run_neq_struct, h]
  rfl
def lastOf (L : List Smp) (s : ByteArray) : Option Smp := L.reverse.find? fun x => decide (x.nm = s)
theorem lastOf_snoc (L : List Smp) (x : Smp) (s : ByteArray) : lastOf (L ++ [x]) s = if x.nm = s then some x else lastOf L s := by
  unfold lastOf
  rw [List.reverse_append, List.reverse_singleton, List.singleton_append]
  by_cases h : x.nm = s
  · rw [List.find?_cons_of_pos (by simpa using h), if_pos h]
  · rw [List.find?_cons_of_neg (by simpa using h), if_neg h]
theorem lastOf_take (L : List Smp) (s : ByteArray) (n : Nat) (h : ∀ r x, L[r]? = some x → n ≤ r → x.nm ≠ s) : lastOf L s = lastOf (L.take n) s := by
  unfold lastOf
  have e : L.reverse = (L.drop n).reverse ++ (L.take n).reverse := by rw [← List.reverse_append, List.take_append_drop]
  rw [e, List.find?_append]
  have : (L.drop n).reverse.find? (fun x => decide (x.nm = s)) = none := by
    rw [List.find?_eq_none]
    intro x hx
    rw [List.mem_reverse] at hx
    obtain ⟨i, hi, hxi⟩ := List.getElem_of_mem hx
    rw [List.getElem_drop] at hxi
    simpa using h (n + i) x (by rw [← hxi]; exact List.getElem?_eq_getElem _) (by omega)
  rw [this]
  rfl
theorem lastOf_at (L : List Smp) (s : ByteArray) (q : Nat) (hq : q < L.length) (hs : L[q].nm = s) (h : ∀ r x, L[r]? = some x → q + 1 ≤ r → x.nm ≠ s) : lastOf L s = some L[q] := by
  rw [lastOf_take L s (q + 1) h, List.take_succ_eq_append_getElem hq, lastOf_snoc, if_pos hs]
def Inv (S : StS) (L : List Smp) : Prop := ∀ s, lastOf L s = (S s).map (·.x)
section
variable (most owner : Int) (st : StS × Nat) (x : Smp)
theorem oneP_x : (oneP most owner st x).1.x = x := by
  unfold oneP
  split
  · split <;> rfl
  · split
    · rfl
    · split <;> rfl
theorem oneP_verdict : 1 ≤ (oneP most owner st x).1.verdict ∧ (oneP most owner st x).1.verdict ≤ 4 := by
  unfold oneP
  split
  · split <;> simp
  · split
    · simp
    · split <;> simp
theorem oneP_not (h : (oneP most owner st x).1.verdict ≠ 1) : (oneP most owner st x).1.chain = false ∧ (oneP most owner st x).2 = st := by
  cases hs : st.1 x.nm with
  | none =>
    unfold oneP at h ⊢
    simp only [hs] at h ⊢
    by_cases h1 : most ≤ (st.2 : Int)
    · rw [if_pos h1]
      exact ⟨rfl, rfl⟩
    · rw [if_neg h1] at h
      exact absurd rfl h
  | some w0 =>
    unfold oneP at h ⊢
    simp only [hs] at h ⊢
    by_cases h1 : x.time < w0.x.time
    · rw [if_pos h1]
      exact ⟨rfl, rfl⟩
    · rw [if_neg h1] at h ⊢
      by_cases h2 : x.time = w0.x.time
      · rw [if_pos h2]
        exact ⟨rfl, rfl⟩
      · rw [if_neg h2] at h
        exact absurd rfl h
theorem oneP_yes (h : (oneP most owner st x).1.verdict = 1) : (oneP most owner st x).2.1 = updS st.1 x.nm (some ⟨x, true, owner⟩) ∧ ∀ was, st.1 x.nm = some was → was.x.time < x.time ∧ ((oneP most owner st x).1.chain = true → (oneP most owner st x).1.ahead = was.x.val) := by
  cases hs : st.1 x.nm with
  | none =>
    unfold oneP at h ⊢
    simp only [hs] at h ⊢
    split at h
    · cases h
    · rename_i hm
      rw [if_neg hm]
      exact ⟨rfl, fun was e => by cases e⟩
  | some w0 =>
    unfold oneP at h ⊢
    simp only [hs] at h ⊢
    split at h
    · cases h
    · rename_i h1
      split at h
      · cases h
      · rename_i h2
        rw [if_neg h1, if_neg h2]
        refine ⟨rfl, fun was e => ?_⟩
        obtain rfl := Option.some.inj e
        refine ⟨by omega, fun hc => ?_⟩
        show (if w0.live then w0.x.val else 0) = _
        have hl : w0.live = true := hc
        rw [hl]
        rfl
theorem oneP_room (h : (st.2 : Int) ≤ most) : ((oneP most owner st x).2.2 : Int) ≤ most := by
  unfold oneP
  split
  · split
    · exact h
    · show ((st.2 + 1 : Nat) : Int) ≤ most
      omega
  · split
    · exact h
    · split
      · exact h
      · exact h
end
theorem samplesP_room (most owner : Int) : ∀ (l : List Smp) (st : StS × Nat), (st.2 : Int) ≤ most → ((samplesP most owner l st).2.2 : Int) ≤ most
  | [], _, h => h
  | x :: l, st, h => samplesP_room most owner l _ (oneP_room most owner st x h)
theorem samplesP_get (most owner : Int) : ∀ (l : List Smp) (st : StS × Nat) (k : Nat) (x : Smp), l[k]? = some x → (samplesP most owner l st).1[k]? = some (oneP most owner (samplesP most owner (l.take k) st).2 x).1
  | [], _, _, _, h => by simp at h
  | y :: l, st, 0, x, h => by
    obtain rfl : y = x := by simpa using h
    rfl
  | y :: l, st, k + 1, x, h => by
    have := samplesP_get most owner l (oneP most owner st y).2 k x (by simpa using h)
    exact this
theorem samplesP_next (most owner : Int) (l : List Smp) (st : StS × Nat) (k : Nat) (x : Smp) (h : l[k]? = some x) : (samplesP most owner (l.take (k + 1)) st).2 = (oneP most owner (samplesP most owner (l.take k) st).2 x).2 := by
  have hk : k < l.length := by
    rcases Nat.lt_or_ge k l.length with h1 | h1
    · exact h1
    · rw [List.getElem?_eq_none h1] at h; cases h
  rw [List.getElem?_eq_getElem hk] at h
  obtain rfl := Option.some.inj h
  rw [List.take_succ_eq_append_getElem hk, samplesP_snoc]
theorem inv_step {S : StS} {L : List Smp} (h : Inv S L) (x : Smp) (owner : Int) : Inv (updS S x.nm (some ⟨x, true, owner⟩)) (L ++ [x]) := fun s => by
  rw [lastOf_snoc]
  unfold updS
  by_cases e : s = x.nm
  · rw [if_pos e, if_pos e.symm]
    rfl
  · rw [if_neg e, if_neg (fun h => e h.symm)]
    exact h s
theorem inv_out {S : StS} {L : List Smp} (h : Inv S L) (owner : Int) (l : List Smp) : Inv (outS owner l S) L := fun s => by
  rw [h s]
  unfold outS
  rw [Option.map_map]
  congr 1
  funext y
  simp only [Function.comp]
  split <;> rfl
theorem flat_get {α : Type} (f : α → List Value) (n : Nat) (hf : ∀ x, (f x).length = n) : ∀ (l : List α) (k : Nat) (x : α) (j : Nat), l[k]? = some x → j < n → (l.flatMap f)[k * n + j]? = (f x)[j]?
  | [], k, x, j, h, _ => by simp at h
  | y :: l, 0, x, j, h, hj => by
    obtain rfl : y = x := by simpa using h
    rw [List.flatMap_cons, List.getElem?_append_left (by rw [hf]; omega), Nat.zero_mul, Nat.zero_add]
  | y :: l, k + 1, x, j, h, hj => by
    have := flat_get f n hf l k x j (by simpa using h) hj
    rw [List.flatMap_cons, List.getElem?_append_right (by rw [hf, Nat.succ_mul]; omega), hf, ← this]
    congr 1
    rw [Nat.succ_mul]
    omega
theorem snF_get (l : List Sn) (k : Nat) (x : Sn) (j : Nat) (h : l[k]? = some x) (hj : j < 7) : (snF l)[k * 7 + j]? = (snL x)[j]? := flat_get snL 7 (fun _ => rfl) l k x j h hj
def smpF (l : List Smp) : List Value := l.flatMap smpL
theorem smpF_get (l : List Smp) (k : Nat) (x : Smp) (j : Nat) (h : l[k]? = some x) (hj : j < 4) : (smpF l)[k * 4 + j]? = (smpL x)[j]? := flat_get smpL 4 (fun _ => rfl) l k x j h hj
theorem wrap_in (n : Int) (h1 : -9223372036854775808 ≤ n) (h2 : n ≤ 9223372036854775807) : wrap64 n = n := by unfold wrap64; omega
theorem few_l0 (l : List S31) (hl : ∀ x ∈ l, x.f1.length ≤ 4398046511104) : ∀ (n i : Nat) (a : Int) (k : Nat), i + n = 31 → n < k → 0 ≤ a → a ≤ i * 4398046511104 →
    (∀ j x, l[j]? = some x → j < i → ((x.f1.length : Nat) : Int) ≤ a) →
    ∃ b, odometerlaw16_few.l0 k l 30 a (i : Int) = some b ∧ (b = true → l.length ≤ 30 ∧ ∀ x ∈ l, x.f1.length ≤ 200) := by
  intro n
  induction n with
  | zero =>
    intro i a k hi hk h0 ha hj
    obtain ⟨k, rfl⟩ : ∃ n, k = n + 1 := ⟨k - 1, by omega⟩
    rw [odometerlaw16_few.l0]
    by_cases hlt : i < l.length
    · rw [if_pos (by omega), if_neg (by omega), if_neg (by omega)]
      exact ⟨_, rfl, fun h => by cases h⟩
    · rw [if_neg (by omega)]
      by_cases h30 : l.length ≤ 30
      · rw [if_pos (by omega)]
        refine ⟨_, rfl, fun h => ⟨h30, fun x hx => ?_⟩⟩
        have h2 := of_decide_eq_true h
        obtain ⟨j, hjl, rfl⟩ := List.getElem_of_mem hx
        have := hj j _ (List.getElem?_eq_getElem hjl) (by omega)
        omega
      · rw [if_neg (by omega)]
        exact ⟨_, rfl, fun h => by cases h⟩
  | succ n ih =>
    intro i a k hi hk h0 ha hj
    obtain ⟨k, rfl⟩ : ∃ n, k = n + 1 := ⟨k - 1, by omega⟩
    rw [odometerlaw16_few.l0]
    by_cases hlt : i < l.length
    · have hlen := hl l[i] (List.getElem_mem hlt)
      have hr : rd_T31 l (i : Int) = l[i] := by simp [rd_T31, hlt]
      rw [if_pos (by omega), if_pos (by omega), if_pos (by omega), hr, wrap_in (a + _) (by omega) (by omega), wrap_in ((i : Int) + 1) (by omega) (by omega)]
      refine ih (i + 1) _ k (by omega) (by omega) (by omega) (by omega) fun j x hx hji => ?_
      by_cases he : j = i
      · subst he
        rw [List.getElem?_eq_getElem hlt] at hx
        obtain rfl := Option.some.inj hx
        omega
      · have := hj j x hx (by omega)
        omega
    · rw [if_neg (by omega), if_pos (by omega)]
      refine ⟨_, rfl, fun h => ⟨by omega, fun x hx => ?_⟩⟩
      have h2 := of_decide_eq_true h
      obtain ⟨j, hjl, rfl⟩ := List.getElem_of_mem hx
      have := hj j _ (List.getElem?_eq_getElem hjl) (by omega)
      omega
theorem few_f (l : List S31) (hl : ∀ x ∈ l, x.f1.length ≤ 4398046511104) : ∃ b, odometerlaw16_few.f 32 l 30 = some b ∧ (b = true → l.length ≤ 30 ∧ ∀ x ∈ l, x.f1.length ≤ 200) :=
  few_l0 l hl 31 0 0 32 (by omega) (by omega) (by omega) (by omega) fun j x _ h => absurd h (by omega)
end Go.Proofs.Ytneodhhoejjncaa
