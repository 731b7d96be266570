/- A text of this claim, pruned by a program of the session (prune.py) to what the theorem rests on. -/
import Derived.Test.YtcikjeiebpmmcaaGreatQyPureMchFillb
import Derived.Test.YtcikjeiebpmmcaaGreatQyPureMchLet
namespace Go.Proofs.YtcikjeiebpmmcaaGreat.PureMch
open Go.RowKit Go.Proofs.YtcikjeiebpmmcaaGreat Go.Proofs.YtcikjeiebpmmcaaGreat.PMch Go.Proofs.YtcikjeiebpmmcaaGreatW.PrintWords
set_option linter.unusedVariables false
set_option linter.unusedSimpArgs false
def scanL : List UInt8 → Option Nat
  | [] => some 0
  | c :: r => if c = 42 then (scanL r).map (· + 1) else if c = 92 then
      match r with
      | [] => none
      | d :: r' => if d = 42 ∨ d = 63 ∨ d = 92 then scanL r' else none
    else scanL r
theorem scan_star (r : List UInt8) : scanL (42 :: r) = (scanL r).map (· + 1) := by rw [scanL.eq_def]; simp
theorem scan_plain (c : UInt8) (r : List UInt8) (h1 : c ≠ 42) (h2 : c ≠ 92) : scanL (c :: r) = scanL r := by rw [scanL.eq_def]; simp only [if_neg h1, if_neg h2]
theorem scan_end : scanL [92] = none := by simp [scanL]
theorem scan_esc (d : UInt8) (r : List UInt8) (h : d = 42 ∨ d = 63 ∨ d = 92) : scanL (92 :: d :: r) = scanL r := by
  rw [scanL.eq_def]; simp only [show ¬ ((92 : UInt8) = 42) by decide, if_false, if_true, if_pos h]
theorem scan_bad (d : UInt8) (r : List UInt8) (h : ¬ (d = 42 ∨ d = 63 ∨ d = 92)) : scanL (92 :: d :: r) = none := by
  rw [scanL.eq_def]; simp only [show ¬ ((92 : UInt8) = 42) by decide, if_false, if_true, if_neg h]
theorem drop_at (s : ByteArray) (i : Nat) (h : i < s.size) : s.data.toList.drop i = s[i] :: s.data.toList.drop (i + 1) := by
  rw [List.drop_eq_getElem_cons (by simpa using h)]
  rfl
theorem esc_ix (d : UInt8) : (Lib.indexByte [42, 63, 92] d < 0) ↔ ¬ (d = 42 ∨ d = 63 ∨ d = 92) := by
  constructor
  · intro h hd
    have e : Lib.indexByte [42, 63, 92] d = -1 := by have := Lib.indexByte_ge [42, 63, 92] d; omega
    have hn := Lib.indexByte_none e
    rcases hd with rfl | rfl | rfl
    · exact hn 0 rfl
    · exact hn 1 rfl
    · exact hn 2 rfl
  · intro h
    refine Int.not_le.1 fun h0 => h ?_
    obtain ⟨o, ho⟩ := Int.eq_ofNat_of_zero_le h0
    have hs := (Lib.indexByte_some ho).1
    match o, hs with
    | 0, hs => exact Or.inl (Option.some.inj hs).symm
    | 1, hs => exact Or.inr (Or.inl (Option.some.inj hs).symm)
    | 2, hs => exact Or.inr (Or.inr (Option.some.inj hs).symm)
    | n + 3, hs => simp at hs
theorem push_ok (out : List (List S103)) (x : S103) (i j : Nat) (hj : j = out.length - 1) (h0 : 0 < out.length) (hp : ∀ p ∈ out, p.length ≤ i) :
    (out.set j (rd_L3 out (j : Int) ++ [x])).length = out.length ∧ ∀ p ∈ out.set j (rd_L3 out (j : Int) ++ [x]), p.length ≤ i + 1 := by
  refine ⟨by simp, fun p hm => ?_⟩
  rcases List.mem_or_eq_of_mem_set hm with h | rfl
  · have := hp p h
    omega
  · have hjl : j < out.length := by omega
    have hr : rd_L3 out (j : Int) = out[j] := by simp [rd_L3, hjl]
    rw [hr, List.length_append, List.length_singleton]
    have := hp _ (List.getElem_mem hjl)
    omega
theorem last_len (out : List (List S103)) (i j : Nat) (hj : j = out.length - 1) (h0 : 0 < out.length) (hp : ∀ p ∈ out, p.length ≤ i) : (rd_L3 out (j : Int)).length ≤ i := by
  have hjl : j < out.length := by omega
  have hr : rd_L3 out (j : Int) = out[j] := by simp [rd_L3, hjl]
  rw [hr]
  exact hp _ (List.getElem_mem hjl)
theorem pieces_l0 (s : ByteArray) (hs : s.size ≤ 100000) : ∀ (k i : Nat) (out : List (List S103)), i ≤ s.size → s.size < i + k → 0 < out.length → out.length ≤ i + 1 → (∀ p ∈ out, p.length ≤ i) →
    ∃ ps b, relabel_pieces.l0 k s out (i : Int) = some (ps, b) ∧ (ps.length ≤ s.size + 1 ∧ ∀ p ∈ ps, p.length ≤ s.size) ∧ (match scanL (s.data.toList.drop i) with | none => b = false | some n => ps.length = out.length + n ∧ b = decide (out.length + n ≤ 10 ∧ s.size ≤ 1024))
  | 0, i, out, hi, hk, h0, ho, hp => by omega
  | k + 1, i, out, hi, hk, h0, ho, hp => by
    rw [relabel_pieces.l0]
    by_cases hlt : i < s.size
    · have hw1 : wrap64 ((i : Int) + 1) = ((i + 1 : Nat) : Int) := by rw [wrap_in _ (by omega) (by omega)]; omega
      have hwl : wrap64 ((out.length : Int) - 1) = ((out.length - 1 : Nat) : Int) := by rw [wrap_in _ (by omega) (by omega)]; omega
      have hll := last_len out i _ rfl h0 hp
      rw [if_pos (by omega), if_pos (by omega), bt_nat s i hlt, hw1, hwl, drop_at s i hlt]
      by_cases h42 : s[i] = 42
      · rw [if_pos (by rw [h42]; rfl), if_pos (by omega), h42, scan_star]
        obtain ⟨ps, b, h1, hS, h2⟩ := pieces_l0 s hs k (i + 1) (out ++ [[]]) (by omega) (by omega) (by simp) (by simp; omega) (fun p hm => by
          rcases List.mem_append.1 hm with h | h
          · have := hp p h; omega
          · obtain rfl := List.mem_singleton.1 h; simp)
        refine ⟨ps, b, h1, hS, ?_⟩
        cases hsc : scanL (s.data.toList.drop (i + 1)) with
        | none => rw [hsc] at h2; exact h2
        | some n =>
          rw [hsc] at h2
          simp only [List.length_append, List.length_singleton] at h2
          refine (show ps.length = out.length + (n + 1) ∧ b = decide (out.length + (n + 1) ≤ 10 ∧ s.size ≤ 1024) from ⟨by have := h2.1; omega, ?_⟩)
          rw [h2.2]
          exact decide_eq_decide.2 (by omega)
      · have hn42 : s[i].toNat ≠ 42 := fun h => h42 (UInt8.toNat_inj.1 (by rw [h]; rfl))
        rw [if_neg (by omega)]
        by_cases h63 : s[i] = 63
        · obtain ⟨q1, q2⟩ := push_ok out ⟨true, (s[i].toNat : Int)⟩ i _ rfl h0 hp
          rw [if_pos (by rw [h63]; rfl), if_pos (by omega), if_pos (by omega), if_pos (by omega), Int.toNat_natCast, h63, scan_plain 63 _ (by decide) (by decide)]
          rw [h63] at q1 q2
          obtain ⟨ps, b, h1, hS, h2⟩ := pieces_l0 s hs k (i + 1) _ (by omega) (by omega) (by rw [q1]; exact h0) (by rw [q1]; omega) q2
          rw [q1] at h2
          exact ⟨ps, b, h1, hS, h2⟩
        · have hn63 : s[i].toNat ≠ 63 := fun h => h63 (UInt8.toNat_inj.1 (by rw [h]; rfl))
          rw [if_neg (by omega)]
          by_cases h92 : s[i] = 92
          · rw [if_pos (by rw [h92]; rfl), h92]
            by_cases hend : i + 1 = s.size
            · rw [if_pos (by omega)]
              refine ⟨_, _, rfl, ⟨by simp, by simp⟩, ?_⟩
              rw [List.drop_of_length_le (by simp; omega), scan_end]
            · have hk1 : i + 1 < s.size := by omega
              have hw2 : wrap64 (((i + 1 : Nat) : Int) + 1) = ((i + 2 : Nat) : Int) := by rw [wrap_in _ (by omega) (by omega)]; omega
              have hix : strings_IndexByte.f (⟨#[42, 63, 92]⟩ : ByteArray) (s[i + 1].toNat : Int) = some (Lib.indexByte [42, 63, 92] s[i + 1]) := by
                unfold strings_IndexByte.f
                rw [Int.toNat_natCast, show (s[i + 1].toNat).toUInt8 = s[i + 1] from by simp]
              rw [if_neg (by omega), if_pos (by omega), if_pos (by omega), bt_nat s (i + 1) hk1, hix, Option.bind_some, drop_at s (i + 1) hk1, hw2]
              by_cases hd : s[i + 1] = 42 ∨ s[i + 1] = 63 ∨ s[i + 1] = 92
              · rw [if_neg (fun h => (esc_ix _).1 h hd), if_pos (by omega), if_pos (by omega), if_pos (by omega), Int.toNat_natCast, scan_esc _ _ hd]
                obtain ⟨q1, q2⟩ := push_ok out ⟨false, (s[i + 1].toNat : Int)⟩ i _ rfl h0 hp
                obtain ⟨ps, b, h1, hS, h2⟩ := pieces_l0 s hs k (i + 2) _ (by omega) (by omega) (by rw [q1]; exact h0) (by rw [q1]; omega) (fun p hm => Nat.le_trans (q2 p hm) (by omega))
                rw [q1] at h2
                exact ⟨ps, b, h1, hS, h2⟩
              · rw [if_pos ((esc_ix _).2 hd), scan_bad _ _ hd]
                exact ⟨_, _, rfl, ⟨by simp, by simp⟩, rfl⟩
          · have hn92 : s[i].toNat ≠ 92 := fun h => h92 (UInt8.toNat_inj.1 (by rw [h]; rfl))
            rw [if_neg (by omega), if_pos (by omega), if_pos (by omega), if_pos (by omega), Int.toNat_natCast, scan_plain _ _ h42 h92]
            obtain ⟨q1, q2⟩ := push_ok out ⟨false, (s[i].toNat : Int)⟩ i _ rfl h0 hp
            obtain ⟨ps, b, h1, hS, h2⟩ := pieces_l0 s hs k (i + 1) _ (by omega) (by omega) (by rw [q1]; exact h0) (by rw [q1]; omega) q2
            rw [q1] at h2
            exact ⟨ps, b, h1, hS, h2⟩
    · rw [if_neg (by omega), List.drop_of_length_le (by simp; omega)]
      by_cases h10 : (out.length : Int) ≤ 10
      · rw [if_pos h10]
        refine ⟨_, _, rfl, ⟨by omega, fun p hm => by have := hp p hm; omega⟩, ?_⟩
        simp only [scanL]
        refine ⟨rfl, decide_eq_decide.2 (by omega)⟩
      · rw [if_neg h10]
        refine ⟨_, _, rfl, ⟨by omega, fun p hm => by have := hp p hm; omega⟩, ?_⟩
        simp only [scanL]
        refine ⟨rfl, (decide_eq_false (by omega)).symm⟩
def cntS (l : List S70) : Nat := l.countP (·.f0)
theorem cntS_add (l : List S70) (x : S70) : cntS (l ++ [x]) = cntS l + (if x.f0 = true then 1 else 0) := by
  unfold cntS
  rw [List.countP_append, List.countP_singleton]
theorem parts_l0 (s : ByteArray) (hs : s.size ≤ 100000) : ∀ (k i : Nat) (out : List S70), i ≤ s.size → s.size < i + k → out.length ≤ i → cntS out ≤ i →
    ∃ ps b, odometerref29_Parts.l0 k s out (cntS out : Int) (i : Int) = some (ps, b) ∧ ps.length ≤ s.size ∧ (match scanL (s.data.toList.drop i) with | none => b = false | some n => cntS ps = cntS out + n ∧ b = decide (cntS out + n ≤ 9 ∧ s.size ≤ 1024))
  | 0, i, out, hi, hk, ho, hp => by omega
  | k + 1, i, out, hi, hk, ho, hp => by
    rw [odometerref29_Parts.l0]
    have go : ∀ (x : S70) (j : Nat), x.f0 = false → i < j → j ≤ s.size → ∃ ps b, odometerref29_Parts.l0 k s (out ++ [x]) (cntS out : Int) (j : Int) = some (ps, b) ∧ ps.length ≤ s.size ∧ (match scanL (s.data.toList.drop j) with | none => b = false | some n => cntS ps = cntS out + n ∧ b = decide (cntS out + n ≤ 9 ∧ s.size ≤ 1024)) := fun x j hx hij hj => by
      have hc : cntS (out ++ [x]) = cntS out := by rw [cntS_add, hx]; rfl
      have h := parts_l0 s hs k j (out ++ [x]) hj (by omega) (by rw [List.length_append, List.length_singleton]; omega) (by rw [hc]; omega)
      rw [hc] at h
      exact h
    by_cases hlt : i < s.size
    · have hw1 : wrap64 ((i : Int) + 1) = ((i + 1 : Nat) : Int) := by rw [wrap_in _ (by omega) (by omega)]; omega
      rw [if_pos (by omega), if_pos (by omega), bt_nat s i hlt, hw1, drop_at s i hlt]
      by_cases h42 : s[i] = 42
      · have hc : cntS (out ++ [(⟨true, false, 0⟩ : S70)]) = cntS out + 1 := by rw [cntS_add]; rfl
        have hwc : wrap64 ((cntS out : Int) + 1) = ((cntS out + 1 : Nat) : Int) := by rw [wrap_in _ (by omega) (by omega)]; omega
        rw [if_pos (by rw [h42]; rfl), if_pos (by omega), h42, scan_star, hwc, ← hc]
        obtain ⟨ps, b, h1, h3, h2⟩ := parts_l0 s hs k (i + 1) (out ++ [(⟨true, false, 0⟩ : S70)]) (by omega) (by omega) (by rw [List.length_append, List.length_singleton]; omega) (by rw [hc]; omega)
        rw [hc] at h2
        refine ⟨ps, b, h1, h3, ?_⟩
        cases hsc : scanL (s.data.toList.drop (i + 1)) with
        | none => rw [hsc] at h2; exact h2
        | some n =>
          rw [hsc] at h2
          refine (show cntS ps = cntS out + (n + 1) ∧ b = decide (cntS out + (n + 1) ≤ 9 ∧ s.size ≤ 1024) from ⟨by have := h2.1; omega, ?_⟩)
          rw [h2.2]
          exact decide_eq_decide.2 (by omega)
      · have hn42 : s[i].toNat ≠ 42 := fun h => h42 (UInt8.toNat_inj.1 (by rw [h]; rfl))
        rw [if_neg (by omega)]
        by_cases h63 : s[i] = 63
        · rw [if_pos (by rw [h63]; rfl), if_pos (by omega), h63, scan_plain 63 _ (by decide) (by decide)]
          exact go _ (i + 1) rfl (by omega) (by omega)
        · have hn63 : s[i].toNat ≠ 63 := fun h => h63 (UInt8.toNat_inj.1 (by rw [h]; rfl))
          rw [if_neg (by omega)]
          by_cases h92 : s[i] = 92
          · rw [if_pos (by rw [h92]; rfl), h92]
            by_cases hend : i + 1 = s.size
            · rw [if_pos (by omega)]
              refine ⟨_, _, rfl, by simp, ?_⟩
              rw [List.drop_of_length_le (by simp; omega), scan_end]
            · have hk1 : i + 1 < s.size := by omega
              have hw2 : wrap64 (((i + 1 : Nat) : Int) + 1) = ((i + 2 : Nat) : Int) := by rw [wrap_in _ (by omega) (by omega)]; omega
              rw [if_neg (by omega), if_pos (by omega), if_pos (by omega), bt_nat s (i + 1) hk1, drop_at s (i + 1) hk1, hw2]
              by_cases d1 : s[i + 1] = 42
              · rw [if_pos (by rw [d1]; rfl), if_pos (by omega), scan_esc _ _ (Or.inl d1)]
                exact go _ (i + 2) rfl (by omega) (by omega)
              · have e1 : s[i + 1].toNat ≠ 42 := fun h => d1 (UInt8.toNat_inj.1 (by rw [h]; rfl))
                rw [if_neg (by omega)]
                by_cases d2 : s[i + 1] = 63
                · rw [if_pos (by rw [d2]; rfl), if_pos (by omega), scan_esc _ _ (Or.inr (Or.inl d2))]
                  exact go _ (i + 2) rfl (by omega) (by omega)
                · have e2 : s[i + 1].toNat ≠ 63 := fun h => d2 (UInt8.toNat_inj.1 (by rw [h]; rfl))
                  rw [if_neg (by omega)]
                  by_cases d3 : s[i + 1] = 92
                  · rw [if_pos (by rw [d3]; rfl), if_pos (by omega), scan_esc _ _ (Or.inr (Or.inr d3))]
                    exact go _ (i + 2) rfl (by omega) (by omega)
                  · have e3 : s[i + 1].toNat ≠ 92 := fun h => d3 (UInt8.toNat_inj.1 (by rw [h]; rfl))
                    rw [if_neg (by omega), scan_bad _ _ (fun h => by rcases h with h | h | h <;> contradiction)]
                    exact ⟨_, _, rfl, by simp, rfl⟩
          · have hn92 : s[i].toNat ≠ 92 := fun h => h92 (UInt8.toNat_inj.1 (by rw [h]; rfl))
            rw [if_neg (by omega), if_pos (by omega), scan_plain _ _ h42 h92]
            exact go _ (i + 1) rfl (by omega) (by omega)
    · rw [if_neg (by omega), List.drop_of_length_le (by simp; omega)]
      by_cases h9 : (cntS out : Int) ≤ 9
      · rw [if_pos h9]
        refine ⟨_, _, rfl, by omega, ?_⟩
        simp only [scanL]
        exact ⟨rfl, decide_eq_decide.2 (by omega)⟩
      · rw [if_neg h9]
        refine ⟨_, _, rfl, by omega, ?_⟩
        simp only [scanL]
        exact ⟨rfl, (decide_eq_false (by omega)).symm⟩
theorem stars_l0 (l : List S70) (hl : l.length ≤ 100000) : ∀ (k i a : Nat), i ≤ l.length → l.length < i + k → a ≤ i → odometerref29_Stars.l0 k l (a : Int) (i : Int) = some ((a + cntS (l.drop i) : Nat) : Int)
  | 0, i, a, hi, hk, ha => by omega
  | k + 1, i, a, hi, hk, ha => by
    rw [odometerref29_Stars.l0]
    by_cases hlt : i < l.length
    · have hw1 : wrap64 ((i : Int) + 1) = ((i + 1 : Nat) : Int) := by rw [wrap_in _ (by omega) (by omega)]; omega
      have hwa : wrap64 ((a : Int) + 1) = ((a + 1 : Nat) : Int) := by rw [wrap_in _ (by omega) (by omega)]; omega
      have hr : rd_T70 l (i : Int) = l[i] := by simp [rd_T70, hlt]
      rw [if_pos (by omega), if_pos (by omega), hr, hw1, hwa, List.drop_eq_getElem_cons hlt]
      unfold cntS
      rw [List.countP_cons]
      by_cases hf : l[i].f0 = true
      · rw [if_pos hf, if_pos hf, stars_l0 l hl k (i + 1) (a + 1) (by omega) (by omega) (by omega)]
        unfold cntS
        congr 2
        omega
      · rw [if_neg hf, if_neg hf, stars_l0 l hl k (i + 1) a (by omega) (by omega) (by omega)]
        rfl
    · rw [if_neg (by omega), List.drop_of_length_le (by omega)]
      rfl
def byB (s : ByteArray) : Bool := decide (s.toList = [95, 95, 110, 97, 109, 101, 95, 95]) || namedB s 95
theorem by_f (s : ByteArray) (hs : s.size ≤ 1099511627776) : relabel_by.f s = some (byB s) := by
  unfold relabel_by.f byB label_IsWord.f label_named.f
  by_cases h : s.toList = [95, 95, 110, 97, 109, 101, 95, 95]
  · rw [if_pos h, decide_eq_true h]; rfl
  · rw [if_neg h, if_pos hs, decide_eq_false h]; rfl
theorem told_f (k : Nat) (s : ByteArray) (hs : s.size ≤ 1099511627776) (hk : 2 * s.size + 3 ≤ k) : odometerref29_told.f k s = some (byB s) := by
  unfold odometerref29_told.f byB
  by_cases h : s.toList = [95, 95, 110, 97, 109, 101, 95, 95]
  · rw [if_pos h, decide_eq_true h]; rfl
  · rw [if_neg h, word_f k s hs hk, decide_eq_false h]; rfl
def okPat (s : ByteArray) : Option Nat := match scanL s.data.toList with
  | none => none
  | some n => if n ≤ 9 ∧ s.size ≤ 1024 then some n else none
theorem pieces_f (s : ByteArray) (hs : s.size ≤ 100000) (k : Nat) (hk : s.size < k) :
    ∃ ps b, relabel_pieces.f k s = some (ps, b) ∧ (ps.length ≤ s.size + 1 ∧ ∀ p ∈ ps, p.length ≤ s.size) ∧ (match okPat s with | none => b = false | some n => b = true ∧ ps.length = n + 1 ∧ n ≤ 9) := by
  obtain ⟨ps, b, h1, hS, h2⟩ := pieces_l0 s hs k 0 [[]] (Nat.zero_le _) (by omega) (by simp) (by simp) (by simp)
  refine ⟨ps, b, h1, hS, ?_⟩
  rw [List.drop_zero] at h2
  unfold okPat
  cases hsc : scanL s.data.toList with
  | none => rw [hsc] at h2; exact h2
  | some n =>
    rw [hsc] at h2
    simp only [List.length_singleton] at h2
    show match (if n ≤ 9 ∧ s.size ≤ 1024 then some n else none) with | none => b = false | some n => b = true ∧ ps.length = n + 1 ∧ n ≤ 9
    by_cases hc : n ≤ 9 ∧ s.size ≤ 1024
    · rw [if_pos hc]
      exact ⟨h2.2.trans (decide_eq_true (by omega)), by omega, hc.1⟩
    · rw [if_neg hc]
      exact h2.2.trans (decide_eq_false (by omega))
theorem parts_f (s : ByteArray) (hs : s.size ≤ 100000) (k : Nat) (hk : s.size < k) :
    ∃ ps b, odometerref29_Parts.f k s = some (ps, b) ∧ ps.length ≤ s.size ∧ (match okPat s with | none => b = false | some n => b = true ∧ cntS ps = n ∧ n ≤ 9) := by
  obtain ⟨ps, b, h1, hS, h2⟩ := parts_l0 s hs k 0 [] (Nat.zero_le _) (by omega) (by simp) (by simp [cntS])
  refine ⟨ps, b, h1, hS, ?_⟩
  rw [List.drop_zero] at h2
  unfold okPat
  have h0 : cntS [] = 0 := rfl
  rw [h0] at h2
  cases hsc : scanL s.data.toList with
  | none => rw [hsc] at h2; exact h2
  | some n =>
    rw [hsc] at h2
    show match (if n ≤ 9 ∧ s.size ≤ 1024 then some n else none) with | none => b = false | some n => b = true ∧ cntS ps = n ∧ n ≤ 9
    have h3 : cntS ps = 0 + n ∧ b = decide (0 + n ≤ 9 ∧ s.size ≤ 1024) := h2
    by_cases hc : n ≤ 9 ∧ s.size ≤ 1024
    · rw [if_pos hc]
      exact ⟨h3.2.trans (decide_eq_true (by omega)), by omega, hc.1⟩
    · rw [if_neg hc]
      exact h3.2.trans (decide_eq_false (by omega))
theorem stars_f (l : List S70) (hl : l.length ≤ 100000) (k : Nat) (hk : l.length < k) : odometerref29_Stars.f k l = some ((cntS l : Nat) : Int) := by
  have h := stars_l0 l hl k 0 0 (Nat.zero_le _) (by omega) (Nat.le_refl _)
  rw [List.drop_zero, Nat.zero_add] at h
  exact h
def emptyB (s : ByteArray) : Bool := decide (s.size = 0)
theorem list_nil (s : ByteArray) : (s.toList = ([] : List UInt8)) ↔ s.size = 0 := by
  rw [ByteArray.toList_eq, ← List.length_eq_zero_iff]
  simp
theorem beq_nil (s : ByteArray) : (s.toList == ([] : List UInt8)) = emptyB s := by
  unfold emptyB
  rw [Bool.eq_iff_iff, beq_iff_eq, decide_eq_true_eq]
  exact list_nil s
def restB (n : Nat) (kind : Int) (lab tm into : ByteArray) : Bool :=
  if kind = 1 ∨ kind = 2 then byB lab && (emptyB tm && emptyB into)
  else if kind = 3 then byB lab && (byB into && (fillR (List.replicate n (⟨#[]⟩ : ByteArray)) tm).2)
  else if kind = 4 then emptyB lab && (emptyB tm && emptyB into) else false
def mayB (kind : Int) (lab pat tm into : ByteArray) : Bool := match okPat pat with
  | none => false
  | some n => restB n kind lab tm into
theorem small_fill (n : Nat) (tm : ByteArray) (ht : tm.size ≤ 100000) : relabel_Fill.f tm (List.replicate n (⟨#[]⟩ : ByteArray)) = some (fillR (List.replicate n (⟨#[]⟩ : ByteArray)) tm) := by
  unfold relabel_Fill.f
  rw [if_pos ⟨ht, fun x hx => by rw [List.eq_of_mem_replicate hx]; show (0 : Nat) ≤ 100000; omega⟩]
theorem small_refill (n : Nat) (hn : n ≤ 9) (tm : ByteArray) (ht : tm.size ≤ 100000) (k : Nat) (hk : tm.size < k) : odometerref29_Fill.f k tm (List.replicate n (⟨#[]⟩ : ByteArray)) = some (fillR (List.replicate n (⟨#[]⟩ : ByteArray)) tm) :=
  refill _ tm ht (fun x hx => by rw [List.eq_of_mem_replicate hx]; show (0 : Nat) ≤ 100000; omega) (by rw [List.length_replicate]; omega) k 0 [] (Nat.zero_le _) (by omega) (doing_start _ tm)
theorem may_j0 (ps : List (List S103)) (n : Nat) (hl : ps.length = n + 1) (hn : n ≤ 9) (kind : Int) (b : Bool) (hb : b = true ↔ kind = 1 ∨ kind = 2) (lab pat tm into : ByteArray) (h1 : lab.size ≤ 100000) (h3 : tm.size ≤ 100000) (h4 : into.size ≤ 100000) (k : Nat) :
    relabel_may.j0 (k + 1) ps kind b kind lab pat tm into = some (restB n kind lab tm into) := by
  have hwl : wrap64 ((ps.length : Int) - 1) = (n : Int) := by rw [wrap_in _ (by omega) (by omega)]; omega
  rw [relabel_may.j0, by_f lab (by omega), by_f into (by omega), hwl, Int.toNat_natCast, small_fill n tm h3]
  simp only [Option.bind_some, beq_nil]
  unfold restB
  by_cases hk : kind = 1 ∨ kind = 2
  · rw [if_pos (hb.2 hk), if_pos hk]
    cases byB lab with
    | false => rfl
    | true =>
      rw [if_pos rfl]
      by_cases ht : tm.size = 0
      · rw [if_pos ((list_nil tm).2 ht), show emptyB tm = true from decide_eq_true ht]; rfl
      · rw [if_neg (fun h => ht ((list_nil tm).1 h)), show emptyB tm = false from decide_eq_false ht]; rfl
  · rw [if_neg (fun h => hk (hb.1 h)), if_neg hk]
    by_cases k3 : kind = 3
    · rw [if_pos k3, if_pos k3, if_pos (by omega), if_pos (by omega)]
      cases byB lab with
      | false => rfl
      | true =>
        rw [if_pos rfl]
        cases byB into with
        | false => rfl
        | true => rfl
    · rw [if_neg k3, if_neg k3]
      by_cases k4 : kind = 4
      · rw [if_pos k4, if_pos k4]
        by_cases hl : lab.size = 0
        · rw [if_pos ((list_nil lab).2 hl), show emptyB lab = true from decide_eq_true hl]
          by_cases ht : tm.size = 0
          · rw [if_pos ((list_nil tm).2 ht), show emptyB tm = true from decide_eq_true ht]; rfl
          · rw [if_neg (fun h => ht ((list_nil tm).1 h)), show emptyB tm = false from decide_eq_false ht]; rfl
        · rw [if_neg (fun h => hl ((list_nil lab).1 h)), show emptyB lab = false from decide_eq_false hl]; rfl
      · rw [if_neg k4, if_neg k4]
theorem rmay_f (k : Nat) (kind : Int) (lab pat tm into : ByteArray) (h1 : lab.size ≤ 100000) (h2 : pat.size ≤ 100000) (h3 : tm.size ≤ 100000) (h4 : into.size ≤ 100000) (hk : 100001 ≤ k) :
    relabel_may.f k kind lab pat tm into = some (mayB kind lab pat tm into) := by
  obtain ⟨k, rfl⟩ : ∃ n, k = n + 1 := ⟨k - 1, by omega⟩
  obtain ⟨ps, b, hp, _, hm⟩ := pieces_f pat h2 (k + 1) (by omega)
  unfold relabel_may.f mayB
  rw [hp, Option.bind_some]
  cases ho : okPat pat with
  | none =>
    rw [ho] at hm
    obtain rfl : b = false := hm
    rw [if_neg (by simp)]
  | some n =>
    rw [ho] at hm
    obtain ⟨rfl, hl, hn⟩ : b = true ∧ ps.length = n + 1 ∧ n ≤ 9 := hm
    rw [if_pos rfl]
    show (if kind = 1 then relabel_may.j0 (k + 1) ps kind (kind == 1) kind lab pat tm into else relabel_may.j0 (k + 1) ps kind (kind == 2) kind lab pat tm into) = some (restB n kind lab tm into)
    by_cases k1 : kind = 1
    · rw [if_pos k1]
      exact may_j0 ps n hl hn kind _ (by rw [beq_iff_eq]; omega) lab pat tm into h1 h3 h4 k
    · rw [if_neg k1]
      exact may_j0 ps n hl hn kind _ (by rw [beq_iff_eq]; omega) lab pat tm into h1 h3 h4 k
theorem wrap_two0 (a b : ByteArray) (ha : a.size ≤ 100000) (hb : b.size ≤ 100000) : (wrap64 ((a.size : Int) + (b.size : Int)) == 0) = (emptyB a && emptyB b) := by
  rw [wrap_in _ (by omega) (by omega), Bool.eq_iff_iff, beq_iff_eq, Bool.and_eq_true]
  unfold emptyB
  rw [decide_eq_true_eq, decide_eq_true_eq]
  omega
theorem wrap_three0 (a b c : ByteArray) (ha : a.size ≤ 100000) (hb : b.size ≤ 100000) (hc : c.size ≤ 100000) : (wrap64 (wrap64 ((a.size : Int) + (b.size : Int)) + (c.size : Int)) == 0) = (emptyB a && (emptyB b && emptyB c)) := by
  rw [wrap_in ((a.size : Int) + _) (by omega) (by omega), wrap_in _ (by omega) (by omega), Bool.eq_iff_iff, beq_iff_eq, Bool.and_eq_true, Bool.and_eq_true]
  unfold emptyB
  rw [decide_eq_true_eq, decide_eq_true_eq, decide_eq_true_eq]
  omega
theorem one_j0 (n : Nat) (kind : Int) (b : Bool) (hb : b = true ↔ kind = 1 ∨ kind = 2) (h3' : kind ≠ 3) (lab pat tm into : ByteArray) (h1 : lab.size ≤ 100000) (h3 : tm.size ≤ 100000) (h4 : into.size ≤ 100000) (k : Nat) (hk : 300000 ≤ k) :
    odometerref29_One.j0 (k + 1) kind b kind lab pat tm into = some (restB n kind lab tm into) := by
  rw [odometerref29_One.j0, told_f k lab (by omega) (by omega), wrap_two0 tm into h3 h4, wrap_three0 lab tm into h1 h3 h4]
  simp only [Option.bind_some]
  unfold restB
  by_cases hk : kind = 1 ∨ kind = 2
  · rw [if_pos (hb.2 hk), if_pos hk]
    cases byB lab with
    | false => rfl
    | true => rfl
  · rw [if_neg (fun h => hk (hb.1 h)), if_neg hk, if_neg h3']
    by_cases k4 : kind = 4
    · rw [if_pos k4, if_pos k4]
    · rw [if_neg k4, if_neg k4]
theorem one_f (k : Nat) (kind : Int) (lab pat tm into : ByteArray) (h1 : lab.size ≤ 100000) (h2 : pat.size ≤ 100000) (h3 : tm.size ≤ 100000) (h4 : into.size ≤ 100000) (hk : 300001 ≤ k) :
    odometerref29_One.f k kind lab pat tm into = some (mayB kind lab pat tm into) := by
  obtain ⟨k, rfl⟩ : ∃ n, k = n + 1 := ⟨k - 1, by omega⟩
  obtain ⟨ps, b, hp, hlen, hm⟩ := parts_f pat h2 (k + 1) (by omega)
  unfold odometerref29_One.f mayB
  rw [hp, Option.bind_some]
  cases ho : okPat pat with
  | none =>
    rw [ho] at hm
    obtain rfl : b = false := hm
    rw [if_neg (by simp)]
  | some n =>
    rw [ho] at hm
    obtain ⟨rfl, hc, hn⟩ : b = true ∧ cntS ps = n ∧ n ≤ 9 := hm
    rw [if_pos rfl]
    simp only [stars_f ps (show ps.length ≤ 100000 by omega) (k + 1) (by omega), hc, Option.bind_some, Int.toNat_natCast, small_refill n hn tm h3 (k + 1) (by omega), told_f (k + 1) lab (by omega) (by omega), told_f (k + 1) into (by omega) (by omega)]
    by_cases k3 : kind = 3
    · rw [if_pos k3, if_pos (by omega), if_pos (by omega)]
      have hrest : restB n kind lab tm into = (byB lab && (byB into && (fillR (List.replicate n (⟨#[]⟩ : ByteArray)) tm).2)) := by
        unfold restB
        rw [if_neg (show ¬ (kind = 1 ∨ kind = 2) by omega), if_pos k3]
      rw [hrest]
      cases byB lab with
      | false => cases (fillR (List.replicate n (⟨#[]⟩ : ByteArray)) tm).2 <;> rfl
      | true => cases (fillR (List.replicate n (⟨#[]⟩ : ByteArray)) tm).2 <;> cases byB into <;> rfl
    · rw [if_neg k3]
      by_cases k1 : kind = 1
      · rw [if_pos k1]
        exact one_j0 n kind _ (by rw [beq_iff_eq]; omega) k3 lab pat tm into h1 h3 h4 k (by omega)
      · rw [if_neg k1]
        exact one_j0 n kind _ (by rw [beq_iff_eq]; omega) k3 lab pat tm into h1 h3 h4 k (by omega)
def SmallR (x : S43) : Prop := x.f1.size ≤ 2500 ∧ x.f2.size ≤ 2500 ∧ x.f3.size ≤ 2500 ∧ x.f4.size ≤ 2500
def mayR (x : S43) : Bool := mayB x.f0 x.f1 x.f2 x.f3 x.f4
theorem mays_f (k : Nat) (hk : 100001 ≤ k) (l : List S43) (hl : ∀ x ∈ l, SmallR x) : relabel_May.f k l = some (l.all mayR) := by
  have h : ∀ x ∈ l, relabel_may.f k x.f0 x.f1 x.f2 x.f3 x.f4 = some (mayR x) := fun x hx => by
    obtain ⟨a, b, c, d⟩ := hl x hx
    exact rmay_f k x.f0 x.f1 x.f2 x.f3 x.f4 (by omega) (by omega) (by omega) (by omega) hk
  unfold relabel_May.f allF
  rw [if_pos fun x hx => by show (relabel_may.f k x.f0 x.f1 x.f2 x.f3 x.f4).isSome = true; rw [h x hx]; rfl]
  congr 1
  rw [Bool.eq_iff_iff, List.all_eq_true, List.all_eq_true]
  exact ⟨fun g x hx => by
    have h2 : (relabel_may.f k x.f0 x.f1 x.f2 x.f3 x.f4).getD false = true := g x hx
    rw [h x hx] at h2
    exact h2, fun g x hx => by
    show (relabel_may.f k x.f0 x.f1 x.f2 x.f3 x.f4).getD false = true
    rw [h x hx]
    exact g x hx⟩
theorem rd_rule (l : List S43) (i : Nat) (h : i < l.length) : rd_T43 l (i : Int) = l[i] := by simp [rd_T43, h]
theorem ones_l0 (l : List S43) (hl : ∀ x ∈ l, SmallR x) (hll : l.length ≤ 100000) : ∀ (n k i : Nat), i + n = l.length → n + 300001 ≤ k → odometerref29_May.l0 k l (i : Int) = some ((l.drop i).all mayR)
  | 0, k, i, hi, hk => by
    obtain ⟨k, rfl⟩ : ∃ n, k = n + 1 := ⟨k - 1, by omega⟩
    rw [odometerref29_May.l0, if_neg (by omega), List.drop_of_length_le (by omega)]
    rfl
  | n + 1, k, i, hi, hk => by
    obtain ⟨k, rfl⟩ : ∃ n, k = n + 1 := ⟨k - 1, by omega⟩
    have hlt : i < l.length := by omega
    obtain ⟨a, b, c, d⟩ := hl l[i] (List.getElem_mem hlt)
    have hw1 : wrap64 ((i : Int) + 1) = ((i + 1 : Nat) : Int) := by rw [wrap_in _ (by omega) (by omega)]; omega
    rw [odometerref29_May.l0, if_pos (by omega), if_pos (by omega), rd_rule l i hlt, one_f k l[i].f0 l[i].f1 l[i].f2 l[i].f3 l[i].f4 (by omega) (by omega) (by omega) (by omega) (by omega), Option.bind_some, hw1, ones_l0 l hl hll n k (i + 1) (by omega) (by omega), List.drop_eq_getElem_cons hlt, List.all_cons]
    show (if mayR l[i] = true then _ else _) = _
    cases mayR l[i] <;> rfl
theorem ones_f (k : Nat) (l : List S43) (hl : ∀ x ∈ l, SmallR x) (hll : l.length ≤ 100000) (hk : l.length + 300001 ≤ k) : odometerref29_May.f k l = some (l.all mayR) := by
  have h := ones_l0 l hl hll l.length k 0 (by omega) (by omega)
  rw [List.drop_zero] at h
  exact h
def Held (x : S43) : Prop := x.f1.size ≤ 140737488351232 ∧ x.f2.size ≤ 140737488351232 ∧ x.f3.size ≤ 140737488351232 ∧ x.f4.size ≤ 140737488351232
theorem much_l0 (l : List S43) (hl : ∀ x ∈ l, Held x) : ∀ (n i : Nat) (a : Int) (k : Nat), i + n = 13 → n < k → 0 ≤ a → a ≤ i * 562949953404928 →
    (∀ j x, l[j]? = some x → j < i → ((x.f1.size + x.f2.size + x.f3.size + x.f4.size : Nat) : Int) ≤ a) →
    ∃ b, odometerref29_Much.l0 k l a (i : Int) = some b ∧ (b = false → l.length ≤ 12 ∧ ∀ x ∈ l, SmallR x) := by
  intro n
  induction n with
  | zero =>
    intro i a k hi hk h0 ha hj
    obtain ⟨k, rfl⟩ : ∃ n, k = n + 1 := ⟨k - 1, by omega⟩
    rw [odometerref29_Much.l0]
    by_cases hlt : i < l.length
    · rw [if_pos (by omega), if_neg (by omega), if_pos (by omega)]
      exact ⟨_, rfl, fun h => by cases h⟩
    · rw [if_neg (by omega)]
      by_cases h12 : l.length ≤ 12
      · rw [if_neg (by omega)]
        refine ⟨_, rfl, fun h => ⟨h12, fun x hx => ?_⟩⟩
        have h2 := of_decide_eq_false h
        obtain ⟨j, hjl, rfl⟩ := List.getElem_of_mem hx
        have := hj j _ (List.getElem?_eq_getElem hjl) (by omega)
        unfold SmallR
        omega
      · rw [if_pos (by omega)]
        exact ⟨_, rfl, fun h => by cases h⟩
  | succ n ih =>
    intro i a k hi hk h0 ha hj
    obtain ⟨k, rfl⟩ : ∃ n, k = n + 1 := ⟨k - 1, by omega⟩
    rw [odometerref29_Much.l0]
    by_cases hlt : i < l.length
    · obtain ⟨g1, g2, g3, g4⟩ := hl l[i] (List.getElem_mem hlt)
      rw [if_pos (by omega), if_pos (by omega), if_pos (by omega), rd_rule l i hlt, wrap_in (a + _) (by omega) (by omega), wrap_in (a + (l[i].f1.size : Int) + _) (by omega) (by omega), wrap_in (a + (l[i].f1.size : Int) + (l[i].f2.size : Int) + _) (by omega) (by omega), wrap_in (a + (l[i].f1.size : Int) + (l[i].f2.size : Int) + (l[i].f3.size : Int) + _) (by omega) (by omega), wrap_in ((i : Int) + 1) (by omega) (by omega)]
      refine ih (i + 1) _ k (by omega) (by omega) (by omega) (by omega) fun j x hx hji => ?_
      by_cases he : j = i
      · subst he
        rw [List.getElem?_eq_getElem hlt] at hx
        obtain rfl := Option.some.inj hx
        omega
      · have := hj j x hx (by omega)
        omega
    · rw [if_neg (by omega), if_neg (by omega)]
      refine ⟨_, rfl, fun h => ⟨by omega, fun x hx => ?_⟩⟩
      have h2 := of_decide_eq_false h
      obtain ⟨j, hjl, rfl⟩ := List.getElem_of_mem hx
      have := hj j _ (List.getElem?_eq_getElem hjl) (by omega)
      unfold SmallR
      omega
theorem much_f (k : Nat) (l : List S43) (hl : ∀ x ∈ l, Held x) (hk : 14 ≤ k) : ∃ b, odometerref29_Much.f k l = some b ∧ (b = false → l.length ≤ 12 ∧ ∀ x ∈ l, SmallR x) :=
  much_l0 l hl 13 0 0 k (by omega) (by omega) (by omega) (by omega) fun j x _ h => absurd h (by omega)
theorem held_of {x : S43} {p : Prop} (h : p ∧ x.f1.size ≤ 140737488351232 ∧ x.f2.size ≤ 140737488351232 ∧ x.f3.size ≤ 140737488351232 ∧ x.f4.size ≤ 140737488351232) : Held x := h.2
end Go.Proofs.YtcikjeiebpmmcaaGreat.PureMch
