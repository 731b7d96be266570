/- A text of this claim, pruned by a program of the session (prune.py) to what the theorem rests on. -/
import Derived.Test.YtedchpflcemdkaaGreatQmPureCma1
namespace Go.Proofs.YtedchpflcemdkaaGreat.PureCma
open Go.RowKit Go.Proofs.YtedchpflcemdkaaGreat Go.Proofs.YtedchpflcemdkaaGreat.PCma Go.Proofs.YtedchpflcemdkaaGreatW.PrintWords
set_option linter.unusedVariables false
set_option linter.unusedSimpArgs false
abbrev Tg := S30
theorem rd_word (ws : List ByteArray) (i : Nat) (h : i < ws.length) : rdOf ByteArray.empty ws (i : Int) = ws[i] := by
  unfold rdOf
  rw [Int.toNat_natCast, List.getD_eq_getElem?_getD, List.getElem?_eq_getElem h]
  rfl
theorem rd_tgt (l : List Tg) (i : Nat) (h : i < l.length) : rd_T30 l (i : Int) = l[i] := by
  unfold rd_T30
  rw [Int.toNat_natCast, List.getD_eq_getElem?_getD, List.getElem?_eq_getElem h]
  rfl
section
variable (l : List Tg) (win late : Int) (ws : List ByteArray) (ser wins que con bod bas mos : Int)
set_option maxRecDepth 100000 in
theorem much_words (hw : ∀ s ∈ ws, s.size ≤ 140737488351232) : ∀ (n k j : Nat) (x : Int), j + n = 21 → n < k → 0 ≤ x → x ≤ 5000000000000000000 + j * 140737488351232 →
    ∃ b, odometerref13_Much.l1 k x (j : Int) l win late ws ser wins que con bod bas mos = some b ∧ (b = false → l.length ≤ 20 ∧ ws.length ≤ 20 ∧ x ≤ 6000 ∧ ∀ i, j ≤ i → ∀ s, ws[i]? = some s → s.size ≤ 6000) := by
  intro n
  induction n with
  | zero =>
    intro k j x h hk h0 h1
    obtain ⟨k, rfl⟩ : ∃ m, k = m + 1 := ⟨k - 1, by omega⟩
    rw [odometerref13_Much.l1]
    by_cases g1 : (j : Int) < (ws.length : Int)
    · rw [if_pos g1, if_neg (by omega)]
      by_cases g2 : (l.length : Int) > 20
      · exact ⟨true, by rw [if_pos g2], nofun⟩
      · rw [if_neg g2, if_pos (by omega)]
        exact ⟨true, rfl, nofun⟩
    · rw [if_neg g1]
      by_cases g2 : (l.length : Int) > 20
      · exact ⟨true, by rw [if_pos g2], nofun⟩
      · rw [if_neg g2]
        by_cases g3 : (ws.length : Int) > 20
        · exact ⟨true, by rw [if_pos g3], nofun⟩
        · rw [if_neg g3]
          refine ⟨_, rfl, fun hb => ⟨by omega, by omega, by have := of_decide_eq_false hb; omega, fun i hi s hs => ?_⟩⟩
          have := (List.getElem?_eq_some_iff.1 hs).1
          omega
  | succ n ih =>
    intro k j x h hk h0 h1
    obtain ⟨k, rfl⟩ : ∃ m, k = m + 1 := ⟨k - 1, by omega⟩
    have hwj : wrap64 ((j : Int) + 1) = ((j + 1 : Nat) : Int) := by rw [wrap_of] <;> omega
    rw [odometerref13_Much.l1]
    by_cases g1 : (j : Int) < (ws.length : Int)
    · have hj : j < ws.length := by omega
      have hs := hw ws[j] (List.getElem_mem hj)
      rw [if_pos g1, if_pos (by omega), if_pos (by omega), hwj, rd_word ws j hj]
      have hx : wrap64 (x + (ws[j].size : Int)) = x + (ws[j].size : Int) := by rw [wrap_of] <;> omega
      rw [hx]
      obtain ⟨b, hb, hB⟩ := ih k (j + 1) (x + (ws[j].size : Int)) (by omega) (by omega) (by omega) (by omega)
      refine ⟨b, hb, fun e => ?_⟩
      obtain ⟨a1, a2, a3, a4⟩ := hB e
      refine ⟨a1, a2, by omega, fun i hi s hs' => ?_⟩
      rcases Nat.eq_or_lt_of_le hi with rfl | hlt
      · rw [List.getElem?_eq_getElem hj] at hs'
        cases hs'
        omega
      · exact a4 i (by omega) s hs'
    · rw [if_neg g1]
      by_cases g2 : (l.length : Int) > 20
      · exact ⟨true, by rw [if_pos g2], nofun⟩
      · rw [if_neg g2]
        by_cases g3 : (ws.length : Int) > 20
        · exact ⟨true, by rw [if_pos g3], nofun⟩
        · rw [if_neg g3]
          refine ⟨_, rfl, fun hb => ⟨by omega, by omega, by have := of_decide_eq_false hb; omega, fun i hi s hs => ?_⟩⟩
          have := (List.getElem?_eq_some_iff.1 hs).1
          omega
set_option maxRecDepth 100000 in
theorem much_tgts (hw : ∀ s ∈ ws, s.size ≤ 140737488351232) (hl : ∀ t ∈ l, t.f0.size ≤ 140737488351232 ∧ t.f1.size ≤ 140737488351232 ∧ t.f2.size ≤ 140737488351232) : ∀ (n k j : Nat) (x : Int), j + n = 21 → n + 50 < k → 0 ≤ x → x ≤ j * 500000000000000 →
    ∃ b, odometerref13_Much.l0 k x (j : Int) l win late ws ser wins que con bod bas mos = some b ∧ (b = false → l.length ≤ 20 ∧ ws.length ≤ 20 ∧ x ≤ 6000 ∧ (∀ s ∈ ws, s.size ≤ 6000) ∧ ∀ i, j ≤ i → ∀ t, l[i]? = some t → t.f0.size ≤ 6000 ∧ t.f1.size ≤ 6000 ∧ t.f2.size ≤ 6000) := by
  have tail : ∀ (k j : Nat) (x : Int), 40 < k → 0 ≤ x → x ≤ 21 * 500000000000000 → (l.length ≤ 20 → l.length ≤ j) →
      ∃ b, odometerref13_Much.j1 k x l win late ws ser wins que con bod bas mos = some b ∧ (b = false → l.length ≤ 20 ∧ ws.length ≤ 20 ∧ x ≤ 6000 ∧ (∀ s ∈ ws, s.size ≤ 6000) ∧ ∀ i, j ≤ i → ∀ t, l[i]? = some t → t.f0.size ≤ 6000 ∧ t.f1.size ≤ 6000 ∧ t.f2.size ≤ 6000) := fun k j x hk h0 h1 hlj => by
    obtain ⟨k, rfl⟩ : ∃ m, k = m + 1 := ⟨k - 1, by omega⟩
    rw [odometerref13_Much.j1]
    obtain ⟨b, hb, hB⟩ := much_words l win late ws ser wins que con bod bas mos hw 21 k 0 x (by omega) (by omega) h0 (by omega)
    refine ⟨b, hb, fun e => ?_⟩
    obtain ⟨a1, a2, a3, a4⟩ := hB e
    refine ⟨a1, a2, a3, fun s hs => ?_, fun i hi t ht => ?_⟩
    · obtain ⟨i, hi, rfl⟩ := List.getElem_of_mem hs
      exact a4 i (Nat.zero_le _) _ (List.getElem?_eq_getElem hi)
    · have := (List.getElem?_eq_some_iff.1 ht).1
      have := hlj a1
      omega
  intro n
  induction n with
  | zero =>
    intro k j x h hk h0 h1
    obtain ⟨k, rfl⟩ : ∃ m, k = m + 1 := ⟨k - 1, by omega⟩
    rw [odometerref13_Much.l0]
    by_cases g1 : (j : Int) < (l.length : Int)
    · rw [if_pos g1, if_neg (by omega)]
      exact tail k j x (by omega) h0 (by omega) (fun _ => by omega)
    · rw [if_neg g1]
      exact tail k j x (by omega) h0 (by omega) (fun _ => by omega)
  | succ n ih =>
    intro k j x h hk h0 h1
    obtain ⟨k, rfl⟩ : ∃ m, k = m + 1 := ⟨k - 1, by omega⟩
    have hwj : wrap64 ((j : Int) + 1) = ((j + 1 : Nat) : Int) := by rw [wrap_of] <;> omega
    rw [odometerref13_Much.l0]
    by_cases g1 : (j : Int) < (l.length : Int)
    · have hj : j < l.length := by omega
      obtain ⟨s0, s1, s2⟩ := hl l[j] (List.getElem_mem hj)
      rw [if_pos g1, if_pos (by omega), if_pos (by omega), hwj, rd_tgt l j hj]
      have x1 : wrap64 (x + (l[j].f0.size : Int)) = x + (l[j].f0.size : Int) := by rw [wrap_of] <;> omega
      have x2 : wrap64 (x + (l[j].f0.size : Int) + (l[j].f1.size : Int)) = x + (l[j].f0.size : Int) + (l[j].f1.size : Int) := by rw [wrap_of] <;> omega
      have x3 : wrap64 (x + (l[j].f0.size : Int) + (l[j].f1.size : Int) + (l[j].f2.size : Int)) = x + (l[j].f0.size : Int) + (l[j].f1.size : Int) + (l[j].f2.size : Int) := by rw [wrap_of] <;> omega
      rw [x1, x2, x3]
      obtain ⟨b, hb, hB⟩ := ih k (j + 1) (x + (l[j].f0.size : Int) + (l[j].f1.size : Int) + (l[j].f2.size : Int)) (by omega) (by omega) (by omega) (by omega)
      refine ⟨b, hb, fun e => ?_⟩
      obtain ⟨a1, a2, a3, a4, a5⟩ := hB e
      refine ⟨a1, a2, by omega, a4, fun i hi t ht => ?_⟩
      rcases Nat.eq_or_lt_of_le hi with rfl | hlt
      · rw [List.getElem?_eq_getElem hj] at ht
        cases ht
        omega
      · exact a5 i (by omega) t ht
    · rw [if_neg g1]
      exact tail k j x (by omega) h0 (by omega) (fun _ => by omega)
theorem in_f (a b c : Int) : odometerref13_in.f a b c = some (inB a b c) := by
  unfold odometerref13_in.f inB
  by_cases h : b ≤ a
  · rw [if_pos h, decide_eq_true h, Bool.true_and]
  · rw [if_neg h, decide_eq_false h, Bool.false_and]
abbrev W95 : ByteArray → Bool := fun s => namedB s 95
set_option maxRecDepth 100000 in
theorem words_go (hw : ∀ s ∈ ws, s.size ≤ 6000) (hn : ws.length ≤ 20) : ∀ (n k i : Nat), i + n = ws.length → n + 20000 ≤ k →
    odometerref13_May.l2 k (i : Int) l win late ws ser wins que con bod bas mos = some (if wordsOK W95 false (prv ws i) (ws.drop i) then 0 else 5)
  | 0, k, i, h, hk => by
    obtain ⟨k, rfl⟩ : ∃ m, k = m + 1 := ⟨k - 1, by omega⟩
    rw [odometerref13_May.l2, if_neg (by omega), List.drop_eq_nil_of_le (by omega)]
    rfl
  | n + 1, k, i, h, hk => by
    obtain ⟨k, rfl⟩ : ∃ m, k = m + 1 := ⟨k - 1, by omega⟩
    have hi : i < ws.length := by omega
    have hwj : wrap64 ((i : Int) + 1) = ((i + 1 : Nat) : Int) := by rw [wrap_of] <;> omega
    have hs := hw ws[i] (List.getElem_mem hi)
    have hp : prv ws (i + 1) = some ws[i] := List.getElem?_eq_getElem hi
    rw [odometerref13_May.l2, if_pos (by omega), if_pos (by omega), rd_word ws i hi, word_f k ws[i] (by omega) (by omega), Option.bind_some, List.drop_eq_getElem_cons hi, wordsOK_cons, hwj, words_go hw hn n k (i + 1) (by omega) (by omega), hp]
    generalize wordsOK W95 false (some ws[i]) (ws.drop (i + 1)) = R
    rw [show W95 ws[i] = namedB ws[i] 95 from rfl]
    cases namedB ws[i] 95 with
    | false => rfl
    | true =>
      rw [if_pos rfl]
      rcases i with _ | q
      · rw [if_neg (by omega)]
        cases R <;> rfl
      · have hq : q < ws.length := by omega
        have hw1 : wrap64 (((q + 1 : Nat) : Int) - 1) = (q : Int) := by rw [wrap_of] <;> omega
        have hp2 : prv ws (q + 1) = some ws[q] := List.getElem?_eq_getElem hq
        rw [if_pos (by omega), hw1, if_pos (by omega), if_pos (by omega), rd_word ws q hq, hp2]
        cases hbl : Op.bytesLess ws[q].toList ws[q + 1].toList
        · rw [if_neg (by decide)]
          cases R <;> simp [hbl]
        · rw [if_pos rfl]
          cases R <;> simp [hbl]
def wordsR : Bool := wordsOK W95 (decide (16 < ws.length)) none ws
theorem j3_f (hw : ∀ s ∈ ws, s.size ≤ 6000) (hn : ws.length ≤ 20) (k : Nat) (b : Bool) (hk : 20100 ≤ k) : odometerref13_May.j3 k b l win late ws ser wins que con bod bas mos = some (mayR (!b) (wordsR ws)) := by
  obtain ⟨k, rfl⟩ : ∃ m, k = m + 1 := ⟨k - 1, by omega⟩
  rw [odometerref13_May.j3]
  cases b with
  | true => rfl
  | false =>
    rw [if_neg (by decide)]
    unfold wordsR
    by_cases h : 16 < ws.length
    · rw [if_pos (by omega), decide_eq_true h]
      obtain ⟨s, r, rfl⟩ : ∃ s r, ws = s :: r := by
        cases ws with
        | nil => simp at h
        | cons s r => exact ⟨s, r, rfl⟩
      rw [wordsOK_cons]
      simp [mayR]
    · rw [if_neg (by omega), decide_eq_false h]
      have := words_go l win late ws ser wins que con bod bas mos hw hn ws.length k 0 (by omega) (by omega)
      rw [show ((0 : Nat) : Int) = 0 from rfl] at this
      rw [this]
      rfl
theorem j2_f (hw : ∀ s ∈ ws, s.size ≤ 6000) (hn : ws.length ≤ 20) (k : Nat) (n : Int) (b : Bool) (hk : 20200 ≤ k) :
    odometerref13_May.j2 k n b l win late ws ser wins que con bod bas mos = some (mayR (!b && (inB ser 1 4096 && (inB wins 1 64 && (inB que 1 64 && (inB con n 32 && inB bod 1 1048576))))) (wordsR ws)) := by
  obtain ⟨k, rfl⟩ : ∃ m, k = m + 1 := ⟨k - 1, by omega⟩
  rw [odometerref13_May.j2]
  cases b with
  | true => rfl
  | false =>
    rw [if_neg (by decide)]
    simp only [in_f, Option.bind_some, j3_f l win late ws ser wins que con bod bas mos hw hn k _ (by omega)]
    cases inB ser 1 4096 <;> cases inB wins 1 64 <;> cases inB que 1 64 <;> cases inB con n 32 <;> cases inB bod 1 1048576 <;> rfl
end
end Go.Proofs.YtedchpflcemdkaaGreat.PureCma
