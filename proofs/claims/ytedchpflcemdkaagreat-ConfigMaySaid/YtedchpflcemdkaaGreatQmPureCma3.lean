/- A text of this claim, pruned by a program of the session (prune.py) to what the theorem rests on. -/
import Derived.Test.YtedchpflcemdkaaGreatQmPureCma2
namespace Go.Proofs.YtedchpflcemdkaaGreat.PureCma
open Go.RowKit Go.Proofs.YtedchpflcemdkaaGreat Go.Proofs.YtedchpflcemdkaaGreat.PCma Go.Proofs.YtedchpflcemdkaaGreatW.PrintWords
set_option linter.unusedVariables false
set_option linter.unusedSimpArgs false
theorem tl_iff (a b : ByteArray) : (a.toList = b.toList) ↔ a = b := by
  constructor
  · intro h
    refine ByteArray.ext (Array.ext' ?_)
    rw [ByteArray.toList_eq, ByteArray.toList_eq] at h
    exact h
  · rintro rfl; rfl
def sameTg (x y : Tg) : Bool := decide (y.f0 = x.f0) && decide (y.f1 = x.f1)
abbrev mayT (x : Tg) : Bool := mayTB x.f0 x.f1 x.f2 x.f3 x.f4
abbrev pairT (x : Tg) : ByteArray × ByteArray := (x.f0, x.f1)
section
variable (l : List Tg) (win late : Int) (ws : List ByteArray) (ser wins que con bod bas mos : Int)
set_option maxRecDepth 100000 in
theorem dup_go (hn : l.length ≤ 20) (i : Nat) (hi : i < l.length) : ∀ (m k p : Nat), p + m = i →
    odometerref13_May.l1 (k + m + 1) (l.length : Int) (i : Int) (p : Int) l win late ws ser wins que con bod bas mos = if ((l.drop p).take m).any (sameTg l[i]) then some 2 else odometerref13_May.l0 k (l.length : Int) ((i + 1 : Nat) : Int) l win late ws ser wins que con bod bas mos := by
  intro m
  induction m with
  | zero =>
    intro k p h
    have hw : wrap64 ((i : Int) + 1) = ((i + 1 : Nat) : Int) := by rw [wrap_of] <;> omega
    rw [Nat.add_zero, odometerref13_May.l1, if_neg (by omega), hw]
    rfl
  | succ m ih =>
    intro k p h
    have hp : p < l.length := by omega
    have hw : wrap64 ((p : Int) + 1) = ((p + 1 : Nat) : Int) := by rw [wrap_of] <;> omega
    rw [show k + (m + 1) + 1 = (k + m + 1) + 1 from by omega, odometerref13_May.l1, if_pos (by omega), if_pos (by omega), if_pos (by omega), if_pos (by omega), if_pos (by omega), rd_tgt l p hp, rd_tgt l i hi, hw, ih k (p + 1) (by omega), List.drop_eq_getElem_cons hp, List.take_succ_cons, List.any_cons]
    generalize ((l.drop (p + 1)).take m).any (sameTg l[i]) = R
    unfold sameTg
    by_cases h1 : l[p].f0 = l[i].f0
    · rw [if_pos ((tl_iff _ _).2 h1), decide_eq_true h1]
      by_cases h2 : l[p].f1 = l[i].f1
      · rw [if_pos ((tl_iff _ _).2 h2), decide_eq_true h2]
        rfl
      · rw [if_neg (fun e => h2 ((tl_iff _ _).1 e)), decide_eq_false h2]
        rfl
    · rw [if_neg (fun e => h1 ((tl_iff _ _).1 e)), decide_eq_false h1]
      rfl
theorem seen_any (x : Tg) (r : List Tg) : ((r.map pairT).reverse).any (fun p => decide (p = (x.f0, x.f1))) = r.any (sameTg x) := by
  rw [List.any_reverse, List.any_map]
  congr 1
  funext y
  show decide ((y.f0, y.f1) = (x.f0, x.f1)) = sameTg x y
  unfold sameTg
  rw [← Bool.decide_and]
  exact decide_eq_decide.2 (by rw [Prod.mk.injEq])
def timesB : Bool := (inB win 1 1073741824 && inB late 0 1073741824) && (inB bas 1 mos && decide (mos ≤ 1073741824))
def numsB (n : Int) : Bool := inB ser 1 4096 && (inB wins 1 64 && (inB que 1 64 && (inB con n 32 && inB bod 1 1048576)))
set_option maxRecDepth 100000 in
theorem tgts_end (hw : ∀ s ∈ ws, s.size ≤ 6000) (hwn : ws.length ≤ 20) (k : Nat) (hk : 30000 ≤ k) :
    odometerref13_May.l0 k (l.length : Int) (l.length : Int) l win late ws ser wins que con bod bas mos = some (mayR (timesB win late bas mos && numsB ser wins que con bod l.length) (wordsR ws)) := by
  obtain ⟨k, rfl⟩ : ∃ m, k = m + 1 := ⟨k - 1, by omega⟩
  have hj := fun b => j2_f l win late ws ser wins que con bod bas mos hw hwn k (l.length : Int) b (by omega)
  rw [odometerref13_May.l0, if_neg (by omega)]
  simp only [hj]
  unfold timesB numsB
  generalize (inB ser 1 4096 && (inB wins 1 64 && (inB que 1 64 && (inB con (l.length : Int) 32 && inB bod 1 1048576)))) = R
  unfold inB
  by_cases g1 : win < 1
  · rw [if_pos g1, decide_eq_false (by omega : ¬ 1 ≤ win)]; rfl
  rw [if_neg g1, decide_eq_true (by omega : 1 ≤ win)]
  by_cases g2 : win > 1073741824
  · rw [if_pos g2, decide_eq_false (by omega : ¬ win ≤ 1073741824)]; rfl
  rw [if_neg g2, decide_eq_true (by omega : win ≤ 1073741824)]
  by_cases g3 : late < 0
  · rw [if_pos g3, decide_eq_false (by omega : ¬ 0 ≤ late)]; rfl
  rw [if_neg g3, decide_eq_true (by omega : 0 ≤ late)]
  by_cases g4 : late > 1073741824
  · rw [if_pos g4, decide_eq_false (by omega : ¬ late ≤ 1073741824)]; rfl
  rw [if_neg g4, decide_eq_true (by omega : late ≤ 1073741824)]
  by_cases g5 : bas < 1
  · rw [if_pos g5, decide_eq_false (by omega : ¬ 1 ≤ bas)]; rfl
  rw [if_neg g5, decide_eq_true (by omega : 1 ≤ bas)]
  by_cases g6 : bas > mos
  · rw [if_pos g6, decide_eq_false (by omega : ¬ bas ≤ mos)]; rfl
  rw [if_neg g6, decide_eq_true (by omega : bas ≤ mos)]
  by_cases g7 : mos > 1073741824
  · rw [decide_eq_true g7, decide_eq_false (by omega : ¬ mos ≤ 1073741824)]; rfl
  rw [decide_eq_false g7, decide_eq_true (by omega : mos ≤ 1073741824)]; rfl
set_option maxRecDepth 100000 in
theorem tgts_go (hw : ∀ s ∈ ws, s.size ≤ 6000) (hwn : ws.length ≤ 20) (hn : l.length ≤ 20) (hl : ∀ t ∈ l, t.f1.size ≤ 6000 ∧ t.f2.size ≤ 6000) : ∀ (n k i : Nat), i + n = l.length → n * 40 + 1099511627900 ≤ k →
    odometerref13_May.l0 k (l.length : Int) (i : Int) l win late ws ser wins que con bod bas mos = some (mayR (!badC (fun x : Tg => x.f0) (fun x => x.f1) mayT ((l.take i).map pairT).reverse (l.drop i) && (timesB win late bas mos && numsB ser wins que con bod l.length)) (wordsR ws)) := by
  intro n
  induction n with
  | zero =>
    intro k i h hk
    obtain rfl : i = l.length := by omega
    rw [tgts_end l win late ws ser wins que con bod bas mos hw hwn k (by omega), List.drop_eq_nil_of_le (Nat.le_refl _)]
    rfl
  | succ n ih =>
    intro k i h hk
    have hi : i < l.length := by omega
    obtain ⟨k, rfl⟩ : ∃ m, k = (m + i + 1) + 1 := ⟨k - i - 2, by omega⟩
    have ht := hl l[i] (List.getElem_mem hi)
    have hd := dup_go l win late ws ser wins que con bod bas mos hn i hi i k 0 (by omega)
    rw [show ((0 : Nat) : Int) = 0 from rfl, ih k (i + 1) (by omega) (by omega), List.drop_zero] at hd
    rw [odometerref13_May.l0, if_pos (by omega), if_pos (by omega), if_pos (by omega), rd_tgt l i hi, rtarget_f (k + i + 1) _ _ _ _ _ (by omega) (by omega) (by omega), Option.bind_some, hd, List.drop_eq_getElem_cons hi, badC, seen_any]
    have htk : ((l.take (i + 1)).map pairT).reverse = (l[i].f0, l[i].f1) :: ((l.take i).map pairT).reverse := by
      rw [List.take_succ_eq_append_getElem hi, List.map_append, List.reverse_append]
      rfl
    rw [htk]
    generalize badC (fun x : Tg => x.f0) (fun x => x.f1) mayT ((l[i].f0, l[i].f1) :: ((l.take i).map pairT).reverse) (l.drop (i + 1)) = R
    generalize (l.take i).any (sameTg l[i]) = D
    rw [show mayTB l[i].f0 l[i].f1 l[i].f2 l[i].f3 l[i].f4 = mayT l[i] from rfl]
    generalize mayT l[i] = M
    cases M <;> cases D <;> rfl
theorem may_f (hw : ∀ s ∈ ws, s.size ≤ 6000) (hwn : ws.length ≤ 20) (hn : l.length ≤ 20) (hl : ∀ t ∈ l, t.f1.size ≤ 6000 ∧ t.f2.size ≤ 6000) (k : Nat) (hk : 1099511629000 ≤ k) :
    odometerref13_May.f k l win late ws ser wins que con bod bas mos = some (mayR (rowsC l.length (badC (fun x : Tg => x.f0) (fun x => x.f1) mayT [] l) win late ser wins que con bod bas mos) (wordsR ws)) := by
  have h := tgts_go l win late ws ser wins que con bod bas mos hw hwn hn hl l.length k 0 (by omega) (by omega)
  rw [show ((0 : Nat) : Int) = 0 from rfl, List.drop_zero] at h
  unfold odometerref13_May.f
  rw [in_f, Option.bind_some, h]
  unfold rowsC timesB numsB
  rw [show ((l.take 0).map pairT).reverse = [] from rfl]
  generalize inB (l.length : Int) 1 16 = b0
  generalize badC (fun x : Tg => x.f0) (fun x => x.f1) mayT [] l = b1
  generalize decide (mos ≤ 1073741824) = b2
  cases b0
  · rfl
  cases b1 <;> cases b2 <;> cases inB win 1 1073741824 <;> cases inB late 0 1073741824 <;> cases inB bas 1 mos <;> first | rfl | (cases inB ser 1 4096 <;> cases inB wins 1 64 <;> cases inB que 1 64 <;> cases inB con (l.length : Int) 32 <;> cases inB bod 1 1048576 <;> rfl)
theorem config_f (hw : ∀ s ∈ ws, s.size ≤ 6000) (hwn : ws.length ≤ 20) (hn : l.length ≤ 20) (hl : ∀ t ∈ l, t.f0.size ≤ 6000 ∧ t.f1.size ≤ 6000 ∧ t.f2.size ≤ 6000) :
    config_May.f l win late ws ser wins que con bod bas mos = some (mayR (rowsC l.length (badC (fun x : Tg => x.f0) (fun x => x.f1) mayT [] l) win late ser wins que con bod bas mos) (wordsR ws)) := by
  unfold config_May.f
  rw [if_pos ⟨by omega, by omega, fun x hx => ⟨by have := (hl x hx).1; omega, by have := (hl x hx).2.1; omega, by have := (hl x hx).2.2; omega⟩, fun s hs => by have := hw s hs; omega⟩]
  rfl
set_option maxRecDepth 100000 in
theorem law_go (hw : ∀ s ∈ ws, s.size ≤ 6000) (hwn : ws.length ≤ 20) (hn : l.length ≤ 20) (hl : ∀ t ∈ l, t.f0.size ≤ 6000 ∧ t.f1.size ≤ 6000 ∧ t.f2.size ≤ 6000) : ∀ (n k i : Nat), i + n = l.length → n + 1099511630000 ≤ k →
    odometerlaw13_ConfigMay.l0 k (i : Int) l win late ws ser wins que con bod bas mos = some true := by
  intro n
  induction n with
  | zero =>
    intro k i h hk
    obtain ⟨k, rfl⟩ : ∃ m, k = m + 1 := ⟨k - 1, by omega⟩
    rw [odometerlaw13_ConfigMay.l0, if_neg (by omega), config_f l win late ws ser wins que con bod bas mos hw hwn hn hl, may_f l win late ws ser wins que con bod bas mos hw hwn hn (fun t ht => (hl t ht).2) k (by omega), Option.bind_some, Option.bind_some, if_pos rfl, known_ge k (by omega)]
    rfl
  | succ n ih =>
    intro k i h hk
    obtain ⟨k, rfl⟩ : ∃ m, k = m + 1 := ⟨k - 1, by omega⟩
    have hi : i < l.length := by omega
    have hwj : wrap64 ((i : Int) + 1) = ((i + 1 : Nat) : Int) := by rw [wrap_of] <;> omega
    have ht := hl l[i] (List.getElem_mem hi)
    rw [odometerlaw13_ConfigMay.l0, if_pos (by omega), if_pos (by omega), rd_tgt l i hi, config_May.target k _ _ _ _ _ (by omega) (by omega) (by omega), rtarget_f k _ _ _ _ _ (by omega) (by omega) (by omega), Option.bind_some, Option.bind_some, hwj, ih k (i + 1) (by omega) (by omega)]
    simp
theorem ConfigMay (hw : ∀ s ∈ ws, s.size ≤ 140737488351232) (hl : ∀ t ∈ l, t.f0.size ≤ 140737488351232 ∧ t.f1.size ≤ 140737488351232 ∧ t.f2.size ≤ 140737488351232) : ∃ k, odometerlaw13_ConfigMay.f k l win late ws ser wins que con bod bas mos = some true := by
  refine ⟨1099511640000, ?_⟩
  obtain ⟨b, hb, hB⟩ := much_tgts l win late ws ser wins que con bod bas mos hw hl 21 1099511640000 0 0 (by omega) (by omega) (by omega) (by omega)
  rw [show ((0 : Nat) : Int) = 0 from rfl] at hb
  unfold odometerlaw13_ConfigMay.f odometerref13_Much.f
  rw [hb, Option.bind_some]
  cases b with
  | true =>
    rw [if_pos rfl, known_ge _ (by omega)]
    rfl
  | false =>
    obtain ⟨a1, a2, a3, a4, a5⟩ := hB rfl
    rw [if_neg (by decide)]
    have := law_go l win late ws ser wins que con bod bas mos a4 a2 a1 (fun t ht => by
      obtain ⟨i, hi, rfl⟩ := List.getElem_of_mem ht
      exact a5 i (Nat.zero_le _) _ (List.getElem?_eq_getElem hi)) l.length 1099511640000 0 (by omega) (by omega)
    rw [show ((0 : Nat) : Int) = 0 from rfl] at this
    exact this
end
end Go.Proofs.YtedchpflcemdkaaGreat.PureCma
