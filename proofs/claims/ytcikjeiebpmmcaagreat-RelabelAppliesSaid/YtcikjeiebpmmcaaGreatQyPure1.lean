/- Texts of this claim, joined by a program of the session (join.py). -/
import Derived.Test.YtcikjeiebpmmcaaGreatQyPure0
import Derived.Test.YtcikjeiebpmmcaaGreatQyPMchx0
import Derived.Test.YtcikjeiebpmmcaaGreatQyPMchx1
import Derived.Test.YtcikjeiebpmmcaaGreatQyPMchx3
import Derived.Test.YtcikjeiebpmmcaaGreatQyPMchx4
import Derived.Test.YtcikjeiebpmmcaaGreatQyPMchx5
import Derived.Test.YtcikjeiebpmmcaaGreatQyPMchx6
import Derived.Test.YtcikjeiebpmmcaaGreatQyPMchx7
import Derived.Test.YtcikjeiebpmmcaaGreatQyPMchx8
import Derived.Test.YtcikjeiebpmmcaaGreatQyPMchx9
import Derived.Test.YtcikjeiebpmmcaaGreatQyPMchx10
import Derived.Test.YtcikjeiebpmmcaaGreatQyPMchx11
import Derived.Test.YtcikjeiebpmmcaaGreatQyPMchx12
import Derived.Test.YtcikjeiebpmmcaaGreatQyPMchx13
import Derived.Test.YtcikjeiebpmmcaaGreatQyPMchx14
import Derived.Test.YtcikjeiebpmmcaaGreatQyPMchx15
import Derived.Test.YtcikjeiebpmmcaaGreatQyPMchx16
import Derived.Test.YtcikjeiebpmmcaaGreatQyPMchx17
import Derived.Test.YtcikjeiebpmmcaaGreatQyPMchx18
import Derived.Test.YtcikjeiebpmmcaaGreatQyPMchx19
import Derived.Test.YtcikjeiebpmmcaaGreatQyPMchx20
import Derived.Test.YtcikjeiebpmmcaaGreatQyPMchx21
section
/- Pruned. -/
namespace Go.Proofs.YtcikjeiebpmmcaaGreat.PureMch
open Go.RowKit Go.Proofs.YtcikjeiebpmmcaaGreat Go.Proofs.YtcikjeiebpmmcaaGreat.PMch Go.Proofs.YtcikjeiebpmmcaaGreatW.PrintWords
set_option linter.unusedVariables false
set_option linter.unusedSimpArgs false
def okT (s : ByteArray) (x : PB) (k : Nat) : Bool := x.f0 || decide (bt s (k : Int) = x.f1)
def okR (s : ByteArray) (x : PT) (k : Nat) : Bool := x.f1 || decide (x.f2 = bt s (k : Int))
theorem ok_eq (s : ByteArray) (x : PB) (k : Nat) : okR s (oneT x) k = okT s x k := by
  unfold okR okT oneT
  dsimp only
  by_cases h : x.f0 = true
  · rw [h]; rfl
  · have h' : x.f0 = false := by simpa using h
    rw [h', if_neg (by decide), Bool.false_or, Bool.false_or]
    exact decide_eq_decide.2 eq_comm
def Tok.map {α β : Type} (f : α → β) : Tok α → Tok β
  | .star => .star
  | .one b => .one (f b)
theorem fits_map {α β : Type} (f : α → β) (oa : α → Nat → Bool) (ob : β → Nat → Bool) (h : ∀ x k, ob (f x) k = oa x k) (n : Nat) : ∀ (l : List (Tok α)) (k : Nat), fitsF ob n (l.map (Tok.map f)) k = fitsF oa n l k
  | [], k => rfl
  | .star :: r, k => by
    show (List.range (n + 1 - k)).any (fun j => fitsF ob n (r.map (Tok.map f)) (k + j)) = (List.range (n + 1 - k)).any (fun j => fitsF oa n r (k + j))
    congr 1
    funext j
    exact fits_map f oa ob h n r (k + j)
  | .one b :: r, k => by
    show (decide (k < n) && (ob (f b) k && fitsF ob n (r.map (Tok.map f)) (k + 1))) = _
    rw [h, fits_map f oa ob h n r (k + 1)]
    rfl
theorem took_map {α β : Type} (f : α → β) (oa : α → Nat → Bool) (ob : β → Nat → Bool) (h : ∀ x k, ob (f x) k = oa x k) (n : Nat) (t : ByteArray) : ∀ (l : List (Tok α)) (k : Nat), tookF ob n t (l.map (Tok.map f)) k = tookF oa n t l k
  | [], k => rfl
  | .star :: r, k => by
    have e : fitsF ob n (r.map (Tok.map f)) = fitsF oa n r := funext (fits_map f oa ob h n r)
    show t.extract k (leastF (fitsF ob n (r.map (Tok.map f))) (n + 1 - k) k) :: tookF ob n t (r.map (Tok.map f)) (leastF (fitsF ob n (r.map (Tok.map f))) (n + 1 - k) k) = _
    rw [e, took_map f oa ob h n t r]
    rfl
  | .one b :: r, k => by
    show tookF ob n t (r.map (Tok.map f)) (k + 1) = _
    rw [took_map f oa ob h n t r (k + 1)]
    rfl
def tokR (x : PT) : Tok PT := if x.f0 then .star else .one x
theorem toks_ones (q : List PB) : (q.map oneT).map tokR = (ones q).map (Tok.map oneT) := by
  simp [ones, tokR, oneT, Tok.map]
theorem toks_eq : ∀ (init : List (List PB)) (q p0 : List PB) (r : List (List PB)), init ++ [q] = p0 :: r → (flatQ init q).map tokR = (ones p0 ++ stars r).map (Tok.map oneT)
  | [], q, p0, r, h => by
    obtain ⟨rfl, rfl⟩ : q = p0 ∧ [] = r := by simpa using h
    have := toks_ones q
    simpa [flatQ, flatI, stars] using this
  | p :: init, q, p0, r, h => by
    obtain ⟨rfl, rfl⟩ : p = p0 ∧ init ++ [q] = r := by simpa using h
    obtain ⟨p1, r1, h1⟩ : ∃ p1 r1, init ++ [q] = p1 :: r1 := by
      cases init with
      | nil => exact ⟨q, [], rfl⟩
      | cons a b => exact ⟨a, b ++ [q], rfl⟩
    have ih := toks_eq init q p1 r1 h1
    have e : flatQ (p :: init) q = p.map oneT ++ starT :: flatQ init q := by simp [flatQ, flatI]
    rw [e, h1, stars, List.map_append, List.map_cons, toks_ones, ih]
    simp [Tok.map, tokR, starT]
def matchR (ls : List PT) (b : Bool) (s : ByteArray) : List ByteArray × Bool :=
  if b = false then ([], false) else if fitsF (okR s) s.size (ls.map tokR) 0 = true then (tookF (okR s) s.size s (ls.map tokR) 0, true) else ([], false)
theorem stands_l0 (s : ByteArray) (hs : s.size ≤ 100000) (p : List PB) (a : Nat) (ha : a + p.length ≤ s.size) : ∀ (m k j : Nat), j + m = p.length → m < k → relabel_stands.l0 k s (a : Int) p (p.length : Int) (j : Int) = some (standsB (okT s) s.size (p.drop j) (a + j)) := by
  intro m
  induction m with
  | zero =>
    intro k j h hk
    obtain ⟨k, rfl⟩ : ∃ q, k = q + 1 := ⟨k - 1, by omega⟩
    rw [relabel_stands.l0, if_neg (by omega), List.drop_of_length_le (by omega), standsB, decide_eq_true (by omega)]
  | succ m ih =>
    intro k j h hk
    obtain ⟨k, rfl⟩ : ∃ q, k = q + 1 := ⟨k - 1, by omega⟩
    have hj : j < p.length := by omega
    have hw1 : wrap64 ((j : Int) + 1) = ((j + 1 : Nat) : Int) := by rw [wrap_in' _ (by omega) (by omega)]; omega
    have hw2 : wrap64 ((a : Int) + (j : Int)) = ((a + j : Nat) : Int) := by rw [wrap_in' _ (by omega) (by omega)]; omega
    have hr : rd_T103 p (j : Int) = p[j] := by unfold rd_T103; simp [hj]
    have ih' := ih k (j + 1) (by omega) (by omega)
    have c1 : (j : Int) < (p.length : Int) := by omega
    have c2 : (0 : Int) ≤ (j : Int) := by omega
    have c3 : (0 : Int) ≤ ((a + j : Nat) : Int) := by omega
    have c4 : ((a + j : Nat) : Int) < (s.size : Int) := by omega
    have c5 : a + j < s.size := by omega
    rw [relabel_stands.l0, if_pos c1, if_pos c2, if_pos c1, hr, hw1, hw2, ih', List.drop_eq_getElem_cons hj, standsB, decide_eq_true c5, Bool.true_and, if_pos c3, if_pos c4, show a + (j + 1) = a + j + 1 from rfl]
    generalize standsB (okT s) s.size (p.drop (j + 1)) (a + j + 1) = R
    unfold okT
    by_cases h : p[j].f0 = true
    · rw [if_pos h, h]; rfl
    · have h' : p[j].f0 = false := by simpa using h
      rw [if_neg h, h', Bool.false_or]
      by_cases h2 : bt s ((a + j : Nat) : Int) = p[j].f1
      · rw [if_pos h2, decide_eq_true h2]; rfl
      · rw [if_neg h2, decide_eq_false h2]; rfl
theorem stands_f (s : ByteArray) (hs : s.size ≤ 100000) (p : List PB) (hp : p.length ≤ 100000) (a : Nat) (ha : a ≤ s.size) (k : Nat) (hk : 100002 < k) : relabel_stands.f k p s (a : Int) = some (standsB (okT s) s.size p a) := by
  obtain ⟨k, rfl⟩ : ∃ q, k = q + 1 := ⟨k - 1, by omega⟩
  have hw : wrap64 ((a : Int) + (p.length : Int)) = ((a + p.length : Nat) : Int) := by rw [wrap_in' _ (by omega) (by omega)]; omega
  unfold relabel_stands.f
  rw [if_neg (by omega), hw, relabel_stands.j0]
  by_cases h : a + p.length ≤ s.size
  · have := stands_l0 s hs p a h p.length k 0 (by omega) (by omega)
    rw [decide_eq_false (by omega), if_neg (by decide)]
    exact this
  · rw [decide_eq_true (by omega), if_pos rfl]
    congr 1
    symm
    rw [Bool.eq_false_iff]
    intro hst
    exact h (stands_le _ _ p a hst)
theorem prog_match (pat s : ByteArray) (hp : pat.size ≤ 100000) (hs : s.size ≤ 100000) (k : Nat) (hk : 100002 < k) : ∃ ls b, r29_Parts.f k pat = some (ls, b) ∧ ls.length ≤ pat.size ∧ relabel_Match.f k pat s = some (matchR ls b s) := by
  obtain ⟨ps, b, ls, h1, h2, h3, h4⟩ := pattern_f pat hp k (by omega)
  refine ⟨ls, b, h2, h3.2.2, ?_⟩
  unfold relabel_Match.f
  rw [h1, Option.bind_some]
  dsimp only
  rw [if_pos ⟨by omega, by have := h3.1; omega, fun p hp' => by have := h3.2.1 p hp'; omega⟩]
  cases b with
  | false => rfl
  | true =>
    obtain ⟨init, q, rfl, rfl⟩ := h4 rfl
    obtain ⟨p0, r, hpr⟩ : ∃ p0 r, init ++ [q] = p0 :: r := by
      cases init with
      | nil => exact ⟨q, [], rfl⟩
      | cons a b => exact ⟨a, b ++ [q], rfl⟩
    have hq := h3.2.1
    rw [hpr] at hq ⊢
    rw [match_eq (okT s) s.size s _ rfl p0 r (fun p hp' a ha => stands_f s hs p (by have := hq p hp'; omega) a ha k hk)]
    unfold matchR
    rw [if_neg (show ¬ true = false by decide), toks_eq init q p0 r hpr, fits_map oneT (okT s) (okR s) (ok_eq s), took_map oneT (okT s) (okR s) (ok_eq s)]
end Go.Proofs.YtcikjeiebpmmcaaGreat.PureMch
end
section
/- Pruned. -/
namespace Go.Proofs.YtcikjeiebpmmcaaGreat.PureMch
open Go.RowKit Go.Proofs.YtcikjeiebpmmcaaGreat Go.Proofs.YtcikjeiebpmmcaaGreat.PMch Go.Proofs.YtcikjeiebpmmcaaGreatW.PrintWords
set_option linter.unusedVariables false
set_option linter.unusedSimpArgs false
theorem took_len (n : Nat) (tx : ByteArray) : ∀ (l : List (Tok PT)) (k : Nat), (tookF (okR tx) n tx l k).length ≤ l.length
  | [], k => Nat.le_refl _
  | .one b :: r, k => by
    show (tookF (okR tx) n tx r (k + 1)).length ≤ r.length + 1
    have := took_len n tx r (k + 1)
    omega
  | .star :: r, k => by
    show (tookF (okR tx) n tx r _).length + 1 ≤ r.length + 1
    exact Nat.succ_le_succ (took_len n tx r _)
theorem match_len (tx : ByteArray) (l : List PT) (b : Bool) : (matchR l b tx).1.length ≤ l.length := by
  unfold matchR
  split
  · simp
  · split
    · have := took_len tx.size tx (l.map tokR) 0
      rwa [List.length_map] at this
    · simp
theorem matchT_eq (ls : List PT) (b : Bool) (s : ByteArray) : matchT (fun p : PT => p.f0) (fun p => p.f1) (fun p => p.f2) s ls b = matchR ls b s := rfl
theorem both_match (pat s : ByteArray) (hp : pat.size ≤ 100000) (hs : s.size ≤ 100000) (k : Nat) (hk : 100002 < k) : ∃ r, r.1.length ≤ pat.size ∧ relabel_Match.f k pat s = some r ∧ r29_Match.f k pat s = some r := by
  obtain ⟨ls, b, h1, h2, h3⟩ := prog_match pat s hp hs k hk
  refine ⟨_, Nat.le_trans (match_len s ls b) h2, h3, ?_⟩
  unfold r29_Match.f
  rw [h1, Option.bind_some]
  dsimp only
  rw [if_pos ⟨by omega, by omega⟩, matchT_eq]
end Go.Proofs.YtcikjeiebpmmcaaGreat.PureMch
end
section
/- Pruned. -/
namespace Go.Proofs.YtcikjeiebpmmcaaGreat.PureMch
open Go.RowKit Go.Proofs.YtcikjeiebpmmcaaGreat Go.Proofs.YtcikjeiebpmmcaaGreat.PMch Go.Proofs.YtcikjeiebpmmcaaGreatW.PrintWords
set_option linter.unusedVariables false
set_option linter.unusedSimpArgs false
theorem refEscape_go (s : ByteArray) (hs : s.size ≤ 1099511627776) : ∀ (n k i : Nat) (bs : List UInt8), i + n = s.size → n < k → bs.length ≤ 2 * i →
    r03_Escape.l0 k s (nb bs) (i : Int) = some ⟨(bs ++ (s.data.toList.drop i).flatMap escByte).toArray⟩
  | 0, k + 1, i, bs, h, hk, hb => by
    have hsz : s.data.toList.length = s.size := by simp
    obtain rfl : i = s.size := by omega
    rw [r03_Escape.l0, if_neg (by omega), List.drop_of_length_le (by omega), str_nb]
    simp
  | n + 1, k + 1, i, bs, h, hk, hb => by
    have hsz : s.data.toList.length = s.size := by simp
    have hi : i < s.size := by omega
    have hw : wrap64 ((i : Int) + 1) = ((i + 1 : Nat) : Int) := by rw [wrap_of] <;> omega
    have hlen : (nb bs).length < 140737488355328 := by rw [nb_length]; omega
    rw [r03_Escape.l0, if_pos (by omega), if_pos (by omega), List.drop_eq_getElem_cons (by omega), bt_get s i hi, hw]
    generalize s.data.toList[i]'(by omega) = c
    have e34 : ((c.toNat : Int) = 34) = (c = 34) := byte_iff c 34
    have e10 : ((c.toNat : Int) = 10) = (c = 10) := byte_iff c 10
    have e92 : ((c.toNat : Int) = 92) = (c = 92) := byte_iff c 92
    simp only [e34, e10, e92, Option.bind_some]
    have t1 : nb bs ++ [92, 110] = nb (bs ++ [92, 110]) := nb_two bs 92 110
    have t2 : nb bs ++ [92, (c.toNat : Int)] = nb (bs ++ [92, c]) := nb_two bs 92 c
    have hl2 : (nb bs).length + 2 < 140737488355328 := by rw [nb_length]; omega
    have hrec : ∀ m : List UInt8, m.length ≤ 2 → r03_Escape.l0 k s (nb (bs ++ m)) ((i + 1 : Nat) : Int) = some ⟨((bs ++ m) ++ (s.data.toList.drop (i + 1)).flatMap escByte).toArray⟩ := fun m hm =>
      refEscape_go s hs n k (i + 1) (bs ++ m) (by omega) (by omega) (by simp; omega)
    rw [List.flatMap_cons, ← List.append_assoc]
    unfold escByte at *
    by_cases h10 : c = 10
    · rw [if_pos h10, if_pos (by simpa using hl2), t1, hrec _ (by simp)]
      subst h10
      rfl
    · rw [if_neg h10]
      by_cases h92 : c = 92
      · rw [if_pos h92, if_pos (by simpa using hl2), t2, hrec _ (by simp)]
        subst h92
        rfl
      · rw [if_neg h92]
        by_cases h34 : c = 34
        · rw [if_pos h34, if_pos (by simpa using hl2), t2, hrec _ (by simp)]
          subst h34
          rfl
        · rw [if_neg h34, if_pos hlen, nb_snoc, hrec _ (by simp)]
          simp [h10, h92, h34]
theorem refEscape_f (k : Nat) (s : ByteArray) (hs : s.size ≤ 1099511627776) (hk : s.size + 1 ≤ k) : r03_Escape.f k s = some ⟨(s.data.toList.flatMap escByte).toArray⟩ := by
  have h := refEscape_go s hs s.size k 0 [] (by omega) (by omega) (by simp)
  rw [List.drop_zero, List.nil_append] at h
  exact h
end Go.Proofs.YtcikjeiebpmmcaaGreat.PureMch
end
section
/- Pruned. -/
namespace Go.Proofs.YtcikjeiebpmmcaaGreat.PureMch
open Go.RowKit Go.Proofs.YtcikjeiebpmmcaaGreat Go.Proofs.YtcikjeiebpmmcaaGreat.PMch Go.Proofs.YtcikjeiebpmmcaaGreatW.PrintWords
set_option linter.unusedVariables false
set_option linter.unusedSimpArgs false
def noneBefore (l : List Lb) (x : Lb) : Nat → Nat → Bool
  | 0, _ => true
  | n + 1, j => !decide ((l.getD j x).f0.toList = x.f0.toList) && noneBefore l x n (j + 1)
def mayFrom (l : List Lb) : Nat → Nat → Bool
  | 0, _ => true
  | n + 1, i => goodL (l.getD i z96) && (noneBefore l (l.getD i z96) i 0 && mayFrom l n (i + 1))
theorem may_inner (l : List Lb) (hl : l.length ≤ 40 ∧ ∀ x ∈ l, x.f0.size ≤ 10000) (i : Nat) (hi : i < l.length) (R : Bool) (K : Nat) (hR : ∀ k, K ≤ k → r03_may.l0 k l ((i + 1 : Nat) : Int) = some R) : ∀ (n k j : Nat), j + n = i → n + 1 + K ≤ k →
    r03_may.l1 k l (i : Int) (j : Int) = some (noneBefore l (l.getD i z96) n j && R)
  | 0, k, j, h, hk => by
    obtain ⟨k, rfl⟩ : ∃ q, k = q + 1 := ⟨k - 1, by omega⟩
    obtain rfl : j = i := by omega
    have hw : wrap64 ((j : Int) + 1) = ((j + 1 : Nat) : Int) := by have := hl.1; rw [wrap_of] <;> omega
    rw [r03_may.l1, if_neg (by omega), hw, hR k (by omega)]
    simp [noneBefore]
  | n + 1, k, j, h, hk => by
    obtain ⟨k, rfl⟩ : ∃ q, k = q + 1 := ⟨k - 1, by omega⟩
    have hw : wrap64 ((j : Int) + 1) = ((j + 1 : Nat) : Int) := by have := hl.1; rw [wrap_of] <;> omega
    rw [r03_may.l1, if_pos (by omega), if_pos (by omega), if_pos (by omega), if_pos (by omega), if_pos (by omega), hw, rd_get l i hi, rd_get l j (by omega), noneBefore]
    have g1 : l.getD i z96 = l[i] := by simp [List.getD, List.getElem?_eq_getElem hi]
    have g2 : l.getD j l[i] = l[j]'(by omega) := by simp [List.getD, List.getElem?_eq_getElem (show j < l.length by omega)]
    rw [g1, g2]
    by_cases he : (l[j]'(by omega)).f0.toList = (l[i]).f0.toList
    · rw [if_pos he]
      simp [he]
    · rw [if_neg he, may_inner l hl i hi R K hR n k (j + 1) (by omega) (by omega), g1]
      simp [he]
theorem may_go (l : List Lb) (hl : l.length ≤ 40 ∧ ∀ x ∈ l, x.f0.size ≤ 10000) : ∀ (n k i : Nat), i + n = l.length → n * 50 + 30010 ≤ k → r03_may.l0 k l (i : Int) = some (mayFrom l n i)
  | 0, k, i, h, hk => by
    obtain ⟨k, rfl⟩ : ∃ j, k = j + 1 := ⟨k - 1, by omega⟩
    obtain rfl : i = l.length := by omega
    rw [r03_may.l0, if_neg (by omega)]
    rfl
  | n + 1, k, i, h, hk => by
    obtain ⟨k, rfl⟩ : ∃ j, k = j + 1 := ⟨k - 1, by omega⟩
    obtain ⟨k, rfl⟩ : ∃ j, k = j + 1 := ⟨k - 1, by omega⟩
    have hi : i < l.length := by omega
    have hx := hl.2 l[i] (List.getElem_mem hi)
    have g1 : l.getD i z96 = l[i] := by simp [List.getD, List.getElem?_eq_getElem hi]
    have hl1 := hl.1
    rw [r03_may.l0, if_pos (by omega), if_pos (by omega), rd_get l i hi, word_f (k + 1) (l[i]).f0 (by omega) (by omega), Option.bind_some, mayFrom, g1]
    have key : r03_may.j1 (k + 1) l (i : Int) false = some (noneBefore l l[i] i 0 && mayFrom l n (i + 1)) := by
      rw [r03_may.j1, if_neg (by simp)]
      obtain ⟨K, hK⟩ : ∃ K, K = n * 50 + 30010 := ⟨_, rfl⟩
      have hrec : ∀ k', K ≤ k' → r03_may.l0 k' l ((i + 1 : Nat) : Int) = some (mayFrom l n (i + 1)) := fun k' hk' => may_go l hl n k' (i + 1) (by omega) (by omega)
      have := may_inner l hl i hi (mayFrom l n (i + 1)) K hrec i k 0 (by omega) (by omega)
      rw [g1] at this
      exact this
    have bad : r03_may.j1 (k + 1) l (i : Int) true = some false := by rw [r03_may.j1, if_pos rfl]
    unfold goodL
    cases hw : namedB (l[i]).f0 95 with
    | false => rw [if_neg (by simp), bad]; simp
    | true =>
      rw [if_pos rfl]
      by_cases hv : (l[i]).f1.size ≤ 1024
      · rw [show decide (((l[i]).f1.size : Int) > 1024) = false by simp; omega, key]
        simp [hv]
      · rw [show decide (((l[i]).f1.size : Int) > 1024) = true by simp; omega, bad]
        simp [hv]
theorem noneBefore_iff (l : List Lb) (x : Lb) : ∀ (n j : Nat), noneBefore l x n j = true ↔ ∀ t, j ≤ t → t < j + n → (l.getD t x).f0 ≠ x.f0
  | 0, j => by simp [noneBefore]; intro t h1 h2; omega
  | n + 1, j => by
    rw [noneBefore, Bool.and_eq_true, noneBefore_iff l x n (j + 1)]
    simp only [Bool.not_eq_true', decide_eq_false_iff_not]
    constructor
    · rintro ⟨h1, h2⟩ t h3 h4
      rcases Nat.eq_or_lt_of_le h3 with rfl | h5
      · exact fun e => h1 (by rw [e])
      · exact h2 t (by omega) (by omega)
    · intro h
      exact ⟨fun e => h j (Nat.le_refl _) (by omega) (toList_inj e), fun t h1 h2 => h t (by omega) (by omega)⟩
theorem mayFrom_iff (l : List Lb) : ∀ (n i : Nat), i + n = l.length → (mayFrom l n i = true ↔ (∀ t, i ≤ t → (h : t < l.length) → goodL l[t] = true ∧ ∀ s, (hs : s < t) → (l[s]'(by omega)).f0 ≠ (l[t]).f0))
  | 0, i, h => by
    simp only [mayFrom, true_iff]
    intro t h1 h2
    omega
  | n + 1, i, h => by
    have hi : i < l.length := by omega
    have g1 : l.getD i z96 = l[i] := by simp [List.getD, List.getElem?_eq_getElem hi]
    rw [mayFrom, Bool.and_eq_true, Bool.and_eq_true, mayFrom_iff l n (i + 1) (by omega), g1, noneBefore_iff]
    have g2 : ∀ (s : Nat) (hs : s < i), l.getD s l[i] = l[s]'(by omega) := fun s hs => by simp [List.getD, List.getElem?_eq_getElem (show s < l.length by omega)]
    constructor
    · rintro ⟨h1, h2, h3⟩ t h4 h5
      rcases Nat.eq_or_lt_of_le h4 with rfl | h6
      · exact ⟨h1, fun s hs => by have := h2 s (by omega) (by omega); rwa [g2 s hs] at this⟩
      · exact h3 t (by omega) h5
    · intro h1
      refine ⟨(h1 i (Nat.le_refl _) hi).1, fun t _ ht => ?_, fun t ht h2 => h1 t (by omega) h2⟩
      rw [g2 t (by omega)]
      exact (h1 i (Nat.le_refl _) hi).2 t (by omega)
theorem may_iff (l : List Lb) : mayFrom l l.length 0 = true ↔ (l.all goodL = true ∧ (l.map nmL).Nodup) := by
  rw [mayFrom_iff l l.length 0 (by omega), List.all_eq_true]
  constructor
  · intro h
    refine ⟨fun x hx => ?_, ?_⟩
    · obtain ⟨t, ht, rfl⟩ := List.getElem_of_mem hx
      exact (h t (Nat.zero_le _) ht).1
    · rw [List.Nodup, List.pairwise_map, List.pairwise_iff_getElem]
      intro s t hs ht hst
      exact (h t (Nat.zero_le _) ht).2 s hst
  · rintro ⟨h1, h2⟩ t _ ht
    refine ⟨h1 _ (List.getElem_mem ht), fun s hs => ?_⟩
    rw [List.Nodup, List.pairwise_map, List.pairwise_iff_getElem] at h2
    exact h2 s t (by omega) ht hs
theorem may_f (l : List Lb) (hl : l.length ≤ 40 ∧ ∀ x ∈ l, x.f0.size ≤ 10000) (k : Nat) (hk : 32010 ≤ k) : r03_may.f k l = some (decide (l.length ≤ 16 ∧ l.all goodL = true ∧ (l.map nmL).Nodup)) := by
  unfold r03_may.f
  by_cases h : (l.length : Int) > 16
  · rw [if_pos h, decide_eq_false]
    rintro ⟨h1, _⟩
    omega
  · have := hl.1
    rw [if_neg h]
    have := may_go l hl l.length k 0 (by omega) (by omega)
    rw [show ((0 : Nat) : Int) = 0 from rfl] at this
    rw [this]
    congr 1
    rw [Bool.eq_iff_iff, may_iff, decide_eq_true_eq]
    exact ⟨fun h2 => ⟨by omega, h2⟩, fun h2 => h2.2⟩
theorem sorted_inner (l : List Lb) (hl : Small l) (i : Nat) (hi : i < l.length) (acc R : List Lb) (hacc : acc.length ≤ i) (K : Nat) : ∀ (n k j : Nat), j + n = acc.length → n + 1 + K ≤ k →
    (∀ k, K ≤ k → r03_Sorted.l0 k l (acc.take j ++ ins nmL l[i] (acc.drop j)) ((i + 1 : Nat) : Int) = some R) →
    r03_Sorted.l1 k l acc (i : Int) (j : Int) = some R := by
  intro n
  have hl1 := hl.1
  have hwi : wrap64 ((i : Int) + 1) = ((i + 1 : Nat) : Int) := by rw [wrap_of] <;> omega
  have eta : ∀ x : Lb, (⟨x.f0, x.f1⟩ : Lb) = x := fun x => rfl
  induction n with
  | zero =>
    intro k j h hk hR
    obtain ⟨k, rfl⟩ : ∃ q, k = q + 1 := ⟨k - 1, by omega⟩
    obtain rfl : j = acc.length := by omega
    rw [r03_Sorted.l1, if_neg (by omega), if_pos (by omega), if_pos (by omega)]
    simp only [Option.bind_some, Int.toNat_natCast, rd_get l i hi, hwi, eta, List.nil_append, List.take_length, List.drop_length, List.append_nil, List.length_nil, List.length_cons, List.length_append] at hR ⊢
    rw [if_pos (by omega), if_pos (by omega), if_pos (by omega), if_pos (by omega), if_pos (by omega)]
    exact hR k (by omega)
  | succ n ih =>
    intro k j h hk hR
    obtain ⟨k, rfl⟩ : ∃ q, k = q + 1 := ⟨k - 1, by omega⟩
    have hj : j < acc.length := by omega
    have hwj : wrap64 ((j : Int) + 1) = ((j + 1 : Nat) : Int) := by rw [wrap_of] <;> omega
    rw [r03_Sorted.l1, if_pos (by omega), if_pos (by omega), if_pos (by omega), if_pos (by omega), rd_get l i hi, rd_get acc j hj, hwj, hwi]
    rw [List.drop_eq_getElem_cons hj] at hR
    by_cases hlt : Op.bytesLess ((acc[j]).f0).toList ((l[i]).f0).toList = true
    · rw [if_pos hlt]
      refine ih k (j + 1) (by omega) (by omega) ?_
      have e : ins nmL l[i] (acc[j] :: acc.drop (j + 1)) = acc[j] :: ins nmL l[i] (acc.drop (j + 1)) := by
        rw [ins, if_pos (show ltN nmL acc[j] l[i] = true from hlt)]
      rw [e] at hR
      rw [List.take_succ_eq_append_getElem hj, List.append_assoc]
      exact hR
    · have e : ins nmL l[i] (acc[j] :: acc.drop (j + 1)) = l[i] :: acc[j] :: acc.drop (j + 1) := by
        rw [ins, if_neg (show ¬ ltN nmL acc[j] l[i] = true from hlt)]
      rw [e, ← List.drop_eq_getElem_cons hj] at hR
      rw [if_neg hlt, if_pos (by omega)]
      have d1 : (acc.take j).length = j := by rw [List.length_take]; omega
      have d2 : (acc.drop j).length = acc.length - j := List.length_drop
      simp only [Option.bind_some, Int.toNat_natCast, eta, List.nil_append, List.length_nil, List.length_cons, List.length_append, d1, d2]
      rw [if_pos (by omega), if_pos (by omega), if_pos (by omega)]
      have := hR k (by omega)
      rwa [show acc.take j ++ l[i] :: acc.drop j = acc.take j ++ [l[i]] ++ acc.drop j by simp] at this
theorem sorted_go (l : List Lb) (hl : Small l) : ∀ (n k i : Nat) (acc : List Lb), i + n = l.length → acc.length = i → n * 50 + 1 ≤ k → r03_Sorted.l0 k l acc (i : Int) = some ((l.drop i).foldl (fun acc x => ins nmL x acc) acc)
  | 0, k, i, acc, h, ha, hk => by
    obtain ⟨k, rfl⟩ : ∃ j, k = j + 1 := ⟨k - 1, by omega⟩
    obtain rfl : i = l.length := by omega
    rw [r03_Sorted.l0, if_neg (by omega), List.drop_length]
    rfl
  | n + 1, k, i, acc, h, ha, hk => by
    obtain ⟨k, rfl⟩ : ∃ j, k = j + 1 := ⟨k - 1, by omega⟩
    have hi : i < l.length := by omega
    have hl1 := hl.1
    rw [r03_Sorted.l0, if_pos (by omega), List.drop_eq_getElem_cons hi, List.foldl_cons]
    refine sorted_inner l hl i hi acc _ (by omega) (n * 50 + 1) acc.length k 0 (by omega) (by omega) ?_
    intro k' hk'
    rw [List.take_zero, List.drop_zero, List.nil_append]
    refine sorted_go l hl n k' (i + 1) _ (by omega) ?_ hk'
    rw [(ins_perm nmL l[i] acc).length_eq, List.length_cons, ha]
theorem sorted_f (l : List Lb) (hl : Small l) (k : Nat) (hk : 2001 ≤ k) : r03_Sorted.f k l = some (isort nmL l) := by
  have hl1 := hl.1
  exact sorted_go l hl l.length k 0 [] (by omega) rfl (by omega)
def refRest (s : List Lb) : Nat → Nat → List UInt8
  | 0, _ => if s.length > 0 then [125] else []
  | n + 1, i => (if i = 0 then [123] else [44]) ++ one (s.getD i z96) ++ refRest s n (i + 1)
theorem refName_go (s : List Lb) (hs : Small s) : ∀ (n k i : Nat) (t : ByteArray), i + n = s.length → n + 30010 ≤ k → t.size ≤ 10000 + 40000 * i →
    r03_Name.l0 k s t (i : Int) = some (ba (bl t ++ refRest s n i), 0)
  | 0, k, i, t, h, hk, ht => by
    obtain ⟨k, rfl⟩ : ∃ j, k = j + 1 := ⟨k - 1, by omega⟩
    have hs1 := hs.1
    obtain rfl : i = s.length := by omega
    rw [r03_Name.l0, if_neg (by omega)]
    by_cases h0 : s.length > 0
    · rw [if_pos (by omega), if_pos (by omega), refRest, if_pos h0]
      congr 2
    · rw [if_neg (by omega), refRest, if_neg h0, List.append_nil, ba_bl]
  | n + 1, k, i, t, h, hk, ht => by
    obtain ⟨k, rfl⟩ : ∃ j, k = j + 1 := ⟨k - 1, by omega⟩
    have hs1 := hs.1
    have hi : i < s.length := by omega
    have hw : wrap64 ((i : Int) + 1) = ((i + 1 : Nat) : Int) := by rw [wrap_of] <;> omega
    have hx := hs.2 s[i] (List.getElem_mem hi)
    have g1 : s.getD i z96 = s[i] := by simp [List.getD, List.getElem?_eq_getElem hi]
    have hE : r03_Escape.f k (s[i]).f1 = some (ba ((bl (s[i]).f1).flatMap escByte)) := refEscape_f k _ (by omega) (by omega)
    have hEs : (ba ((bl (s[i]).f1).flatMap escByte)).size ≤ 20000 := by
      rw [size_ba]
      have := esc_len (bl (s[i]).f1)
      rw [bl_length] at this
      omega
    have z2 : (⟨#[61, 34]⟩ : ByteArray).size = 2 := rfl
    have z1 : ∀ c : UInt8, (⟨#[c]⟩ : ByteArray).size = 1 := fun _ => rfl
    have step : ∀ c : UInt8, c = (if i = 0 then 123 else 44) → ∀ R, r03_Name.l0 k s (((((t ++ (⟨#[c]⟩ : ByteArray)) ++ (s[i]).f0) ++ (⟨#[61, 34]⟩ : ByteArray)) ++ ba ((bl (s[i]).f1).flatMap escByte)) ++ (⟨#[34]⟩ : ByteArray)) ((i + 1 : Nat) : Int) = R →
        R = some (ba (bl t ++ refRest s (n + 1) i), 0) := by
      intro c hc R hR
      have hsz : (((((t ++ (⟨#[c]⟩ : ByteArray)) ++ (s[i]).f0) ++ (⟨#[61, 34]⟩ : ByteArray)) ++ ba ((bl (s[i]).f1).flatMap escByte)) ++ (⟨#[34]⟩ : ByteArray)).size ≤ 10000 + 40000 * (i + 1) := by
        simp only [ByteArray.size_append, z1, z2]
        omega
      rw [← hR, refName_go s hs n k (i + 1) _ (by omega) (by omega) hsz, refRest, g1]
      congr 3
      simp only [bl_append, bl_ba, one, List.append_assoc]
      rw [hc]
      try (split <;> rfl)
    rw [r03_Name.l0, if_pos (by omega), rd_get s i hi, hE, hw]
    simp only [Option.bind_some]
    by_cases h0 : i = 0
    · rw [if_pos (by omega : (i : Int) = 0), if_pos (by omega), if_pos (by omega), if_pos (by simp only [ByteArray.size_append, z1]; omega), if_pos (by simp only [ByteArray.size_append, z1]; omega), if_pos (by simp only [ByteArray.size_append, z1, z2]; omega), if_pos (by simp only [ByteArray.size_append, z1, z2]; omega)]
      exact step 123 (by rw [if_pos h0]) _ rfl
    · rw [if_neg (by omega : ¬ (i : Int) = 0), if_pos (by omega), if_pos (by omega), if_pos (by simp only [ByteArray.size_append, z1]; omega), if_pos (by simp only [ByteArray.size_append, z1]; omega), if_pos (by simp only [ByteArray.size_append, z1, z2]; omega), if_pos (by simp only [ByteArray.size_append, z1, z2]; omega)]
      exact step 44 (by rw [if_neg h0]) _ rfl
theorem rest_tail (s : List Lb) (h0 : s.length > 0) : ∀ (n i : Nat), i + n = s.length → 0 < i → refRest s n i = Lib.joinTail [44] ((s.drop i).map one) ++ [125]
  | 0, i, h, hi => by
    obtain rfl : i = s.length := by omega
    rw [refRest, if_pos h0, List.drop_length]
    rfl
  | n + 1, i, h, hi => by
    have hil : i < s.length := by omega
    have g1 : s.getD i z96 = s[i] := by simp [List.getD, List.getElem?_eq_getElem hil]
    rw [refRest, if_neg (by omega), g1, rest_tail s h0 n (i + 1) (by omega) (by omega), List.drop_eq_getElem_cons hil]
    simp only [Lib.joinTail, List.map_cons, List.flatten_cons, List.append_assoc]
theorem rest_render : ∀ s : List Lb, refRest s s.length 0 = render s
  | [] => rfl
  | x :: r => by
    have := rest_tail (x :: r) (by simp) r.length 1 (by simp; omega) (by omega)
    show [123] ++ one ((x :: r).getD 0 z96) ++ refRest (x :: r) r.length 1 = render (x :: r)
    rw [this, render, List.map_cons, Lib.join_cons]
    show [123] ++ one x ++ (Lib.joinTail [44] (r.map one) ++ [125]) = [123] ++ (one x ++ Lib.joinTail [44] (r.map one)) ++ [125]
    simp only [List.append_assoc]
theorem refName_f (a0 : ByteArray) (ha : a0.size ≤ 10000) (l : List Lb) (hl : Small l) (k : Nat) (hk : 40000 ≤ k) : r03_Name.f k a0 l = some (nameF a0 l) := by
  obtain ⟨k, rfl⟩ : ∃ j, k = j + 1 := ⟨k - 1, by omega⟩
  have bad : r03_Name.j0 (k + 1) a0 l true = some ((⟨#[]⟩ : ByteArray), 5) := by rw [r03_Name.j0, if_pos rfl]
  unfold r03_Name.f nameF
  rw [metric_f (k + 1) a0 (by omega) (by omega), Option.bind_some, may_f l ⟨hl.1, fun x hx => (hl.2 x hx).1⟩ (k + 1) (by omega)]
  by_cases h1 : namedB a0 58 = true
  · rw [if_pos h1, Option.bind_some]
    by_cases h2 : l.length ≤ 16 ∧ l.all goodL = true ∧ (l.map nmL).Nodup
    · have hp := isort_perm nmL l
      have hsm := small_perm hp hl
      have := hsm.1
      rw [if_pos (c := _ ∧ _) ⟨h1, h2⟩, decide_eq_true h2, Bool.not_true, r03_Name.j0, if_neg (by simp), sorted_f l hl k (by omega), Option.bind_some]
      have := refName_go (isort nmL l) hsm (isort nmL l).length k 0 a0 (by omega) (by omega) (by omega)
      rw [show ((0 : Nat) : Int) = 0 from rfl, rest_render] at this
      exact this
    · rw [if_neg (fun h => h2 h.2), decide_eq_false h2, Bool.not_false, bad]
  · rw [if_neg h1, if_neg (fun h => h1 h.1), bad]
end Go.Proofs.YtcikjeiebpmmcaaGreat.PureMch
end
section
/- Pruned. -/
namespace Go.Proofs.YtcikjeiebpmmcaaGreat.PureMch
open Go.RowKit Go.Proofs.YtcikjeiebpmmcaaGreat Go.Proofs.YtcikjeiebpmmcaaGreat.PMch Go.Proofs.YtcikjeiebpmmcaaGreatW.PrintWords
set_option linter.unusedVariables false
set_option linter.unusedSimpArgs false
theorem refUnescape_go (s : ByteArray) (hs : s.size ≤ 1099511627776) : ∀ (n k i : Nat) (bs : List UInt8), i + n = s.size → n < k → bs.length ≤ i →
    r03_Unescape.l0 k s (nb bs) (i : Int) = some (unescR bs (s.data.toList.drop i)) := by
  intro n
  induction n using Nat.strongRecOn with
  | _ n ih =>
    intro k i bs h hk hb
    obtain ⟨k, rfl⟩ : ∃ j, k = j + 1 := ⟨k - 1, by omega⟩
    have hsz : s.data.toList.length = s.size := by simp
    rcases Nat.eq_zero_or_pos n with h0 | h0
    · obtain rfl : i = s.size := by omega
      rw [r03_Unescape.l0, if_neg (by omega), List.drop_of_length_le (by omega), unescR_nil, str_nb]
    · have hi : i < s.size := by omega
      have hw : wrap64 ((i : Int) + 1) = ((i + 1 : Nat) : Int) := by rw [wrap_of] <;> omega
      have hw2 : wrap64 (((i + 1 : Nat) : Int) + 1) = ((i + 2 : Nat) : Int) := by rw [wrap_of] <;> omega
      have hlen : (nb bs).length < 140737488355328 := by rw [nb_length]; omega
      rw [r03_Unescape.l0, if_pos (by omega), if_pos (by omega), List.drop_eq_getElem_cons (by omega), bt_get s i hi, hw, hw2]
      generalize s.data.toList[i]'(by omega) = c
      have e34 : ((c.toNat : Int) = 34) = (c = 34) := byte_iff c 34
      have e10 : ((c.toNat : Int) = 10) = (c = 10) := byte_iff c 10
      have e92 : ((c.toNat : Int) = 92) = (c = 92) := byte_iff c 92
      simp only [e34, e10, e92]
      by_cases h92 : c = 92
      · rw [if_pos h92]
        subst h92
        by_cases hend : i + 1 = s.size
        · rw [if_pos (by omega), List.drop_of_length_le (by omega), unescR_end]
        · rw [if_neg (by omega), if_pos (by omega), if_pos (by omega), List.drop_eq_getElem_cons (by omega), bt_get s (i + 1) (by omega)]
          generalize s.data.toList[i + 1]'(by omega) = d
          have f110 : ((d.toNat : Int) = 110) = (d = 110) := byte_iff d 110
          have f92 : ((d.toNat : Int) = 92) = (d = 92) := byte_iff d 92
          have f34 : ((d.toNat : Int) = 34) = (d = 34) := byte_iff d 34
          simp only [f110, f92, f34]
          by_cases d110 : d = 110
          · subst d110
            rw [if_pos rfl, if_pos hlen, unescR_n]
            have := ih (n - 2) (by omega) k (i + 2) (bs ++ [10]) (by omega) (by omega) (by simp; omega)
            rw [← nb_snoc] at this
            exact this
          · rw [if_neg d110]
            by_cases d92 : d = 92
            · rw [if_pos d92, if_pos hlen, unescR_two _ _ _ d110 (Or.inl d92), nb_snoc]
              exact ih (n - 2) (by omega) k (i + 2) _ (by omega) (by omega) (by simp; omega)
            · rw [if_neg d92]
              by_cases d34 : d = 34
              · rw [if_pos d34, if_pos hlen, unescR_two _ _ _ d110 (Or.inr d34), nb_snoc]
                exact ih (n - 2) (by omega) k (i + 2) _ (by omega) (by omega) (by simp; omega)
              · rw [if_neg d34, unescR_not _ _ _ d110 (by simp [d92, d34])]
      · rw [if_neg h92]
        by_cases h34 : c = 34
        · rw [if_pos h34, unescR_bad _ _ _ (Or.inl h34)]
        · rw [if_neg h34]
          by_cases h10 : c = 10
          · rw [if_pos h10, unescR_bad _ _ _ (Or.inr h10)]
          · rw [if_neg h10, if_pos hlen, unescR_one _ _ _ (by simp [h34, h10]) h92, nb_snoc]
            exact ih (n - 1) (by omega) k (i + 1) _ (by omega) (by omega) (by simp; omega)
theorem refUnescape_f (k : Nat) (s : ByteArray) (hs : s.size ≤ 1099511627776) (hk : s.size + 1 ≤ k) : r03_Unescape.f k s = some (unescR [] s.data.toList) :=
  refUnescape_go s hs s.size k 0 [] (by omega) (by omega) (by simp)
end Go.Proofs.YtcikjeiebpmmcaaGreat.PureMch
end
section
/- Pruned. -/
namespace Go.Proofs.YtcikjeiebpmmcaaGreat.PureMch
open Go.RowKit Go.Proofs.YtcikjeiebpmmcaaGreat Go.Proofs.YtcikjeiebpmmcaaGreat.PMch Go.Proofs.YtcikjeiebpmmcaaGreatW.PrintWords
set_option linter.unusedVariables false
set_option linter.unusedSimpArgs false
theorem data_len (s : ByteArray) : s.data.toList.length = s.size := by simp
theorem mul_step (p : Nat) : (p + 1) * (p + 1 + 8) = p * (p + 8) + (2 * p + 9) := by
  rw [Nat.add_mul, Nat.one_mul, show p + 1 + 8 = (p + 8) + 1 from rfl, Nat.mul_add, Nat.mul_one]
  omega
theorem mul_bound (p k : Nat) (h : (p + 1) * (p + 1 + 8) + 100000 ≤ k + 1) : p * (p + 8) + (2 * p + 9) + 100000 ≤ k + 1 := by rwa [mul_step] at h
theorem wrap_add (a b : Nat) (h : a + b ≤ 9000000) : wrap64 ((a : Int) + (b : Int)) = ((a + b : Nat) : Int) := by rw [wrap_of] <;> omega
theorem wrap_plus2 (n : Nat) (h : n ≤ 8000000) : wrap64 ((n : Int) + 2) = ((n + 2 : Nat) : Int) := by rw [wrap_of] <;> omega
theorem wrap_less (n : Nat) (h0 : 1 ≤ n) (h : n ≤ 8000000) : wrap64 ((n : Int) - 1) = ((n - 1 : Nat) : Int) := by rw [wrap_of] <;> omega
theorem quoted_any (s : ByteArray) (hs : s.size ≤ 4000000) : ∀ (n k i : Nat), s.size ≤ i + n → i ≤ s.size + 1 → n < k → ∃ t, r03_quoted.l0 k s (i : Int) = some t ∧ (t = -1 ∨ ∃ q : Nat, t = (q : Int) ∧ i ≤ q ∧ q < s.size) := by
  intro n
  induction n using Nat.strongRecOn with
  | _ n ih =>
    intro k i h hi hk
    obtain ⟨k, rfl⟩ : ∃ j, k = j + 1 := ⟨k - 1, by omega⟩
    rw [r03_quoted.l0]
    by_cases hlt : i < s.size
    · have hw := wrap_one i (by omega)
      have hw2 := wrap_two i (by omega)
      rw [if_pos (by omega), if_pos (by omega), hw, hw2]
      by_cases h92 : bt s (i : Int) = 92
      · rw [if_pos h92]
        obtain ⟨t, h1, h2⟩ := ih (n - 1) (by omega) k (i + 2) (by omega) (by omega) (by omega)
        exact ⟨t, h1, h2.imp id (fun ⟨q, e, h3, h4⟩ => ⟨q, e, by omega, h4⟩)⟩
      · rw [if_neg h92]
        by_cases h34 : bt s (i : Int) = 34
        · rw [if_pos h34]
          exact ⟨_, rfl, Or.inr ⟨i, rfl, Nat.le_refl _, hlt⟩⟩
        · rw [if_neg h34]
          obtain ⟨t, h1, h2⟩ := ih (n - 1) (by omega) k (i + 1) (by omega) (by omega) (by omega)
          exact ⟨t, h1, h2.imp id (fun ⟨q, e, h3, h4⟩ => ⟨q, e, by omega, h4⟩)⟩
    · rw [if_neg (by omega)]
      exact ⟨_, rfl, Or.inl rfl⟩
theorem bt_mid (A B : List UInt8) (c : UInt8) (n : Nat) (hn : n = A.length) : bt (ba (A ++ c :: B)) (n : Int) = (c.toNat : Int) := by
  subst hn
  have hl : A.length < (A ++ c :: B).length := by simp
  rw [bt_ba _ _ hl]
  have : (A ++ c :: B)[A.length]'hl = c := by simp
  rw [this]
set_option maxHeartbeats 1000000 in
theorem quoted_go (v r : List UInt8) (hv : (v.flatMap escByte).length ≤ 20000) (hr : r.length ≤ 2000000) : ∀ (w d : List UInt8) (k : Nat), v = d ++ w → w.length < k →
    r03_quoted.l0 k (ba (34 :: (v.flatMap escByte ++ 34 :: r))) ((1 + (d.flatMap escByte).length : Nat) : Int) = some ((1 + (v.flatMap escByte).length : Nat) : Int) := by
  intro w
  induction w with
  | nil =>
    intro d k hd hk
    obtain ⟨k, rfl⟩ : ∃ j, k = j + 1 := ⟨k - 1, by simp at hk; omega⟩
    rw [List.append_nil] at hd
    subst hd
    generalize v.flatMap escByte = E at *
    have hsz : (ba (34 :: (E ++ 34 :: r))).size = E.length + 2 + r.length := by rw [size_ba]; simp; omega
    have hb : bt (ba (34 :: (E ++ 34 :: r))) ((1 + E.length : Nat) : Int) = 34 := by
      rw [show (34 :: (E ++ 34 :: r) : List UInt8) = (34 :: E) ++ 34 :: r by simp, bt_mid (34 :: E) r 34 _ (by simp; omega)]
      rfl
    rw [r03_quoted.l0, if_pos (by omega), if_pos (by omega), hb, if_neg (by decide), if_pos rfl]
  | cons c w ih =>
    intro d k hd hk
    obtain ⟨k, rfl⟩ : ∃ j, k = j + 1 := ⟨k - 1, by omega⟩
    simp only [List.length_cons] at hk
    have hd2 : v = (d ++ [c]) ++ w := by rw [hd]; simp
    have ih' := ih (d ++ [c]) k hd2 (by omega)
    have hsplit : (34 :: (v.flatMap escByte ++ 34 :: r) : List UInt8) = (34 :: d.flatMap escByte) ++ (escByte c ++ (w.flatMap escByte ++ 34 :: r)) := by
      rw [hd, List.flatMap_append, esc_cons]
      simp
    have hlen : (v.flatMap escByte).length = (d.flatMap escByte).length + ((escByte c).length + (w.flatMap escByte).length) := by
      rw [hd, List.flatMap_append, esc_cons, List.length_append, List.length_append]
    have hd3 : ((d ++ [c]).flatMap escByte).length = (d.flatMap escByte).length + (escByte c).length := by
      rw [List.flatMap_append, List.length_append]
      simp
    rw [hd3] at ih'
    have hsz : (ba (34 :: (v.flatMap escByte ++ 34 :: r))).size = (v.flatMap escByte).length + 2 + r.length := by rw [size_ba]; simp; omega
    clear ih
    generalize d.flatMap escByte = D at *
    generalize v.flatMap escByte = V at *
    generalize w.flatMap escByte = Wf at *
    have hcases : (∃ e, escByte c = [92, e]) ∨ (escByte c = [c] ∧ ¬ (c = 92 ∨ c = 34)) := by
      unfold escByte
      by_cases h1 : c = 92 ∨ c = 34
      · exact Or.inl ⟨c, by rw [if_pos h1]⟩
      · by_cases h2 : c = 10
        · exact Or.inl ⟨110, by rw [if_neg h1, if_pos h2]⟩
        · exact Or.inr ⟨by rw [if_neg h1, if_neg h2], h1⟩
    generalize escByte c = Ec at *
    have hone : 1 ≤ Ec.length := by rcases hcases with ⟨e, h⟩ | ⟨h, _⟩ <;> rw [h] <;> simp
    have f1 : ((1 + D.length : Nat) : Int) < ((ba (34 :: (V ++ 34 :: r))).size : Int) := by rw [hsz]; omega
    have hw := wrap_one (1 + D.length) (by omega)
    have hw2 := wrap_two (1 + D.length) (by omega)
    have f2 : (0 : Int) ≤ ((1 + D.length : Nat) : Int) := Int.natCast_nonneg _
    rw [r03_quoted.l0, if_pos f1, if_pos f2, hw, hw2]
    rcases hcases with ⟨e, h⟩ | ⟨h, h1⟩
    · subst h
      have hb : bt (ba (34 :: (V ++ 34 :: r))) ((1 + D.length : Nat) : Int) = 92 := by
        rw [hsplit, show ([92, e] ++ (Wf ++ 34 :: r) : List UInt8) = 92 :: (e :: (Wf ++ 34 :: r)) from rfl, bt_mid (34 :: D) _ 92 _ (by simp; omega)]
        rfl
      rw [if_pos hb]
      rw [show 1 + (D.length + [92, e].length) = 1 + D.length + 2 by simp; omega] at ih'
      exact ih'
    · subst h
      have hb : bt (ba (34 :: (V ++ 34 :: r))) ((1 + D.length : Nat) : Int) = (c.toNat : Int) := by
        rw [hsplit, show ([c] ++ (Wf ++ 34 :: r) : List UInt8) = c :: (Wf ++ 34 :: r) from rfl, bt_mid (34 :: D) _ c _ (by simp; omega)]
      have n92 : ¬ ((c.toNat : Int) = 92) := fun h => h1 (Or.inl (by rw [← byte_iff c 92]; exact h))
      have n34 : ¬ ((c.toNat : Int) = 34) := fun h => h1 (Or.inr (by rw [← byte_iff c 34]; exact h))
      rw [hb, if_neg n92, if_neg n34]
      rw [show 1 + (D.length + [c].length) = 1 + D.length + 1 by simp; omega] at ih'
      exact ih'
theorem quoted_f (v r : List UInt8) (hv : v.length ≤ 10000) (hr : r.length ≤ 2000000) (k : Nat) (hk : 10001 ≤ k) :
    r03_quoted.f k (ba (34 :: (v.flatMap escByte ++ 34 :: r))) = some ((1 + (v.flatMap escByte).length : Nat) : Int) := by
  have h1 := esc_len v
  exact quoted_go v r (by omega) hr v [] k rfl (by omega)
theorem l2_any (s : ByteArray) (hs : s.size ≤ 10000) (m : ByteArray) (l : List Lb) (K : Nat) (i : Nat) (hj : ∀ (k at' : Nat), K ≤ k → i ≤ at' → at' ≤ s.size → Good s (r03_Parse.j4 k s (at' : Int) m l (i : Int))) :
    ∀ (n k a : Nat), a + n = s.size → i ≤ a → n + 1 + K ≤ k → Good s (r03_Parse.l2 k s (a : Int) m l (i : Int))
  | 0, k, a, h, hi, hk => by
    obtain ⟨k, rfl⟩ : ∃ j, k = j + 1 := ⟨k - 1, by omega⟩
    rw [r03_Parse.l2, if_neg (by omega)]
    exact hj k a (by omega) hi (by omega)
  | n + 1, k, a, h, hi, hk => by
    obtain ⟨k, rfl⟩ : ∃ j, k = j + 1 := ⟨k - 1, by omega⟩
    rw [r03_Parse.l2, if_pos (by omega), if_pos (by omega), wrap_one a (by omega)]
    by_cases hb : bt s (a : Int) = 61
    · rw [if_pos hb]
      exact hj k a (by omega) hi (by omega)
    · rw [if_neg hb]
      exact l2_any s hs m l K i hj n k (a + 1) (by omega) (by omega) (by omega)
end Go.Proofs.YtcikjeiebpmmcaaGreat.PureMch
end
section
/- Pruned. -/
namespace Go.Proofs.YtcikjeiebpmmcaaGreat.PureMch
open Go.RowKit Go.Proofs.YtcikjeiebpmmcaaGreat Go.Proofs.YtcikjeiebpmmcaaGreat.PMch Go.Proofs.YtcikjeiebpmmcaaGreatW.PrintWords
set_option linter.unusedVariables false
set_option linter.unusedSimpArgs false
set_option maxHeartbeats 2000000 in
set_option maxRecDepth 20000 in
theorem l1_any (s : ByteArray) (hs : s.size ≤ 10000) (m : ByteArray) (hm : m.size ≤ 10000) : ∀ (n k a : Nat) (l : List Lb), a + n = s.size → l.length ≤ 17 → (∀ x ∈ l, x.f0.size ≤ 10000 ∧ x.f1.size ≤ 10000) → n * (n + 8) + 100000 ≤ k →
    Good s (r03_Parse.l1 k s (a : Int) m l) := by
  intro n
  induction n using Nat.strongRecOn with
  | _ n ih =>
    intro k a l h hl hsm hk
    obtain ⟨k, rfl⟩ : ∃ j, k = j + 1 := ⟨k - 1, by omega⟩
    have hN : ∀ (k : Nat) (y : List Lb), 50000 ≤ k → y.length ≤ 17 → (∀ x ∈ y, x.f0.size ≤ 10000 ∧ x.f1.size ≤ 10000) → Good s ((r03_Name.f k m y).bind fun bt => (if bt.2 = 0 then (if bt.1.toList = s.toList then (some (m, y, 0)) else (some ((⟨#[]⟩ : ByteArray), ([] : List Lb), 5))) else (some ((⟨#[]⟩ : ByteArray), ([] : List Lb), 5)))) := by
      intro k y hk hy hys
      rw [refName_f m hm y ⟨by omega, hys⟩ k (by omega), Option.bind_some]
      exact good_name s m y hm ⟨by omega, hys⟩ _ rfl
    rw [r03_Parse.l1]
    rcases Nat.eq_zero_or_pos n with h0 | h0
    · rw [if_neg (by omega)]
      exact hN k l (by omega) hl hsm
    · rw [if_pos (by omega), wrap_one a (by omega)]
      obtain ⟨p, rfl⟩ : ∃ p, n = p + 1 := ⟨n - 1, by omega⟩
      have hk0 := Aside0.mk hk
      clear hk
      obtain ⟨P, hmono, hk⟩ : ∃ P, (∀ q, q ≤ p → q * (q + 8) ≤ P) ∧ P + (2 * p + 9) + 100000 ≤ k + 1 :=
        ⟨p * (p + 8), fun q hq => Nat.mul_le_mul hq (by omega), mul_bound p k hk0.out⟩
      clear hk0
      refine l2_any s hs m l (P + 100004) (a + 1) ?_ p k (a + 1) (by omega) (Nat.le_refl _) (Nat.not_lt.1 (fun hno => by omega))
      intro k b hk hab hbs
      obtain ⟨k, rfl⟩ : ∃ j, k = j + 3 := ⟨k - 3, by omega⟩
      have bad : Good s (r03_Parse.j5 (k + 2) s (b : Int) m l ((a + 1 : Nat) : Int) true) := by
        rw [r03_Parse.j5, if_pos rfl]
        exact good_bad s
      rw [r03_Parse.j4, wrap_one b (by omega)]
      by_cases h1 : ((b + 1 : Nat) : Int) ≥ (s.size : Int)
      · rw [if_pos h1]; exact bad
      · rw [if_neg h1, if_pos (by omega), if_pos (by omega)]
        by_cases h34 : bt s ((b + 1 : Nat) : Int) = 34
        · rw [if_pos h34]
          clear h34
          by_cases h16 : (l.length : Int) > 16
          · rw [decide_eq_true h16]; exact bad
          · rw [decide_eq_false h16, r03_Parse.j5, if_neg (by simp), wrap_one b (by omega), wrap_plus2 b (by omega), if_pos (by omega), if_pos (by omega), Int.toNat_natCast]
            have hx := extract_size s (b + 1) s.size (Nat.le_refl _)
            obtain ⟨t, hq, ht⟩ := quoted_any (s.extract (b + 1) s.size) (by omega) (s.size - b) (k + 1) 1 (by omega) (by omega) (by omega)
            have hq' : r03_quoted.f (k + 1) (s.extract (b + 1) s.size) = some t := hq
            rw [hq', Option.bind_some]
            rcases ht with rfl | ⟨q, rfl, hq1, hq2⟩
            · rw [if_pos (by omega)]
              exact good_bad s
            · have hle : b + 1 + q ≤ s.size := by rw [hx] at hq2; omega
              clear hq hq'
              have hwq := Aside0.mk (show wrap64 (((b + 1 : Nat) : Int) + (q : Int)) = ((b + 1 + q : Nat) : Int) from wrap_add (b + 1) q (by omega))
              have hx2 := extract_size s (b + 2) (b + 1 + q) hle
              have hul := unescR_len (s.extract (b + 2) (b + 1 + q)).data.toList
              have eul : (s.extract (b + 2) (b + 1 + q)).data.toList.length = (s.extract (b + 2) (b + 1 + q)).size := data_len _
              rw [if_neg (by omega), if_pos (by omega), hwq.out, wrap_one (b + 1 + q) (by omega), wrap_less s.size (by omega) (by omega), if_pos (by omega), if_pos (by omega), Int.toNat_natCast, Int.toNat_natCast, refUnescape_f (k + 1) _ (by omega) (by omega), Option.bind_some]
              cases hu : (unescR [] (s.extract (b + 2) (b + 1 + q)).data.toList).2 with
              | false => rw [if_neg (by simp)]; exact good_bad s
              | true =>
                have hx3 := extract_size s (a + 1) b (by omega)
                have hsm2 : ∀ x ∈ l ++ [(⟨s.extract ((a + 1 : Nat) : Int).toNat (b : Int).toNat, (unescR [] (s.extract (b + 2) (b + 1 + q)).data.toList).1⟩ : Lb)], x.f0.size ≤ 10000 ∧ x.f1.size ≤ 10000 := by
                  intro x hx
                  rcases List.mem_append.1 hx with hx | hx
                  · exact hsm x hx
                  · rw [List.mem_singleton.1 hx]
                    exact ⟨by show (s.extract (a + 1) b).size ≤ _; omega, by show (unescR [] (s.extract (b + 2) (b + 1 + q)).data.toList).1.size ≤ _; omega⟩
                have hl2 : (l ++ [(⟨s.extract ((a + 1 : Nat) : Int).toNat (b : Int).toNat, (unescR [] (s.extract (b + 2) (b + 1 + q)).data.toList).1⟩ : Lb)]).length ≤ 17 := by rw [List.length_append, List.length_singleton]; omega
                rw [if_pos rfl, if_pos (by omega), if_pos (by omega), if_pos (by omega), if_pos (by omega), Option.bind_some]
                generalize l ++ [(⟨s.extract ((a + 1 : Nat) : Int).toNat (b : Int).toNat, (unescR [] (s.extract (b + 2) (b + 1 + q)).data.toList).1⟩ : Lb)] = y at hsm2 hl2 ⊢
                have key : ∀ f : Bool, Good s (r03_Parse.j6 (k + 1) s ((b + 1 + q + 1 : Nat) : Int) m y f) := by
                  intro f
                  rw [r03_Parse.j6]
                  cases f with
                  | true => rw [if_pos rfl]; exact hN k y (by omega) hl2 hsm2
                  | false =>
                    rw [if_neg (by simp)]
                    by_cases he : ((b + 1 + q + 1 : Nat) : Int) ≥ (s.size : Int)
                    · rw [if_pos he]; exact good_bad s
                    · rw [if_neg he, if_pos (by omega), if_pos (by omega)]
                      by_cases hc : bt s ((b + 1 + q + 1 : Nat) : Int) = 44
                      · rw [if_pos hc]
                        have hmo := hmono (s.size - (b + 1 + q + 1)) (by omega)
                        exact ih (s.size - (b + 1 + q + 1)) (by omega) k (b + 1 + q + 1) y (by omega) hl2 hsm2 (Nat.le_trans (Nat.add_le_add_right hmo 100000) (by clear hmo; omega))
                      · rw [if_neg hc]; exact good_bad s
                by_cases hlast : ((b + 1 + q + 1 : Nat) : Int) = ((s.size - 1 : Nat) : Int)
                · rw [if_pos hlast, if_pos (by omega), if_pos (by omega)]
                  exact key _
                · rw [if_neg hlast]
                  exact key _
        · rw [if_neg h34]; exact bad
theorem refParse_any (s : ByteArray) (hs : s.size ≤ 3000) (k : Nat) (hk : 9200000 ≤ k) : Good s (r03_Parse.f k s) := by
  have go : ∀ (n k a : Nat), a + n = s.size → n + 9150000 ≤ k → Good s (r03_Parse.l0 k s (a : Int)) := by
    have hj : ∀ (k a : Nat), 9140000 ≤ k → a ≤ s.size → Good s (r03_Parse.j1 k s (a : Int)) := by
      intro k a hk ha
      obtain ⟨k, rfl⟩ : ∃ j, k = j + 1 := ⟨k - 1, by omega⟩
      have hx := extract_size s 0 a ha
      have hmul : (s.size - a) * (s.size - a + 8) ≤ 3000 * 3008 := Nat.mul_le_mul (by omega) (by omega)
      rw [r03_Parse.j1, if_pos (by omega), if_pos (by omega), Int.toNat_natCast]
      exact l1_any s (by omega) (s.extract 0 a) (by omega) (s.size - a) k a [] (by omega) (by simp) (by simp) (by omega)
    intro n
    induction n with
    | zero =>
      intro k a h hk
      obtain ⟨k, rfl⟩ : ∃ j, k = j + 1 := ⟨k - 1, by omega⟩
      rw [r03_Parse.l0, if_neg (by omega)]
      exact hj k a (by omega) (by omega)
    | succ n ih =>
      intro k a h hk
      obtain ⟨k, rfl⟩ : ∃ j, k = j + 1 := ⟨k - 1, by omega⟩
      rw [r03_Parse.l0, if_pos (by omega), if_pos (by omega), wrap_one a (by omega)]
      by_cases hb : bt s (a : Int) = 123
      · rw [if_pos hb]
        exact hj k a (by omega) (by omega)
      · rw [if_neg hb]
        exact ih k (a + 1) (by omega) (by omega)
  exact go s.size k 0 (by omega) (by omega)
end Go.Proofs.YtcikjeiebpmmcaaGreat.PureMch
end
section
/- Pruned. -/
namespace Go.Proofs.YtcikjeiebpmmcaaGreat.PureMch
open Go.RowKit Go.Proofs.YtcikjeiebpmmcaaGreat Go.Proofs.YtcikjeiebpmmcaaGreat.PMch Go.Proofs.YtcikjeiebpmmcaaGreatW.PrintWords
set_option linter.unusedVariables false
set_option linter.unusedSimpArgs false
theorem l2_scan (A B nm : List UInt8) (hno : (61 : UInt8) ∉ nm) (m : ByteArray) (l : List Lb) (fr : Int) (hl : (A ++ nm ++ 61 :: B).length ≤ 4000000) : ∀ (w d : List UInt8) (k : Nat), nm = d ++ w →
    r03_Parse.l2 (k + w.length + 1) (ba (A ++ nm ++ 61 :: B)) ((A.length + d.length : Nat) : Int) m l fr = r03_Parse.j4 k (ba (A ++ nm ++ 61 :: B)) ((A.length + nm.length : Nat) : Int) m l fr
  | [], d, k, h => by
    rw [List.append_nil] at h
    subst h
    have hb := bt_mid (A ++ nm) B 61 (A.length + nm.length) (by simp)
    have hz : (ba (A ++ nm ++ 61 :: B)).size = (A ++ nm ++ 61 :: B).length := size_ba _
    have hz2 : (A ++ nm ++ 61 :: B).length = A.length + nm.length + 1 + B.length := by simp; omega
    rw [List.length_nil, Nat.add_zero, r03_Parse.l2, if_pos (by omega), if_pos (by omega), if_pos (by rw [hb]; rfl)]
  | c :: w, d, k, h => by
    have hc : c ≠ 61 := fun e => hno (by rw [h, e]; simp)
    have hsp : A ++ nm ++ 61 :: B = (A ++ d) ++ c :: (w ++ 61 :: B) := by rw [h]; simp
    have hb := bt_mid (A ++ d) (w ++ 61 :: B) c (A.length + d.length) (by simp)
    rw [← hsp] at hb
    have hz : (ba (A ++ nm ++ 61 :: B)).size = (A ++ nm ++ 61 :: B).length := size_ba _
    have hz2 : (A ++ nm ++ 61 :: B).length = A.length + d.length + 1 + (w.length + 1 + B.length) := by rw [hsp]; simp; omega
    have n61 : ¬ ((c.toNat : Int) = 61) := fun e => hc (by rw [← byte_iff c 61]; exact e)
    have ih := l2_scan A B nm hno m l fr hl w (d ++ [c]) k (by rw [h]; simp)
    rw [show A.length + (d ++ [c]).length = A.length + d.length + 1 by simp; omega] at ih
    rw [List.length_cons, show k + (w.length + 1) + 1 = (k + w.length + 1) + 1 by omega, r03_Parse.l2, if_pos (by omega), if_pos (by omega), hb, if_neg n61, wrap_one _ (by omega)]
    exact ih
set_option maxHeartbeats 2000000 in
set_option maxRecDepth 20000 in
theorem l1_name (m : ByteArray) (hm : m.size ≤ 10000) (x0 : ByteArray) (l : List Lb) : ∀ (acc : List Lb) (pre : List UInt8) (sep : UInt8) (k : Nat), l ≠ [] → Small (acc ++ l) → (acc ++ l).length ≤ 16 → (∀ x ∈ l, namedB x.f0 95 = true) → nameF m (acc ++ l) = (x0, 0) →
    x0 = ba (pre ++ sep :: ltext l) → pre.length + (ltext l).length ≤ 1900000 → l.length * 20000 + 70000 ≤ k → r03_Parse.l1 k x0 (pre.length : Int) m acc = some (m, acc ++ l, 0) := by
  induction l with
  | nil =>
    intro _ _ _ _ h
    exact absurd rfl h
  | cons x r ih =>
    intro acc pre sep k _ hs hl hn hF hx0 hlen hk
    have hx := hs.2 x (by simp)
    have hxn := word_no x.f0 (hn x (by simp))
    have hnm := named_size x.f0 95 (hn x (by simp))
    simp only [List.length_append, List.length_cons] at hl hk
    have hbx : (bl x.f1).length ≤ 10000 := by rw [bl_length]; exact hx.2
    have hex := esc_len (bl x.f1)
    have hn0 : (bl x.f0).length = x.f0.size := bl_length _
    obtain ⟨tail, he, hnx⟩ : ∃ tail, ltext (x :: r) = one x ++ tail ∧ ((r = [] ∧ tail = [125]) ∨ (∃ y r', r = y :: r' ∧ tail = 44 :: ltext r)) := by
      cases r with
      | nil => exact ⟨[125], rfl, Or.inl ⟨rfl, rfl⟩⟩
      | cons y r' => exact ⟨44 :: ltext (y :: r'), by rw [ltext]; simp, Or.inr ⟨y, r', rfl, rfl⟩⟩
    generalize hV : (bl x.f1).flatMap escByte = V at *
    have hone : one x = bl x.f0 ++ 61 :: 34 :: (V ++ [34]) := by simp [one, hV]
    have hL : pre ++ sep :: ltext (x :: r) = (pre ++ [sep]) ++ bl x.f0 ++ 61 :: (34 :: (V ++ 34 :: tail)) := by rw [he, hone]; simp
    have htl : (ltext (x :: r)).length = (bl x.f0).length + (V.length + 3) + tail.length := by
      rw [he, hone]
      simp
      omega
    rw [hL] at hx0
    have hzL : ((pre ++ [sep]) ++ bl x.f0 ++ 61 :: (34 :: (V ++ 34 :: tail))).length = pre.length + 1 + (bl x.f0).length + 3 + V.length + tail.length := by simp; omega
    have hz : x0.size = pre.length + 1 + (bl x.f0).length + 3 + V.length + tail.length := by rw [hx0, size_ba, hzL]
    obtain ⟨k, rfl⟩ : ∃ j, k = (j + (bl x.f0).length + 1) + 1 := ⟨k - (bl x.f0).length - 2, by omega⟩
    have hscan := l2_scan (pre ++ [sep]) (34 :: (V ++ 34 :: tail)) (bl x.f0) hxn m acc ((pre.length + 1 : Nat) : Int) (by omega) (bl x.f0) [] k rfl
    rw [← hx0, List.length_nil, Nat.add_zero, show (pre ++ [sep]).length = pre.length + 1 by simp] at hscan
    rw [r03_Parse.l1, if_pos (by omega), wrap_one _ (by omega), hscan]
    generalize hq : pre.length + 1 + (bl x.f0).length = q at *
    obtain ⟨k, rfl⟩ : ∃ j, k = j + 3 := ⟨k - 3, by omega⟩
    have hkr : r.length * 20000 + 70000 ≤ k := Nat.not_lt.1 (fun hno => by omega)
    have hb34 : Aside0 (bt x0 ((q + 1 : Nat) : Int) = 34) := ⟨by
      have := bt_mid ((pre ++ [sep]) ++ bl x.f0 ++ [61]) (V ++ 34 :: tail) 34 (q + 1) (by simp; omega)
      rw [show ((pre ++ [sep]) ++ bl x.f0 ++ [61]) ++ 34 :: (V ++ 34 :: tail) = (pre ++ [sep]) ++ bl x.f0 ++ 61 :: (34 :: (V ++ 34 :: tail)) by simp, ← hx0] at this
      rw [this]
      rfl⟩
    have hd : ∀ (n : Nat) (A B : List UInt8), n = A.length → ba (A ++ B) = x0 → x0.extract n x0.size = ba B := by
      intro n A B h1 h2
      rw [← h2, extract_ba, size_ba, List.take_of_length_le (Nat.le_refl _), h1, List.drop_left]
    have hx1 : x0.extract (q + 1) x0.size = ba (34 :: (V ++ 34 :: tail)) := hd _ ((pre ++ [sep]) ++ bl x.f0 ++ [61]) _ (by simp; omega) (by rw [hx0]; congr 1; simp)
    have hx2 : x0.extract (q + 2) (q + 2 + V.length) = ba V := by
      rw [hx0, extract_ba]
      congr 1
      rw [show (pre ++ [sep]) ++ bl x.f0 ++ 61 :: (34 :: (V ++ 34 :: tail)) = ((pre ++ [sep]) ++ bl x.f0 ++ [61, 34]) ++ (V ++ 34 :: tail) by simp, List.take_append, List.drop_append]
      have e1 : ((pre ++ [sep]) ++ bl x.f0 ++ [61, 34]).length = q + 2 := by simp; omega
      rw [List.take_of_length_le (by omega), e1, List.drop_of_length_le (by omega), Nat.sub_self, List.drop_zero, show q + 2 + V.length - (q + 2) = V.length by omega, List.take_left, List.nil_append]
    have hx3 : x0.extract (pre.length + 1) q = x.f0 := by
      rw [hx0, extract_ba, List.append_assoc (pre ++ [sep]), List.take_append, List.drop_append]
      have e1 : (pre ++ [sep]).length = pre.length + 1 := by simp
      rw [List.take_of_length_le (by omega), e1, List.drop_of_length_le (by omega), Nat.sub_self, List.drop_zero, show q - (pre.length + 1) = (bl x.f0).length by omega, List.take_left, List.nil_append, ba_bl]
    have hQ : r03_quoted.f (k + 1) (ba (34 :: (V ++ 34 :: tail))) = some ((1 + V.length : Nat) : Int) := by
      have := quoted_f (bl x.f1) tail hbx (by omega) (k + 1) (by omega)
      rwa [hV] at this
    have hU : r03_Unescape.f (k + 1) (ba V) = some (x.f1, true) := by
      rw [refUnescape_f (k + 1) (ba V) (by rw [size_ba]; omega) (by rw [size_ba]; omega), show (ba V).data.toList = V from bl_ba V, ← hV]
      simp only [unescR, unesc_esc, List.nil_append]
      rw [show (⟨(bl x.f1).toArray⟩ : ByteArray) = x.f1 from ba_bl _]
    have hwq : Aside0 (wrap64 (((q + 1 : Nat) : Int) + ((1 + V.length : Nat) : Int)) = ((q + 2 + V.length : Nat) : Int)) := ⟨by
      rw [wrap_add (q + 1) (1 + V.length) (by omega)]
      congr 1
      omega⟩
    have eta : (⟨x.f0, x.f1⟩ : Lb) = x := rfl
    rw [r03_Parse.j4, wrap_one q (by omega), if_neg (by omega), if_pos (by omega), if_pos (by omega), if_pos hb34.out, decide_eq_false (by omega), r03_Parse.j5, if_neg (by simp), wrap_one q (by omega), wrap_plus2 q (by omega), if_pos (by omega), if_pos (by omega), Int.toNat_natCast, hx1, hQ, Option.bind_some,
      if_neg (by omega), if_pos (by omega), hwq.out, if_pos (by omega), if_pos (by omega), Int.toNat_natCast, Int.toNat_natCast, hx2, hU, Option.bind_some, if_pos rfl, if_pos (by omega), if_pos (by omega), if_pos (by omega), if_pos (by omega), Int.toNat_natCast, Int.toNat_natCast, hx3, Option.bind_some, wrap_one (q + 2 + V.length) (by omega), wrap_less x0.size (by omega) (by omega)]
    simp only [eta]
    rcases hnx with ⟨rfl, rfl⟩ | ⟨y, r', rfl, rfl⟩
    · have h125 : Aside0 (bt x0 ((q + 2 + V.length + 1 : Nat) : Int) = 125) := ⟨by
        have := bt_mid ((pre ++ [sep]) ++ bl x.f0 ++ 61 :: (34 :: (V ++ [34]))) [] 125 (q + 2 + V.length + 1) (by simp; omega)
        rw [show ((pre ++ [sep]) ++ bl x.f0 ++ 61 :: (34 :: (V ++ [34]))) ++ [125] = (pre ++ [sep]) ++ bl x.f0 ++ 61 :: (34 :: (V ++ 34 :: [125])) by simp, ← hx0] at this
        rw [this]
        rfl⟩
      simp only [List.length_cons, List.length_nil] at hz
      rw [if_pos (by omega), if_pos (by omega), if_pos (by omega), h125.out, show ((125 : Int) == 125) = true from rfl, r03_Parse.j6, if_pos rfl, refName_f m hm (acc ++ [x]) hs k (by omega), Option.bind_some, hF, if_pos rfl, if_pos rfl]
    · have h44 : Aside0 (bt x0 ((q + 2 + V.length + 1 : Nat) : Int) = 44) := ⟨by
        have := bt_mid ((pre ++ [sep]) ++ bl x.f0 ++ 61 :: (34 :: (V ++ [34]))) (ltext (y :: r')) 44 (q + 2 + V.length + 1) (by simp; omega)
        rw [show ((pre ++ [sep]) ++ bl x.f0 ++ 61 :: (34 :: (V ++ [34]))) ++ 44 :: ltext (y :: r') = (pre ++ [sep]) ++ bl x.f0 ++ 61 :: (34 :: (V ++ 34 :: (44 :: ltext (y :: r')))) by simp, ← hx0] at this
        rw [this]
        rfl⟩
      have hne : 0 < (ltext (y :: r')).length := by rw [ltext_join]; simp
      simp only [List.length_cons] at hz htl hk hl
      rw [if_neg (by omega), r03_Parse.j6, if_neg (by simp), if_neg (by omega), if_pos (by omega), if_pos (by omega), if_pos h44.out]
      have hpl : ((pre ++ [sep]) ++ bl x.f0 ++ 61 :: (34 :: (V ++ [34]))).length = q + 2 + V.length + 1 := by simp; omega
      have := ih (acc ++ [x]) ((pre ++ [sep]) ++ bl x.f0 ++ 61 :: (34 :: (V ++ [34]))) 44 k (by simp) (by simpa using hs) (by simp; omega) (fun z hz => hn z (by simp at hz ⊢; exact Or.inr hz)) (by simpa using hF)
        (by rw [hx0]; congr 1; simp) (by rw [hpl]; omega) hkr
      rw [hpl, List.append_assoc] at this
      exact this
end Go.Proofs.YtcikjeiebpmmcaaGreat.PureMch
end
section
/- Pruned. -/
namespace Go.Proofs.YtcikjeiebpmmcaaGreat.PureMch
open Go.RowKit Go.Proofs.YtcikjeiebpmmcaaGreat Go.Proofs.YtcikjeiebpmmcaaGreat.PMch Go.Proofs.YtcikjeiebpmmcaaGreatW.PrintWords
set_option linter.unusedVariables false
set_option linter.unusedSimpArgs false
theorem refParse_name (a0 : ByteArray) (ha : a0.size ≤ 10000) (l : List Lb) (hl : Small l) (hr : Right a0 l) (k : Nat) (hk : 500000 ≤ k) :
    r03_Parse.f k (ba (bl a0 ++ render (isort nmL l))) = some (a0, isort nmL l, 0) := by
  have hp := isort_perm nmL l
  have hsS := small_perm hp hl
  have hsR := right_perm hp hr
  have hnF : nameF a0 (isort nmL l) = (ba (bl a0 ++ render (isort nmL l)), 0) := by rw [nameF_perm a0 hp, nameF_right hr]
  have hm := metric_no a0 hr.1
  have ham := named_size a0 58 hr.1
  generalize isort nmL l = s at *
  have hblen : (bl a0).length = a0.size := bl_length _
  have h16 := hsR.2.1
  -- the metric goes up to a brace, or to the end
  have go : ∀ (rest : List UInt8) (X : Option (ByteArray × List Lb × Int)), (rest = [] ∨ ∃ t, rest = 123 :: t) → rest.length ≤ 2000000 → (∀ k, 450000 ≤ k → r03_Parse.j1 k (ba (bl a0 ++ rest)) ((bl a0).length : Int) = X) →
      ∀ (w d : List UInt8) (k : Nat), bl a0 = d ++ w → 450000 + w.length + 1 ≤ k → r03_Parse.l0 k (ba (bl a0 ++ rest)) (d.length : Int) = X := by
    intro rest X hrest hlen hX w
    have hz : (ba (bl a0 ++ rest)).size = (bl a0).length + rest.length := by rw [size_ba, List.length_append]
    induction w with
    | nil =>
      intro d k hd hk
      obtain ⟨k, rfl⟩ : ∃ j, k = j + 1 := ⟨k - 1, by omega⟩
      rw [List.append_nil] at hd
      subst hd
      rw [r03_Parse.l0]
      rcases hrest with rfl | ⟨t, rfl⟩
      · rw [List.length_nil] at hz hk
        rw [if_neg (by omega)]
        exact hX k (by omega)
      · have hb := bt_mid (bl a0) t 123 (bl a0).length rfl
        simp only [List.length_cons] at hz
        rw [List.length_nil] at hk
        rw [if_pos (by omega), if_pos (by omega), if_pos (by rw [hb]; rfl)]
        exact hX k (by omega)
    | cons c w ih =>
      intro d k hd hk
      obtain ⟨k, rfl⟩ : ∃ j, k = j + 1 := ⟨k - 1, by omega⟩
      simp only [List.length_cons] at hk
      have hc : c ≠ 123 := fun e => hm (by rw [hd, e]; simp)
      have n123 : ¬ ((c.toNat : Int) = 123) := fun e => hc (by rw [← byte_iff c 123]; exact e)
      have hb := bt_mid d (w ++ rest) c d.length rfl
      rw [show d ++ c :: (w ++ rest) = bl a0 ++ rest by rw [hd]; simp] at hb
      have hdl : (bl a0).length = d.length + (w.length + 1) := by rw [hd]; simp
      rw [r03_Parse.l0, if_pos (by omega), if_pos (by omega), hb, if_neg n123, wrap_one _ (by omega)]
      have := ih (d ++ [c]) k (by rw [hd]; simp) (by omega)
      rwa [show ((d ++ [c]).length : Int) = ((d.length + 1 : Nat) : Int) by simp] at this
  have hx0 : ∀ rest : List UInt8, (ba (bl a0 ++ rest)).extract 0 ((bl a0).length : Int).toNat = a0 := by
    intro rest
    rw [extract_ba, Int.toNat_natCast, List.take_left, List.drop_zero, ba_bl]
  cases s with
  | nil =>
    have hj : ∀ k, 450000 ≤ k → r03_Parse.j1 k (ba (bl a0 ++ [])) ((bl a0).length : Int) = some (a0, [], 0) := by
      intro k hk
      obtain ⟨k, rfl⟩ : ∃ j, k = j + 2 := ⟨k - 2, by omega⟩
      have hz : (ba (bl a0 ++ [])).size = (bl a0).length := by rw [size_ba, List.append_nil]
      have hnF' : nameF a0 [] = (ba (bl a0 ++ []), 0) := hnF
      rw [r03_Parse.j1, if_pos (by omega), if_pos (by omega), hx0, r03_Parse.l1, if_neg (by omega), refName_f a0 ha [] hsS k (by omega), Option.bind_some, hnF', if_pos rfl, if_pos rfl]
    have := go [] _ (Or.inl rfl) (by simp) hj (bl a0) [] k rfl (by omega)
    exact this
  | cons x r =>
    have ht : bl a0 ++ render (x :: r) = bl a0 ++ 123 :: ltext (x :: r) := by
      rw [ltext_join]
      simp [render]
    rw [ht] at hnF ⊢
    have hg : ∀ z ∈ x :: r, namedB z.f0 95 = true := fun z hz => by
      have := List.all_eq_true.1 hsR.2.2.1 z hz
      unfold goodL at this
      rw [Bool.and_eq_true] at this
      exact this.1
    have htl := ltext_len (x :: r) hsS.2
    have htl2 : (ltext (x :: r)).length ≤ 500000 := by
      have : 30004 * (x :: r).length ≤ 30004 * 16 := Nat.mul_le_mul_left _ h16
      omega
    have hj : ∀ k, 450000 ≤ k → r03_Parse.j1 k (ba (bl a0 ++ 123 :: ltext (x :: r))) ((bl a0).length : Int) = some (a0, x :: r, 0) := by
      intro k hk
      obtain ⟨k, rfl⟩ : ∃ j, k = j + 1 := ⟨k - 1, by omega⟩
      have hz : (ba (bl a0 ++ 123 :: ltext (x :: r))).size = (bl a0).length + ((ltext (x :: r)).length + 1) := by rw [size_ba, List.length_append, List.length_cons]
      rw [r03_Parse.j1, if_pos (by omega), if_pos (by omega), hx0]
      have := l1_name a0 ha (ba (bl a0 ++ 123 :: ltext (x :: r))) (x :: r) [] (bl a0) 123 k (by simp) (by simpa using hsS) (by simpa using h16) hg (by simpa using hnF) rfl (by omega) (by omega)
      rw [List.nil_append] at this
      exact this
    exact go (123 :: ltext (x :: r)) _ (Or.inr ⟨_, rfl⟩) (by simp; omega) hj (bl a0) [] k rfl (by omega)
end Go.Proofs.YtcikjeiebpmmcaaGreat.PureMch
end
section
/- Pruned. -/
namespace Go.Proofs.YtcikjeiebpmmcaaGreat.PureMch
open Go.RowKit Go.Proofs.YtcikjeiebpmmcaaGreat Go.Proofs.YtcikjeiebpmmcaaGreat.PMch Go.Proofs.YtcikjeiebpmmcaaGreatW.PrintWords
set_option linter.unusedVariables false
set_option linter.unusedSimpArgs false
theorem parse_both (s : ByteArray) (hs : s.size ≤ 3000) : ∃ r, Answer s r ∧ ∀ k, 9200000 ≤ k → label_Parse.f k s = some r ∧ r03_Parse.f k s = some r := by
  have same : ∀ r, r.2.2 = 0 → Answer s r → ∀ k, 9200000 ≤ k → label_Parse.f k s = some (r.1, isort nmL r.2.1, 0) ∧ r03_Parse.f k s = some (r.1, isort nmL r.2.1, 0) := by
    intro r h0 h k hk
    rcases h with rfl | ⟨_, h1, h2, h3⟩
    · cases h0
    · by_cases hr : Right r.1 r.2.1
      · rw [nameF_right hr] at h3
        have e : ba (bl r.1 ++ render (isort nmL r.2.1)) = s := congrArg Prod.fst h3
        have p1 := parse_name r.1 h1 r.2.1 h2 hr k (by omega)
        have p2 := refParse_name r.1 h1 r.2.1 h2 hr k (by omega)
        rw [e] at p1 p2
        exact ⟨p1, p2⟩
      · rw [nameF_not hr] at h3
        cases h3
  obtain ⟨r1, e1, a1⟩ := parse_any s (by omega) 9200000 (by omega)
  obtain ⟨r2, e2, a2⟩ := refParse_any s hs 9200000 (by omega)
  have up1 : ∀ r n, label_Parse.f 9200000 s = some r → label_Parse.f (9200000 + n) s = some r := by
    intro r n h
    induction n with
    | zero => exact h
    | succ n ih => exact label_Parse.mono s _ _ ih
  have up2 : ∀ r n, r03_Parse.f 9200000 s = some r → r03_Parse.f (9200000 + n) s = some r := by
    intro r n h
    induction n with
    | zero => exact h
    | succ n ih => exact r03_Parse.mono s _ _ ih
  have key : r1 = r2 := by
    rcases a1 with h1 | h1
    · rcases a2 with h2 | h2
      · rw [h1, h2]
      · have := (same r2 h2.1 (Or.inr h2) 9200000 (Nat.le_refl _)).1
        rw [e1] at this
        rw [h1] at this
        have := congrArg (fun o : Option (ByteArray × List Lb × Int) => o.map fun r => r.2.2) this
        simp at this
    · have := (same r1 h1.1 (Or.inr h1) 9200000 (Nat.le_refl _))
      rw [e1, e2] at this
      exact Option.some.inj (this.1.trans this.2.symm)
  refine ⟨r1, a1, fun k hk => ?_⟩
  obtain ⟨n, rfl⟩ : ∃ n, k = 9200000 + n := ⟨k - 9200000, by omega⟩
  exact ⟨up1 r1 n e1, by rw [key]; exact up2 r2 n e2⟩
end Go.Proofs.YtcikjeiebpmmcaaGreat.PureMch
end
section
/- Pruned. -/
namespace Go.Proofs.YtcikjeiebpmmcaaGreat.PureMch
open Go.RowKit Go.Proofs.YtcikjeiebpmmcaaGreat Go.Proofs.YtcikjeiebpmmcaaGreat.PMch Go.Proofs.YtcikjeiebpmmcaaGreatW.PrintWords
set_option linter.unusedVariables false
set_option linter.unusedSimpArgs false
def Few (l : List Lb) : Prop := l.length ≤ 40 ∧ ∀ x ∈ l, x.f0.size ≤ 10000
theorem right_few {m : ByteArray} {l : List Lb} (h : Right m l) : Few l := ⟨(right_small h).2.1, fun x hx => ((right_small h).2.2 x hx).1⟩
theorem refName_g (a0 : ByteArray) (ha : a0.size ≤ 30000000) (l : List Lb) (hl : Few l) (k : Nat) (hk : 30000010 ≤ k) : r03_Name.f k a0 l = some (nameF a0 l) := by
  by_cases hr : Right a0 l
  · have hS := right_small hr
    exact refName_f a0 (by omega) l hS.2 k (by omega)
  · obtain ⟨k, rfl⟩ : ∃ j, k = j + 1 := ⟨k - 1, by omega⟩
    have bad : r03_Name.j0 (k + 1) a0 l true = some ((⟨#[]⟩ : ByteArray), 5) := by rw [r03_Name.j0, if_pos rfl]
    rw [nameF_not hr]
    unfold r03_Name.f
    rw [metric_f (k + 1) a0 (by omega) (by omega), Option.bind_some, may_f l hl (k + 1) (by omega)]
    by_cases h1 : namedB a0 58 = true
    · rw [if_pos h1, Option.bind_some, decide_eq_false (fun h2 => hr ⟨h1, h2⟩), Bool.not_false, bad]
    · rw [if_neg h1, bad]
theorem metric_iff (b : ByteArray) : b.toList = ([95, 95, 110, 97, 109, 101, 95, 95] : List UInt8) ↔ b = metricName := by
  constructor
  · intro h
    exact toList_inj (by rw [h, ByteArray.toList_eq]; rfl)
  · rintro rfl
    rw [ByteArray.toList_eq]
    rfl
theorem text_iff (a b : ByteArray) : a.toList = b.toList ↔ a = b := ⟨fun h => toList_inj h, fun h => by rw [h]⟩
theorem empty_iff (a : ByteArray) : a.toList = ([] : List UInt8) ↔ a = ⟨#[]⟩ := by
  constructor
  · intro h
    exact toList_inj (by rw [h, ByteArray.toList_eq])
  · rintro rfl
    rw [ByteArray.toList_eq]
theorem refParse_at {m n : ByteArray} {l : List Lb} (hn : nameF m l = (n, 0)) (k : Nat) (hk : 500000 ≤ k) : r03_Parse.f k n = some (m, isort nmL l, 0) := by
  have hr := name_right hn
  have hS := right_small hr
  rw [nameF_right hr] at hn
  have e : ba (bl m ++ render (isort nmL l)) = n := congrArg Prod.fst hn
  rw [← e]
  exact refParse_name m (by omega) l hS.2 hr k hk
theorem get_l0 (b : ByteArray) (l : List Lb) (hl : l.length ≤ 1000) : ∀ (n k i : Nat), i + n = l.length → n < k → ∃ t, r03_Get.l0 k b l (i : Int) = some ((match (l.drop i).find? (fun x => decide (nmL x = b)) with | some x => vlL x | none => (⟨#[]⟩ : ByteArray)), t)
  | 0, k, i, h, hk => by
    obtain ⟨k, rfl⟩ : ∃ j, k = j + 1 := ⟨k - 1, by omega⟩
    rw [r03_Get.l0, if_neg (by omega), List.drop_of_length_le (by omega)]
    exact ⟨_, rfl⟩
  | n + 1, k, i, h, hk => by
    obtain ⟨k, rfl⟩ : ∃ j, k = j + 1 := ⟨k - 1, by omega⟩
    have hi : i < l.length := by omega
    have hw : wrap64 ((i : Int) + 1) = ((i + 1 : Nat) : Int) := by rw [wrap_in _ (by omega) (by omega)]; omega
    rw [r03_Get.l0, if_pos (by omega), if_pos (by omega), rd_get l i hi, hw, List.drop_eq_getElem_cons hi, List.find?_cons]
    by_cases he : (l[i]).f0 = b
    · rw [if_pos ((text_iff _ _).2 he), show decide (nmL l[i] = b) = true from decide_eq_true he]
      exact ⟨_, rfl⟩
    · rw [if_neg (fun e => he ((text_iff _ _).1 e)), show decide (nmL l[i] = b) = false from decide_eq_false he]
      exact get_l0 b l hl n k (i + 1) (by omega) (by omega)
theorem sorted_len {m n : ByteArray} {l : List Lb} (hn : nameF m l = (n, 0)) : (isort nmL l).length ≤ 16 := by
  have := (isort_perm nmL l).length_eq
  have := (name_right hn).2.1
  omega
theorem refValue_f {m n : ByteArray} {l : List Lb} (hn : nameF m l = (n, 0)) (b : ByteArray) (k : Nat) (hk : 500000 ≤ k) : r29_Value.f k n b = some (valueF nmL vlL m l b) := by
  have hr := name_right hn
  have hlen := sorted_len hn
  rw [← value_perm m (isort_perm nmL l) hr.2.2.2 b]
  unfold r29_Value.f r03_Get.f valueF
  rw [refParse_at hn k hk, Option.bind_some]
  by_cases hb : b = metricName
  · rw [if_pos ((metric_iff b).2 hb), if_pos hb]
  · obtain ⟨t, ht⟩ := get_l0 b (isort nmL l) (by omega) (isort nmL l).length k 0 (by omega) (by omega)
    rw [show ((0 : Nat) : Int) = 0 from rfl, List.drop_zero] at ht
    rw [if_neg (fun e => hb ((metric_iff b).1 e)), if_neg hb, Option.bind_some, ht, Option.bind_some]
    cases (isort nmL l).find? (fun x => decide (nmL x = b)) <;> rfl
theorem set_l0 (into v m : ByteArray) (l : List Lb) (hl : l.length ≤ 1000) (R : Option (ByteArray × Int)) (k0 : Nat)
    (hR : ∀ k, k0 ≤ k → r03_Name.f k m ((l.filter fun x => !decide (nmL x = into)) ++ (if v = ⟨#[]⟩ then [] else [mkL into v])) = R) :
    ∀ (n k i : Nat) (acc : List Lb), i + n = l.length → n + k0 + 1 ≤ k → acc.length ≤ i → acc = (l.take i).filter (fun x => !decide (nmL x = into)) → r29_set.l0 k into v m l acc (i : Int) = R
  | 0, k, i, acc, h, hk, ha, hacc => by
    obtain ⟨k, rfl⟩ : ∃ j, k = j + 1 := ⟨k - 1, by omega⟩
    have hR1 := hR k (by omega)
    rw [List.take_of_length_le (by omega)] at hacc
    rw [← hacc] at hR1
    have eta : ∀ o : Option (ByteArray × Int), (o.bind fun t => some (t.1, t.2)) = o := fun o => by cases o <;> rfl
    rw [r29_set.l0, if_neg (by omega), eta, eta]
    by_cases hv : v = ⟨#[]⟩
    · rw [if_pos ((empty_iff v).2 hv)]
      rw [if_pos hv, List.append_nil] at hR1
      exact hR1
    · rw [if_neg (fun e => hv ((empty_iff v).1 e)), if_pos (by omega)]
      rw [if_neg hv] at hR1
      exact hR1
  | n + 1, k, i, acc, h, hk, ha, hacc => by
    obtain ⟨k, rfl⟩ : ∃ j, k = j + 1 := ⟨k - 1, by omega⟩
    have hi : i < l.length := by omega
    have hw : wrap64 ((i : Int) + 1) = ((i + 1 : Nat) : Int) := by rw [wrap_in _ (by omega) (by omega)]; omega
    have hstep : (l.take (i + 1)).filter (fun x => !decide (nmL x = into)) = acc ++ (if l[i].f0 = into then [] else [l[i]]) := by
      rw [List.take_succ_eq_append_getElem hi, List.filter_append, ← hacc]
      congr 1
      by_cases he : l[i].f0 = into
      · rw [if_pos he, List.filter_cons, if_neg (by simp only [show decide (nmL l[i] = into) = true from decide_eq_true he]; decide)]
        rfl
      · rw [if_neg he, List.filter_cons, if_pos (by simp only [show decide (nmL l[i] = into) = false from decide_eq_false he]; decide)]
        rfl
    rw [r29_set.l0, if_pos (by omega), if_pos (by omega), rd_get l i hi, hw]
    by_cases he : l[i].f0 = into
    · rw [if_pos ((text_iff _ _).2 he)]
      rw [if_pos he, List.append_nil] at hstep
      exact set_l0 into v m l hl R k0 hR n k (i + 1) acc (by omega) (by omega) (by omega) hstep.symm
    · rw [if_neg (fun e => he ((text_iff _ _).1 e)), if_pos (by omega)]
      rw [if_neg he] at hstep
      exact set_l0 into v m l hl R k0 hR n k (i + 1) _ (by omega) (by omega) (by rw [List.length_append, List.length_singleton]; omega) hstep.symm
theorem set_few {m : ByteArray} {l : List Lb} (h : Right m l) (into v : ByteArray) (hi : into.size ≤ 10000) : Few ((l.filter fun x => !decide (nmL x = into)) ++ (if v = ⟨#[]⟩ then [] else [mkL into v])) := by
  have hf := right_few h
  have h16 := h.2.1
  have hle := List.length_filter_le (fun x : Lb => !decide (nmL x = into)) l
  refine ⟨?_, fun x hx => ?_⟩
  · rw [List.length_append]
    split <;> simp <;> omega
  · rcases List.mem_append.1 hx with hx | hx
    · exact hf.2 x (List.mem_filter.1 hx).1
    · split at hx
      · simp at hx
      · rw [List.mem_singleton.1 hx]
        exact hi
theorem refSet_f {m n : ByteArray} {l : List Lb} (hn : nameF m l = (n, 0)) (into v : ByteArray) (hi : into.size ≤ 10000) (hv : v.size ≤ 30000000) (k : Nat) (hk : 31000000 ≤ k) :
    r29_set.f k n into v = some (nameF (setF nmL mkL m l into v).1 (setF nmL mkL m l into v).2) := by
  have hr := name_right hn
  have hp := isort_perm nmL l
  have hrs := right_perm hp hr
  have hlen := sorted_len hn
  have hm := (right_small hr).1
  obtain ⟨e1, e2⟩ := set_perm m hp into v
  rw [← e1, ← nameF_perm _ e2, e1, ← e1]
  have eta : ∀ o : Option (ByteArray × Int), (o.bind fun t => some (t.1, t.2)) = o := fun o => by cases o <;> rfl
  unfold r29_set.f setF
  rw [refParse_at hn k (by omega), Option.bind_some]
  by_cases hb : into = metricName
  · rw [if_pos ((metric_iff into).2 hb), if_pos hb, eta]
    exact refName_g v hv _ (right_few hrs) k (by omega)
  · rw [if_neg (fun e => hb ((metric_iff into).1 e)), if_neg hb]
    exact set_l0 into v m (isort nmL l) (by omega) _ 30000010 (fun k hk => refName_g m (by omega) _ (set_few hrs into v hi) k hk) (isort nmL l).length k 0 [] (by omega) (by omega) (by simp) (by simp)
theorem rule_l0 (m : ByteArray) (l : List Lb) (hl : l.length ≤ 1000) (kind : Int) (lab pat tm into : ByteArray) (hp : pat.size ≤ 100000) (hx : ∀ x ∈ l, x.f0.size ≤ 100000) (g : Lb → Bool) (K : Nat) (hg : ∀ k, K ≤ k → ∀ x ∈ l, ∃ r, r29_Match.f k pat x.f0 = some (r, g x))
    (R : ByteArray × Int) (hR : ∀ k, K ≤ k → r03_Name.f k m (l.filter fun x => !g x) = some R) :
    ∀ (n k i : Nat) (acc : List Lb), i + n = l.length → n + K + 1 ≤ k → acc.length ≤ i → acc = (l.take i).filter (fun x => !g x) → r29_Rule.l0 k m l acc (i : Int) kind lab pat tm into = some (R.1, (R.2 == 0), R.2)
  | 0, k, i, acc, h, hk, ha, hacc => by
    obtain ⟨k, rfl⟩ : ∃ j, k = j + 1 := ⟨k - 1, by omega⟩
    have hR1 := hR k (by omega)
    rw [List.take_of_length_le (by omega)] at hacc
    rw [← hacc] at hR1
    rw [r29_Rule.l0, if_neg (by omega), hR1, Option.bind_some]
  | n + 1, k, i, acc, h, hk, ha, hacc => by
    obtain ⟨k, rfl⟩ : ∃ j, k = j + 1 := ⟨k - 1, by omega⟩
    have hi : i < l.length := by omega
    have hw : wrap64 ((i : Int) + 1) = ((i + 1 : Nat) : Int) := by rw [wrap_in _ (by omega) (by omega)]; omega
    obtain ⟨r, hr⟩ := hg k (by omega) l[i] (List.getElem_mem hi)
    rw [r29_Rule.l0, if_pos (by omega), if_pos (by omega), rd_get l i hi, hw, hr, Option.bind_some]
    dsimp only
    cases hb : g l[i] with
    | true =>
      rw [if_pos rfl]
      refine rule_l0 m l hl kind lab pat tm into hp hx g K hg R hR n k (i + 1) acc (by omega) (by omega) (by omega) ?_
      rw [List.take_succ_eq_append_getElem hi, List.filter_append, ← hacc, List.filter_cons, if_neg (by rw [hb]; decide)]
      simp
    | false =>
      rw [if_neg (by decide), if_pos (by omega)]
      refine rule_l0 m l hl kind lab pat tm into hp hx g K hg R hR n k (i + 1) _ (by omega) (by omega) (by rw [List.length_append, List.length_singleton]; omega) ?_
      rw [List.take_succ_eq_append_getElem hi, List.filter_append, ← hacc, List.filter_cons, if_pos (by rw [hb]; decide)]
      rfl
end Go.Proofs.YtcikjeiebpmmcaaGreat.PureMch
end
section
/- Pruned. -/
namespace Go.Proofs.YtcikjeiebpmmcaaGreat.PureMch
open Go.RowKit Go.Proofs.YtcikjeiebpmmcaaGreat Go.Proofs.YtcikjeiebpmmcaaGreat.PMch Go.Proofs.YtcikjeiebpmmcaaGreatW.PrintWords
set_option linter.unusedVariables false
set_option linter.unusedSimpArgs false
theorem rounds_up {α : Type} {f : Nat → Option α} (h : ∀ k r, f k = some r → f (k + 1) = some r) {k k' : Nat} (hk : k ≤ k') {r : α} (e : f k = some r) : f k' = some r := by
  induction hk with
  | refl => exact e
  | step _ ih => exact h _ _ ih
theorem both_all (pat s : ByteArray) (hp : pat.size ≤ 100000) (hs : s.size ≤ 100000) : ∃ r, r.1.length ≤ pat.size ∧ ∀ k, 100003 ≤ k → relabel_Match.f k pat s = some r ∧ r29_Match.f k pat s = some r := by
  obtain ⟨r, h1, h2, h3⟩ := both_match pat s hp hs 100003 (by omega)
  exact ⟨r, h1, fun k hk => ⟨rounds_up (f := fun k => relabel_Match.f k pat s) (fun k r => relabel_Match.mono pat s k r) hk h2, rounds_up (f := fun k => r29_Match.f k pat s) (fun k r => r29_Match.mono pat s k r) hk h3⟩⟩
theorem refFill_f (took : List ByteArray) (tm : ByteArray) (ht : tm.size ≤ 100000) (h : ∀ x ∈ took, x.size ≤ 100000) (hl : took.length ≤ 100000) (k : Nat) (hk : tm.size < k) : r29_Fill.f k tm took = some (fillR took tm) :=
  refill took tm ht h hl k 0 [] (Nat.zero_le _) (by omega) (doing_start took tm)
theorem refRule_f (x : S43) (hm : mayR x = true) (hs : SmallR x) {m n : ByteArray} {l : List Lb} (hn : nameF m l = (n, 0)) :
    ∃ m' l' go, Big m' l' ∧ ∀ k, 40000000 ≤ k → relabel_Apply.step k x m l = some (m', l', go) ∧ (go = false → ∃ s, r29_Rule.f k x.f0 x.f1 x.f2 x.f3 x.f4 n = some (s, false, 0)) ∧
      (go = true → r29_Rule.f k x.f0 x.f1 x.f2 x.f3 x.f4 n = some ((nameF m' l').1, ((nameF m' l').2 == 0), (nameF m' l').2)) := by
  obtain ⟨s1, s2, s3, s4⟩ := hs
  have hkind := may_kind hm
  have hr := name_right hn
  have hsm := right_small hr
  have hval := value_size hr x.f1
  have hlen : l.length ≤ 1099511627776 := by have := hr.2.1; omega
  obtain ⟨⟨took, is⟩, hrl, hM⟩ := both_all x.f2 (valueF nmL vlL m l x.f1) (by omega) (by omega)
  have hT : ∀ y ∈ took, y.size ≤ 10000 := fun y hy => by
    obtain ⟨t2, b2, e, h⟩ := match_any x.f2 (valueF nmL vlL m l x.f1) (by omega) (by omega) 200000 (Nat.le_refl _)
    rw [(hM 200000 (by omega)).1] at e
    have e2 : took = t2 := congrArg Prod.fst (Option.some.inj e)
    rw [e2] at hy
    have := h y hy
    omega
  have hdef : ∀ k, 40000000 ≤ k → relabel_Apply.step k x m l = (if x.f0 = 3 ∧ is = true then (relabel_Fill.f x.f3 took).bind fun y => some (oneF nmL mkL (fun _ => false) x.f0 x.f4 y.1 is m l)
      else if x.f0 = 4 then (if ∀ y ∈ l, (relabel_Match.f k x.f2 (nmL y)).isSome = true then some (oneF nmL mkL (fun y => ((relabel_Match.f k x.f2 (nmL y)).map (·.2)).getD false) x.f0 x.f4 ⟨#[]⟩ is m l) else none)
      else some (oneF nmL mkL (fun _ => false) x.f0 x.f4 ⟨#[]⟩ is m l)) := fun k hk => by
    show stepF nmL vlL mkL (relabel_Match.f k) relabel_Fill.f x.f0 x.f1 x.f2 x.f3 x.f4 m l = _
    unfold stepF
    rw [if_pos ⟨hkind, hlen⟩, (hM k (by omega)).1, Option.bind_some]
  have hrule : ∀ k, 40000000 ≤ k → r29_Rule.f k x.f0 x.f1 x.f2 x.f3 x.f4 n = (if x.f0 = 1 then (some (n, is, 0)) else (if x.f0 = 2 then (some (n, !is, 0)) else (if x.f0 = 3 then (if is = true then ((r29_Fill.f k x.f3 took).bind fun bt395 => ((r29_set.f k n x.f4 bt395.1).bind fun bt397 => (some (bt397.1, (bt397.2 == 0), bt397.2)))) else (some (n, true, 0))) else ((r03_Parse.f k n).bind fun bt399 => (r29_Rule.l0 k bt399.1 bt399.2.1 ([] : List Lb) 0 x.f0 x.f1 x.f2 x.f3 x.f4))))) := fun k hk => by
    unfold r29_Rule.f
    rw [refValue_f hn x.f1 k (by omega), Option.bind_some, (hM k (by omega)).2, Option.bind_some]
  rcases hkind with h | h | h | h
  · refine ⟨m, l, is, right_big hr, fun k hk => ⟨?_, fun hg => ⟨n, ?_⟩, fun hg => ?_⟩⟩
    · rw [hdef k hk, if_neg (by omega), if_neg (by omega)]
      unfold oneF
      rw [if_pos h]
    · rw [hrule k hk, if_pos h, hg]
    · rw [hrule k hk, if_pos h, hn, hg]
      rfl
  · refine ⟨m, l, !is, right_big hr, fun k hk => ⟨?_, fun hg => ⟨n, ?_⟩, fun hg => ?_⟩⟩
    · rw [hdef k hk, if_neg (by omega), if_neg (by omega)]
      unfold oneF
      rw [if_neg (by omega), if_pos h]
    · rw [hrule k hk, if_neg (by omega), if_pos h, hg]
    · rw [hrule k hk, if_neg (by omega), if_pos h, hn, hg]
      rfl
  · cases is with
    | true =>
      have hF : relabel_Fill.f x.f3 took = some (fillR took x.f3) := by
        unfold relabel_Fill.f
        rw [if_pos ⟨by omega, fun y hy => by have := hT y hy; omega⟩]
      have hfs := fill_size took x.f3 hT (by omega)
      have hB := one_big (fun _ => false) x.f0 x.f4 (fillR took x.f3).1 true hr (by omega) hfs
      have hone : oneF nmL mkL (fun _ => false) x.f0 x.f4 (fillR took x.f3).1 true m l = ((setF nmL mkL m l x.f4 (fillR took x.f3).1).1, (setF nmL mkL m l x.f4 (fillR took x.f3).1).2, true) := by
        unfold oneF
        rw [if_neg (by omega), if_neg (by omega), if_pos h, if_pos rfl]
      rw [hone] at hB
      refine ⟨_, _, true, hB, fun k hk => ⟨?_, (fun hg => by cases hg), fun hg => ?_⟩⟩
      · rw [hdef k hk, if_pos ⟨h, rfl⟩, hF, Option.bind_some, hone]
      · rw [hrule k hk, if_neg (by omega), if_neg (by omega), if_pos h, if_pos rfl, refFill_f took x.f3 (by omega) (fun y hy => by have := hT y hy; omega) (by dsimp only at hrl; omega) k (by omega), Option.bind_some,
          refSet_f hn x.f4 (fillR took x.f3).1 (by omega) (by omega) k (by omega), Option.bind_some]
    | false =>
      refine ⟨m, l, true, right_big hr, fun k hk => ⟨?_, (fun hg => by cases hg), fun hg => ?_⟩⟩
      · rw [hdef k hk, if_neg (by simp), if_neg (by omega)]
        unfold oneF
        rw [if_neg (by omega), if_neg (by omega), if_pos h, if_neg (by decide)]
      · rw [hrule k hk, if_neg (by omega), if_neg (by omega), if_pos h, if_neg (by decide), hn]
        rfl
  · have hnm : ∀ y ∈ l, y.f0.size ≤ 100000 := fun y hy => by have := (hsm.2.2 y hy).1; omega
    have hany : ∀ y ∈ l, ∃ r, ∀ k, 100003 ≤ k → relabel_Match.f k x.f2 y.f0 = some r ∧ r29_Match.f k x.f2 y.f0 = some r := fun y hy => by
      obtain ⟨r, _, h⟩ := both_all x.f2 y.f0 (by omega) (hnm y hy)
      exact ⟨r, h⟩
    obtain ⟨g, hg⟩ : ∃ g : Lb → Bool, g = fun y => ((relabel_Match.f 100003 x.f2 (nmL y)).map (·.2)).getD false := ⟨_, rfl⟩
    have hgy : ∀ y ∈ l, ∃ r, ∀ k, 100003 ≤ k → relabel_Match.f k x.f2 y.f0 = some (r, g y) ∧ r29_Match.f k x.f2 y.f0 = some (r, g y) := fun y hy => by
      obtain ⟨⟨r, b⟩, h⟩ := hany y hy
      refine ⟨r, fun k hk => ?_⟩
      have e : g y = b := by
        rw [hg]
        show ((relabel_Match.f 100003 x.f2 y.f0).map (·.2)).getD false = b
        rw [(h 100003 (Nat.le_refl _)).1]
        rfl
      rw [e]
      exact h k hk
    have hfil : ∀ k, 40000000 ≤ k → (l.filter fun y => !((relabel_Match.f k x.f2 (nmL y)).map (·.2)).getD false) = l.filter fun y => !g y := fun k hk => List.filter_congr fun y hy => by
      obtain ⟨r, h⟩ := hgy y hy
      show (!((relabel_Match.f k x.f2 y.f0).map (·.2)).getD false) = _
      rw [(h k (by omega)).1]
      rfl
    have hle := List.length_filter_le (fun y => !g y) l
    have h16 := hr.2.1
    refine ⟨m, l.filter (fun y => !g y), true, ⟨by omega, by omega, fun y hy => by have := hnm y (List.mem_filter.1 hy).1; omega⟩, fun k hk => ⟨?_, (fun hg => by cases hg), fun _ => ?_⟩⟩
    · rw [hdef k hk, if_neg (by omega), if_pos h, if_pos (fun y hy => by
        obtain ⟨r, h⟩ := hgy y hy
        show (relabel_Match.f k x.f2 y.f0).isSome = true
        rw [(h k (by omega)).1]
        rfl)]
      unfold oneF
      rw [if_neg (by omega), if_neg (by omega), if_neg (by omega), hfil k hk]
    · have hp := isort_perm nmL l
      have hlen2 := sorted_len hn
      have hmem : ∀ y ∈ isort nmL l, y ∈ l := fun y hy => hp.mem_iff.1 hy
      have hfew : Few ((isort nmL l).filter fun y => !g y) := ⟨by have := List.length_filter_le (fun y => !g y) (isort nmL l); omega, fun y hy => (hsm.2.2 y (hmem y (List.mem_filter.1 hy).1)).1⟩
      rw [hrule k hk, if_neg (by omega), if_neg (by omega), if_neg (by omega), refParse_at hn k (by omega), Option.bind_some]
      dsimp only
      have := rule_l0 m (isort nmL l) (by omega) x.f0 x.f1 x.f2 x.f3 x.f4 (by omega) (fun y hy => hnm y (hmem y hy)) g 30000010 (fun k hk y hy => by
        obtain ⟨r, h⟩ := hgy y (hmem y hy)
        exact ⟨r, (h k (by omega)).2⟩) _ (fun k hk => refName_g m (by omega) _ hfew k hk) (isort nmL l).length k 0 [] (by omega) (by omega) (by simp) (by simp)
      rw [nameF_perm m (hp.filter _)] at this
      exact this
theorem refApply_l0 (rs : List S43) (hrs : ∀ x ∈ rs, mayR x = true ∧ SmallR x) (hl : rs.length ≤ 1000) (K : Nat) (hK : 40000000 ≤ K) : ∀ (q k i : Nat) (m n : ByteArray) (l : List Lb), i + q = rs.length → q + 40000001 ≤ k → nameF m l = (n, 0) →
    ∃ R, GoK K (rs.drop i) m l n = some R ∧ r29_Apply.l0 k rs n (i : Int) = some R ∧ (R.2.1 = true → ∃ m' l', nameF m' l' = (R.1, 0)) ∧ (R.2.1 = false → R.1 = ⟨#[]⟩)
  | 0, k, i, m, n, l, h, hk, hn => by
    obtain ⟨k, rfl⟩ : ∃ j, k = j + 1 := ⟨k - 1, by omega⟩
    refine ⟨(n, true, 0), ?_, ?_, fun _ => ⟨m, l, hn⟩, fun h => by cases h⟩
    · rw [List.drop_of_length_le (by omega)]
      rfl
    · rw [r29_Apply.l0, if_neg (by omega)]
  | q + 1, k, i, m, n, l, h, hk, hn => by
    obtain ⟨k, rfl⟩ : ∃ j, k = j + 1 := ⟨k - 1, by omega⟩
    have hi : i < rs.length := by omega
    have hw : wrap64 ((i : Int) + 1) = ((i + 1 : Nat) : Int) := by rw [wrap_in _ (by omega) (by omega)]; omega
    obtain ⟨hm, hs⟩ := hrs rs[i] (List.getElem_mem hi)
    obtain ⟨m', l', go, hB, hall⟩ := refRule_f rs[i] hm hs hn
    obtain ⟨b1, b2, b3⟩ := hB
    have hstep := (hall K hK).1
    have hun : GoK K (rs.drop i) m l n = if go = false then some (⟨#[]⟩, false, 0) else if (nameF m' l').2 = 0 then GoK K (rs.drop (i + 1)) m' l' (nameF m' l').1 else some (⟨#[]⟩, false, (nameF m' l').2) := by
      rw [List.drop_eq_getElem_cons hi]
      show goF _ _ _ _ _ _ = _
      rw [goF, hstep, Option.bind_some]
      dsimp only
      have hK2 : 100 ≤ K := by omega
      rw [labelName_g m' l' b1 b2 b3 K hK2, Option.bind_some]
    have hap : r29_Apply.l0 (k + 1) rs n (i : Int) = (r29_Rule.f k rs[i].f0 rs[i].f1 rs[i].f2 rs[i].f3 rs[i].f4 n).bind fun bt => if bt.2.1 = true then r29_Apply.l0 k rs bt.1 ((i + 1 : Nat) : Int) else some ((⟨#[]⟩ : ByteArray), false, bt.2.2) := by
      rw [r29_Apply.l0, if_pos (by omega), if_pos (by omega), rd_rule rs i hi, hw]
    rw [hun, hap]
    cases go with
    | false =>
      obtain ⟨s, hR⟩ := (hall k (by omega)).2.1 rfl
      refine ⟨(⟨#[]⟩, false, 0), if_pos rfl, ?_, (fun h => by cases h), fun _ => rfl⟩
      rw [hR, Option.bind_some, if_neg (show ¬ false = true by decide)]
    | true =>
      rw [(hall k (by omega)).2.2 rfl, Option.bind_some, if_neg (by decide)]
      dsimp only
      by_cases he : (nameF m' l').2 = 0
      · have hn2 : nameF m' l' = ((nameF m' l').1, 0) := by rw [← he]
        rw [if_pos he, if_pos (by rw [he]; rfl)]
        exact refApply_l0 rs hrs hl K hK q k (i + 1) m' _ l' (by omega) (by omega) hn2
      · rw [if_neg he, if_neg (by simpa using he)]
        exact ⟨_, rfl, rfl, (fun h => by cases h), fun _ => rfl⟩
end Go.Proofs.YtcikjeiebpmmcaaGreat.PureMch
end
section
/- Pruned. -/
namespace Go.Proofs.YtcikjeiebpmmcaaGreat.PureMch
open Go.RowKit Go.Proofs.YtcikjeiebpmmcaaGreat Go.Proofs.YtcikjeiebpmmcaaGreat.PMch Go.Proofs.YtcikjeiebpmmcaaGreatW.PrintWords
set_option linter.unusedVariables false
set_option linter.unusedSimpArgs false
theorem apply_both (l : List S43) (hS : ∀ x ∈ l, SmallR x) (hl : l.length ≤ 1000) (s : ByteArray) (hs : s.size ≤ 3000) (K : Nat) (hK : 45000000 ≤ K) :
    ∃ R, relabel_Apply.f K l s = some R ∧ r29_Apply.f K l s = some R ∧ (R.2.1 = true → ∃ m' l', nameF m' l' = (R.1, 0)) ∧ (R.2.1 = false → R.1 = ⟨#[]⟩) := by
  by_cases hm : l.all mayR = true
  · have hg := good_rules hm hS
    obtain ⟨r, ha, hp⟩ := parse_both s hs
    obtain ⟨p1, p2⟩ := hp K (by omega)
    have hun : r29_Apply.f K l s = if r.2.2 = 0 then r29_Apply.l0 K l s 0 else some ((⟨#[]⟩ : ByteArray), false, 5) := by
      unfold r29_Apply.f
      rw [ones_f K l hS (by omega) (by omega), Option.bind_some, if_pos hm, p2, Option.bind_some]
    rcases ha with rfl | ⟨h0, h1, h2, h3⟩
    · refine ⟨_, apply_bad_name K (by omega) l hg s p1, ?_, (fun h => by cases h), fun _ => rfl⟩
      rw [hun, if_neg (by decide)]
    · obtain ⟨m, ls, e⟩ := r
      dsimp only at h0 h1 h2 h3
      subst h0
      obtain ⟨R, e1, e2, e3⟩ := refApply_l0 l hg hl K (by omega) l.length K 0 m s ls (by omega) (by omega) h3
      rw [List.drop_zero] at e1
      refine ⟨R, ?_, ?_, e3⟩
      · rw [apply_name K (by omega) l hl hg s m ls p1]
        exact e1
      · rw [hun, if_pos rfl]
        exact e2
  · have hm' : l.all mayR = false := by simpa using hm
    refine ⟨(⟨#[]⟩, false, 2), ?_, ?_, (fun h => by cases h), fun _ => rfl⟩
    · unfold relabel_Apply.f
      rw [mays_f K (by omega) l hS, Option.bind_some, if_neg hm]
    · unfold r29_Apply.f
      rw [ones_f K l hS (by omega) (by omega), Option.bind_some, if_neg hm]
theorem value_both (s b : ByteArray) (hs : s.size ≤ 3000) (K : Nat) (hK : 45000000 ≤ K) : ∃ v, relabel_Value.f K s b = some v ∧ r29_Value.f K s b = some v := by
  obtain ⟨r, ha, hp⟩ := parse_both s hs
  obtain ⟨p1, p2⟩ := hp K (by omega)
  rcases ha with rfl | ⟨h0, h1, h2, h3⟩
  · refine ⟨⟨#[]⟩, ?_, ?_⟩
    · unfold relabel_Value.f valueF
      rw [p1, Option.bind_some, if_pos (by simp)]
      split <;> rfl
    · unfold r29_Value.f r03_Get.f
      rw [p2, Option.bind_some]
      obtain ⟨t, ht⟩ := get_l0 b [] (by simp) 0 K 0 (by simp) (by omega)
      rw [show ((0 : Nat) : Int) = 0 from rfl] at ht
      split
      · rfl
      · rw [Option.bind_some, ht]
        rfl
  · obtain ⟨m, ls, e⟩ := r
    dsimp only at h0 h1 h2 h3
    subst h0
    refine ⟨valueF nmL vlL m ls b, ?_, refValue_f h3 b K (by omega)⟩
    unfold relabel_Value.f
    rw [p1, Option.bind_some, if_pos (by have := h2.1; dsimp only; omega)]
    rfl
theorem parse_nil_K : r03_Parse.f 5 (⟨#[]⟩ : ByteArray) = some (⟨#[]⟩, [], 5) := by kernel_rfl
theorem parse_nil (k : Nat) (h : 5 ≤ k) : r03_Parse.f k (⟨#[]⟩ : ByteArray) = some (⟨#[]⟩, [], 5) :=
  rounds_up (f := fun k => r03_Parse.f k (⟨#[]⟩ : ByteArray)) (fun k r => r03_Parse.mono _ k r) h parse_nil_K
theorem applies_l0 (l : List S43) (hl : l.length ≤ 1000) (s : ByteArray) (go : Bool) (h1 : go = true → ∃ m' l', nameF m' l' = (s, 0)) (h2 : go = false → s = ⟨#[]⟩) : ∀ (n k i : Nat), i + n = l.length → n + 500001 ≤ k → l29_RelabelApplies.l0 k l l s go (i : Int) = some true
  | 0, k, i, h, hk => by
    obtain ⟨k, rfl⟩ : ∃ j, k = j + 1 := ⟨k - 1, by omega⟩
    rw [l29_RelabelApplies.l0, if_neg (by omega), known_ge k (by omega), Option.bind_some]
    cases go with
    | true =>
      obtain ⟨m', l', hn⟩ := h1 rfl
      rw [refParse_at hn k (by omega), Option.bind_some]
      rfl
    | false =>
      rw [h2 rfl, parse_nil k (by omega), Option.bind_some]
      rfl
  | n + 1, k, i, h, hk => by
    obtain ⟨k, rfl⟩ : ∃ j, k = j + 1 := ⟨k - 1, by omega⟩
    have hw : wrap64 ((i : Int) + 1) = ((i + 1 : Nat) : Int) := by rw [wrap_in _ (by omega) (by omega)]; omega
    rw [l29_RelabelApplies.l0, if_pos (by omega), if_pos (by omega), if_pos (by omega), if_neg (by simp), hw]
    exact applies_l0 l hl s go h1 h2 n k (i + 1) (by omega) (by omega)
theorem RelabelApplies (l : List S43) (a1 a2 : ByteArray) (h : ∀ x ∈ l, (Lit.int .i64 x.f0).wf = true ∧ x.f1.size ≤ 140737488351232 ∧ x.f2.size ≤ 140737488351232 ∧ x.f3.size ≤ 140737488351232 ∧ x.f4.size ≤ 140737488351232) : ∃ k, l29_RelabelApplies.f k l a1 a2 = some true := by
  obtain ⟨b, hb, hS⟩ := much_f 50000001 l (fun x hx => held_of (h x hx)) (by omega)
  refine ⟨50000001, ?_⟩
  have out : l29_RelabelApplies.j0 50000001 l a1 a2 true = some true := by
    rw [show 50000001 = 50000000 + 1 from rfl, l29_RelabelApplies.j0, if_pos rfl, known_ge 50000000 (by omega), Option.bind_some]
  unfold l29_RelabelApplies.f
  rw [hb, Option.bind_some]
  cases b with
  | true => rw [if_pos rfl]; exact out
  | false =>
    obtain ⟨hl, hS⟩ := hS rfl
    rw [if_neg (by decide)]
    by_cases h1 : (a1.size : Int) > 2000
    · rw [if_pos h1]; exact out
    · rw [if_neg h1]
      by_cases h2 : (a2.size : Int) > 300
      · rw [decide_eq_true h2]; exact out
      · rw [decide_eq_false h2, show 50000001 = 50000000 + 1 from rfl, l29_RelabelApplies.j0, if_neg (by decide), if_pos (by simp only [List.length_nil]; omega), Option.bind_some, List.nil_append]
        obtain ⟨R, e1, e2, e3, e4⟩ := apply_both l hS (by omega) a1 (by omega) 50000000 (by omega)
        obtain ⟨v, v1, v2⟩ := value_both a1 a2 (by omega) 50000000 (by omega)
        rw [e1, Option.bind_some, e2, Option.bind_some, if_pos rfl, if_neg (by simp), if_pos rfl, v1, Option.bind_some, v2, Option.bind_some, show (50000000 : Nat) = 49999999 + 1 from rfl, l29_RelabelApplies.j1, if_neg (by simp)]
        exact applies_l0 l (by omega) R.1 R.2.1 e3 e4 l.length 49999999 0 (by omega) (by omega)
end Go.Proofs.YtcikjeiebpmmcaaGreat.PureMch
end
