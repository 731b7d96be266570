/- A text of this claim, pruned by a program of the session (prune.py) to what the theorem rests on. -/
import Derived.Test.YtcikjeiebpmmcaaGreatQyPureMchLock
namespace Go.Proofs.YtcikjeiebpmmcaaGreat.PureMch
open Go.RowKit Go.Proofs.YtcikjeiebpmmcaaGreat Go.Proofs.YtcikjeiebpmmcaaGreat.PMch Go.Proofs.YtcikjeiebpmmcaaGreatW.PrintWords
set_option linter.unusedVariables false
set_option linter.unusedSimpArgs false
def okT (s : ByteArray) (x : PB) (k : Nat) : Bool := x.f0 || decide (bt s (k : Int) = x.f1)
def okR (s : ByteArray) (x : PT) (k : Nat) : Bool := x.f1 || decide (x.f2 = bt s (k : Int))
theorem ok_eq (s : ByteArray) (x : PB) (k : Nat) : okR s (oneT x) k = okT s x k := by
  unfold okR okT oneT
  dsimp only
  by_cases h : x.f0 = true
  · rw [h]; rfl
  · have h' : x.f0 = false := by simpa using h
    rw [h', if_neg (by decide), Bool.false_or, Bool.false_or]
    exact decide_eq_decide.2 eq_comm
def Tok.map {α β : Type} (f : α → β) : Tok α → Tok β
  | .star => .star
  | .one b => .one (f b)
theorem fits_map {α β : Type} (f : α → β) (oa : α → Nat → Bool) (ob : β → Nat → Bool) (h : ∀ x k, ob (f x) k = oa x k) (n : Nat) : ∀ (l : List (Tok α)) (k : Nat), fitsF ob n (l.map (Tok.map f)) k = fitsF oa n l k
  | [], k => rfl
  | .star :: r, k => by
    show (List.range (n + 1 - k)).any (fun j => fitsF ob n (r.map (Tok.map f)) (k + j)) = (List.range (n + 1 - k)).any (fun j => fitsF oa n r (k + j))
    congr 1
    funext j
    exact fits_map f oa ob h n r (k + j)
  | .one b :: r, k => by
    show (decide (k < n) && (ob (f b) k && fitsF ob n (r.map (Tok.map f)) (k + 1))) = _
    rw [h, fits_map f oa ob h n r (k + 1)]
    rfl
theorem took_map {α β : Type} (f : α → β) (oa : α → Nat → Bool) (ob : β → Nat → Bool) (h : ∀ x k, ob (f x) k = oa x k) (n : Nat) (t : ByteArray) : ∀ (l : List (Tok α)) (k : Nat), tookF ob n t (l.map (Tok.map f)) k = tookF oa n t l k
  | [], k => rfl
  | .star :: r, k => by
    have e : fitsF ob n (r.map (Tok.map f)) = fitsF oa n r := funext (fits_map f oa ob h n r)
    show t.extract k (leastF (fitsF ob n (r.map (Tok.map f))) (n + 1 - k) k) :: tookF ob n t (r.map (Tok.map f)) (leastF (fitsF ob n (r.map (Tok.map f))) (n + 1 - k) k) = _
    rw [e, took_map f oa ob h n t r]
    rfl
  | .one b :: r, k => by
    show tookF ob n t (r.map (Tok.map f)) (k + 1) = _
    rw [took_map f oa ob h n t r (k + 1)]
    rfl
def tokR (x : PT) : Tok PT := if x.f0 then .star else .one x
theorem toks_ones (q : List PB) : (q.map oneT).map tokR = (ones q).map (Tok.map oneT) := by
  simp [ones, tokR, oneT, Tok.map]
theorem toks_eq : ∀ (init : List (List PB)) (q p0 : List PB) (r : List (List PB)), init ++ [q] = p0 :: r → (flatQ init q).map tokR = (ones p0 ++ stars r).map (Tok.map oneT)
  | [], q, p0, r, h => by
    obtain ⟨rfl, rfl⟩ : q = p0 ∧ [] = r := by simpa using h
    have := toks_ones q
    simpa [flatQ, flatI, stars] using this
  | p :: init, q, p0, r, h => by
    obtain ⟨rfl, rfl⟩ : p = p0 ∧ init ++ [q] = r := by simpa using h
    obtain ⟨p1, r1, h1⟩ : ∃ p1 r1, init ++ [q] = p1 :: r1 := by
      cases init with
      | nil => exact ⟨q, [], rfl⟩
      | cons a b => exact ⟨a, b ++ [q], rfl⟩
    have ih := toks_eq init q p1 r1 h1
    have e : flatQ (p :: init) q = p.map oneT ++ starT :: flatQ init q := by simp [flatQ, flatI]
    rw [e, h1, stars, List.map_append, List.map_cons, toks_ones, ih]
    simp [Tok.map, tokR, starT]
def matchR (ls : List PT) (b : Bool) (s : ByteArray) : List ByteArray × Bool :=
  if b = false then ([], false) else if fitsF (okR s) s.size (ls.map tokR) 0 = true then (tookF (okR s) s.size s (ls.map tokR) 0, true) else ([], false)
theorem stands_l0 (s : ByteArray) (hs : s.size ≤ 100000) (p : List PB) (a : Nat) (ha : a + p.length ≤ s.size) : ∀ (m k j : Nat), j + m = p.length → m < k → relabel_stands.l0 k s (a : Int) p (p.length : Int) (j : Int) = some (standsB (okT s) s.size (p.drop j) (a + j)) := by
  intro m
  induction m with
  | zero =>
    intro k j h hk
    obtain ⟨k, rfl⟩ : ∃ q, k = q + 1 := ⟨k - 1, by omega⟩
    rw [relabel_stands.l0, if_neg (by omega), List.drop_of_length_le (by omega), standsB, decide_eq_true (by omega)]
  | succ m ih =>
    intro k j h hk
    obtain ⟨k, rfl⟩ : ∃ q, k = q + 1 := ⟨k - 1, by omega⟩
    have hj : j < p.length := by omega
    have hw1 : wrap64 ((j : Int) + 1) = ((j + 1 : Nat) : Int) := by rw [wrap_in' _ (by omega) (by omega)]; omega
    have hw2 : wrap64 ((a : Int) + (j : Int)) = ((a + j : Nat) : Int) := by rw [wrap_in' _ (by omega) (by omega)]; omega
    have hr : rd_T103 p (j : Int) = p[j] := by unfold rd_T103; simp [hj]
    have ih' := ih k (j + 1) (by omega) (by omega)
    have c1 : (j : Int) < (p.length : Int) := by omega
    have c2 : (0 : Int) ≤ (j : Int) := by omega
    have c3 : (0 : Int) ≤ ((a + j : Nat) : Int) := by omega
    have c4 : ((a + j : Nat) : Int) < (s.size : Int) := by omega
    have c5 : a + j < s.size := by omega
    rw [relabel_stands.l0, if_pos c1, if_pos c2, if_pos c1, hr, hw1, hw2, ih', List.drop_eq_getElem_cons hj, standsB, decide_eq_true c5, Bool.true_and, if_pos c3, if_pos c4, show a + (j + 1) = a + j + 1 from rfl]
    generalize standsB (okT s) s.size (p.drop (j + 1)) (a + j + 1) = R
    unfold okT
    by_cases h : p[j].f0 = true
    · rw [if_pos h, h]; rfl
    · have h' : p[j].f0 = false := by simpa using h
      rw [if_neg h, h', Bool.false_or]
      by_cases h2 : bt s ((a + j : Nat) : Int) = p[j].f1
      · rw [if_pos h2, decide_eq_true h2]; rfl
      · rw [if_neg h2, decide_eq_false h2]; rfl
theorem stands_f (s : ByteArray) (hs : s.size ≤ 100000) (p : List PB) (hp : p.length ≤ 100000) (a : Nat) (ha : a ≤ s.size) (k : Nat) (hk : 100002 < k) : relabel_stands.f k p s (a : Int) = some (standsB (okT s) s.size p a) := by
  obtain ⟨k, rfl⟩ : ∃ q, k = q + 1 := ⟨k - 1, by omega⟩
  have hw : wrap64 ((a : Int) + (p.length : Int)) = ((a + p.length : Nat) : Int) := by rw [wrap_in' _ (by omega) (by omega)]; omega
  unfold relabel_stands.f
  rw [if_neg (by omega), hw, relabel_stands.j0]
  by_cases h : a + p.length ≤ s.size
  · have := stands_l0 s hs p a h p.length k 0 (by omega) (by omega)
    rw [decide_eq_false (by omega), if_neg (by decide)]
    exact this
  · rw [decide_eq_true (by omega), if_pos rfl]
    congr 1
    symm
    rw [Bool.eq_false_iff]
    intro hst
    exact h (stands_le _ _ p a hst)
theorem prog_match (pat s : ByteArray) (hp : pat.size ≤ 100000) (hs : s.size ≤ 100000) (k : Nat) (hk : 100002 < k) : ∃ ls b, odometerref29_Parts.f k pat = some (ls, b) ∧ ls.length ≤ pat.size ∧ relabel_Match.f k pat s = some (matchR ls b s) := by
  obtain ⟨ps, b, ls, h1, h2, h3, h4⟩ := pattern_f pat hp k (by omega)
  refine ⟨ls, b, h2, h3.2.2, ?_⟩
  unfold relabel_Match.f
  rw [h1, Option.bind_some]
  dsimp only
  rw [if_pos ⟨by omega, by have := h3.1; omega, fun p hp' => by have := h3.2.1 p hp'; omega⟩]
  cases b with
  | false => rfl
  | true =>
    obtain ⟨init, q, rfl, rfl⟩ := h4 rfl
    obtain ⟨p0, r, hpr⟩ : ∃ p0 r, init ++ [q] = p0 :: r := by
      cases init with
      | nil => exact ⟨q, [], rfl⟩
      | cons a b => exact ⟨a, b ++ [q], rfl⟩
    have hq := h3.2.1
    rw [hpr] at hq ⊢
    rw [match_eq (okT s) s.size s _ rfl p0 r (fun p hp' a ha => stands_f s hs p (by have := hq p hp'; omega) a ha k hk)]
    unfold matchR
    rw [if_neg (show ¬ true = false by decide), toks_eq init q p0 r hpr, fits_map oneT (okT s) (okR s) (ok_eq s), took_map oneT (okT s) (okR s) (ok_eq s)]
end Go.Proofs.YtcikjeiebpmmcaaGreat.PureMch
