/- A text of this claim, pruned by a program of the session (prune.py) to what the theorem rests on. -/
import Derived.Test.YtcikjeiebpmmcaaGreatQyPMchx0
import Derived.Test.YtcikjeiebpmmcaaGreatQyPMchx1
import Derived.Test.YtcikjeiebpmmcaaGreatQyPMchx2
import Derived.Test.YtcikjeiebpmmcaaGreatQyPMchx3
import Derived.Test.YtcikjeiebpmmcaaGreatQyPMchx4
import Derived.Test.YtcikjeiebpmmcaaGreatQyPMchx5
import Derived.Test.YtcikjeiebpmmcaaGreatQyPMchx6
import Derived.Test.YtcikjeiebpmmcaaGreatQyPMchx7
import Derived.Test.YtcikjeiebpmmcaaGreatQyPMchx8
import Derived.Test.YtcikjeiebpmmcaaGreatQyPMchx9
import Derived.Test.YtcikjeiebpmmcaaGreatQyPMchx10
import Derived.Test.YtcikjeiebpmmcaaGreatQyPMchx11
import Derived.Test.YtcikjeiebpmmcaaGreatQyPMchx12
import Derived.Test.YtcikjeiebpmmcaaGreatQyPMchx13
import Derived.Test.YtcikjeiebpmmcaaGreatQyPMchx14
import Derived.Test.YtcikjeiebpmmcaaGreatQyPMchx15
import Derived.Test.YtcikjeiebpmmcaaGreatQyPMchx16
import Derived.Test.YtcikjeiebpmmcaaGreatQyPMchx17
import Derived.Test.YtcikjeiebpmmcaaGreatQyPMchx18
import Derived.Test.YtcikjeiebpmmcaaGreatQyPMchx19
import Derived.Test.YtcikjeiebpmmcaaGreatQyPMchx20
import Derived.Test.YtcikjeiebpmmcaaGreatQyGFits
namespace Go.Proofs.YtcikjeiebpmmcaaGreat.PureMch
open Go.RowKit Go.Proofs.YtcikjeiebpmmcaaGreat Go.Proofs.YtcikjeiebpmmcaaGreat.PMch Go.Proofs.YtcikjeiebpmmcaaGreatW.PrintWords
set_option linter.unusedVariables false
set_option linter.unusedSimpArgs false
abbrev PB := S103
abbrev PT := S70
def starT : PT := ⟨true, false, 0⟩
def oneT (x : PB) : PT := ⟨false, x.f0, if x.f0 then 0 else x.f1⟩
def flatI (init : List (List PB)) : List PT := init.flatMap fun p => p.map oneT ++ [starT]
def flatQ (init : List (List PB)) (q : List PB) : List PT := flatI init ++ q.map oneT
theorem flat_star (init : List (List PB)) (q : List PB) : flatQ (init ++ [q]) [] = flatQ init q ++ [starT] := by
  simp [flatQ, flatI]
theorem flat_one (init : List (List PB)) (q : List PB) (x : PB) : flatQ init (q ++ [x]) = flatQ init q ++ [oneT x] := by
  simp [flatQ]
theorem wrap_in' (n : Int) (h1 : -9223372036854775808 ≤ n) (h2 : n ≤ 9223372036854775807) : wrap64 n = n := by unfold wrap64; omega
theorem esc_fin : ∀ n : Fin 256, decide (Lib.indexByte [42, 63, 92] (n.val).toUInt8 < 0) = !(decide (n.val = 42) || (decide (n.val = 63) || decide (n.val = 92))) := by decide +kernel
theorem esc_int (c : Int) (h0 : 0 ≤ c) (h1 : c ≤ 255) : ∃ t, strings_IndexByte.f (⟨#[42, 63, 92]⟩ : ByteArray) c = some t ∧ (t < 0 ↔ ¬ (c = 42 ∨ c = 63 ∨ c = 92)) := by
  obtain ⟨n, rfl⟩ := Int.eq_ofNat_of_zero_le h0
  refine ⟨_, rfl, ?_⟩
  have h := esc_fin ⟨n, by omega⟩
  show Lib.indexByte [42, 63, 92] (n).toUInt8 < 0 ↔ _
  constructor
  · intro hl
    have := h.symm.trans (decide_eq_true hl)
    simp at this
    omega
  · intro hn
    refine of_decide_eq_true (h.trans ?_)
    simp
    omega
theorem rd_last (init : List (List PB)) (q : List PB) : rd_L3 (init ++ [q]) ((init.length : Nat) : Int) = q := by
  unfold rd_L3
  rw [Int.toNat_natCast]
  simp
theorem set_last (init : List (List PB)) (q q' : List PB) : (init ++ [q]).set init.length q' = init ++ [q'] := by
  simp
def Sizes (s : ByteArray) (ps : List (List PB)) (ls : List PT) : Prop := ps.length ≤ s.size + 1 ∧ (∀ p ∈ ps, p.length ≤ s.size) ∧ ls.length ≤ s.size
set_option maxRecDepth 100000 in
set_option maxHeartbeats 1000000 in
theorem lock (s : ByteArray) (hs : s.size ≤ 100000) : ∀ (k i : Nat) (init : List (List PB)) (q : List PB), i ≤ s.size → s.size < i + k → init.length ≤ i → (∀ p ∈ init, p.length ≤ i) → q.length ≤ i → (flatQ init q).length ≤ i →
    ∃ ps b ls, relabel_pieces.l0 k s (init ++ [q]) (i : Int) = some (ps, b) ∧ odometerref29_Parts.l0 k s (flatQ init q) (init.length : Int) (i : Int) = some (ls, b) ∧ Sizes s ps ls ∧ (b = true → ∃ init' q', ps = init' ++ [q'] ∧ ls = flatQ init' q') := by
  intro k
  induction k with
  | zero => intro i init q h1 h2; omega
  | succ k ih =>
    intro i init q h1 h2 h3 h4 h5 h6
    have hlen : (init ++ [q]).length = init.length + 1 := by simp
    rw [relabel_pieces.l0, odometerref29_Parts.l0]
    by_cases hlt : (i : Int) < (s.size : Int)
    · have hw1 : wrap64 ((i : Int) + 1) = ((i + 1 : Nat) : Int) := by rw [wrap_in' _ (by omega) (by omega)]; omega
      have hws : wrap64 ((init.length : Int) + 1) = ((init.length + 1 : Nat) : Int) := by rw [wrap_in' _ (by omega) (by omega)]; omega
      have hwl : wrap64 (((init ++ [q]).length : Int) - 1) = ((init.length : Nat) : Int) := by rw [hlen, wrap_in' _ (by omega) (by omega)]; omega
      have hw2 : i + 1 < s.size → wrap64 (((i + 1 : Nat) : Int) + 1) = ((i + 1 + 1 : Nat) : Int) := fun h => by rw [wrap_in' _ (by omega) (by omega)]; omega
      have stepS : ∃ ps b ls, relabel_pieces.l0 k s (init ++ [q] ++ [[]]) ((i + 1 : Nat) : Int) = some (ps, b) ∧ odometerref29_Parts.l0 k s (flatQ init q ++ [starT]) ((init.length + 1 : Nat) : Int) ((i + 1 : Nat) : Int) = some (ls, b) ∧ Sizes s ps ls ∧ (b = true → ∃ init' q', ps = init' ++ [q'] ∧ ls = flatQ init' q') := by
        have := ih (i + 1) (init ++ [q]) [] (by omega) (by omega) (by rw [hlen]; omega) (fun p hp => by
          rcases List.mem_append.1 hp with h | h
          · have := h4 p h; omega
          · obtain rfl := List.mem_singleton.1 h; omega) (by simp) (by rw [flat_star, List.length_append, List.length_singleton]; omega)
        rw [flat_star, hlen] at this
        exact this
      have step1 : ∀ x : PB, ∃ ps b ls, relabel_pieces.l0 k s (init ++ [q ++ [x]]) ((i + 1 : Nat) : Int) = some (ps, b) ∧ odometerref29_Parts.l0 k s (flatQ init q ++ [oneT x]) (init.length : Int) ((i + 1 : Nat) : Int) = some (ls, b) ∧ Sizes s ps ls ∧ (b = true → ∃ init' q', ps = init' ++ [q'] ∧ ls = flatQ init' q') := fun x => by
        have := ih (i + 1) init (q ++ [x]) (by omega) (by omega) (by omega) (fun p hp => by have := h4 p hp; omega) (by rw [List.length_append, List.length_singleton]; omega) (by rw [flat_one, List.length_append, List.length_singleton]; omega)
        rwa [flat_one] at this
      have step2 : i + 1 < s.size → ∀ x : PB, ∃ ps b ls, relabel_pieces.l0 k s (init ++ [q ++ [x]]) ((i + 1 + 1 : Nat) : Int) = some (ps, b) ∧ odometerref29_Parts.l0 k s (flatQ init q ++ [oneT x]) (init.length : Int) ((i + 1 + 1 : Nat) : Int) = some (ls, b) ∧ Sizes s ps ls ∧ (b = true → ∃ init' q', ps = init' ++ [q'] ∧ ls = flatQ init' q') := fun hi x => by
        have := ih (i + 1 + 1) init (q ++ [x]) (by omega) (by omega) (by omega) (fun p hp => by have := h4 p hp; omega) (by rw [List.length_append, List.length_singleton]; omega) (by rw [flat_one, List.length_append, List.length_singleton]; omega)
        rwa [flat_one] at this
      have hE : ¬ ((i + 1 : Nat) : Int) = (s.size : Int) → i + 1 < s.size ∧ ¬ ((i + 1 : Nat) : Int) ≥ (s.size : Int) ∧ (0 : Int) ≤ ((i + 1 : Nat) : Int) ∧ ((i + 1 : Nat) : Int) < (s.size : Int) := fun h => by omega
      have hE2 : ((i + 1 : Nat) : Int) = (s.size : Int) → ((i + 1 : Nat) : Int) ≥ (s.size : Int) := fun h => by omega
      have h0 : (0 : Int) ≤ (i : Int) := by omega
      have hc1 : (init ++ [q]).length < 5864062014805 := by rw [hlen]; omega
      have hc2 : (flatQ init q).length < 46912496118442 := by omega
      have g0 : (0 : Int) ≤ ((init.length : Nat) : Int) := by omega
      have g1 : ((init.length : Nat) : Int) < ((init ++ [q]).length : Int) := by rw [hlen]; omega
      have hm : (rd_L3 (init ++ [q]) ((init.length : Nat) : Int)).length < 70368744177664 := by rw [rd_last]; omega
      have hb1 := bt_range s ((i + 1 : Nat) : Int)
      obtain ⟨t, ht, hti⟩ := esc_int (bt s ((i + 1 : Nat) : Int)) hb1.1 hb1.2
      clear ih hs h1 h2 h3 h4 h5 h6 hb1 hlen
      rw [if_pos hlt, if_pos h0, if_pos hlt, if_pos h0, hw1]
      by_cases h42 : bt s i = 42
      · rw [if_pos h42, if_pos hc1, if_pos h42, if_pos hc2, hws, show (⟨true, false, 0⟩ : PT) = starT from rfl]
        exact stepS
      · rw [if_neg h42, if_neg h42, hwl]
        by_cases h63 : bt s i = 63
        · rw [if_pos h63, if_pos g0, if_pos g1, if_pos hm, if_pos h63, if_pos hc2, Int.toNat_natCast, rd_last, set_last]
          exact step1 ⟨true, bt s i⟩
        · rw [if_neg h63, if_neg h63]
          by_cases h92 : bt s i = 92
          · rw [if_pos h92, if_pos h92]
            by_cases hend : ((i + 1 : Nat) : Int) = (s.size : Int)
            · rw [if_pos hend, if_pos (hE2 hend)]
              exact ⟨_, _, _, rfl, rfl, ⟨by simp, by simp, by simp⟩, nofun⟩
            · obtain ⟨e3, e0, e1, e2⟩ := hE hend
              rw [if_neg hend, if_pos e1, if_pos e2, if_neg e0, if_pos e1, if_pos e2, ht, Option.bind_some, hw2 e3]
              by_cases he : bt s ((i + 1 : Nat) : Int) = 42 ∨ bt s ((i + 1 : Nat) : Int) = 63 ∨ bt s ((i + 1 : Nat) : Int) = 92
              · rw [if_neg (fun h => hti.1 h he), if_pos g0, if_pos g1, if_pos hm, Int.toNat_natCast, rd_last, set_last]
                have h := step2 e3 ⟨false, bt s ((i + 1 : Nat) : Int)⟩
                clear step1 step2 stepS
                rcases he with he | he | he
                · rw [if_pos he, if_pos hc2]; exact h
                · rw [if_neg (by rw [he]; decide), if_pos he, if_pos hc2]; exact h
                · rw [if_neg (by rw [he]; decide), if_neg (by rw [he]; decide), if_pos he, if_pos hc2]; exact h
              · rw [if_pos (hti.2 he), if_neg (fun h => he (.inl h)), if_neg (fun h => he (.inr (.inl h))), if_neg (fun h => he (.inr (.inr h)))]
                exact ⟨_, _, _, rfl, rfl, ⟨by simp, by simp, by simp⟩, nofun⟩
          · rw [if_neg h92, if_pos g0, if_pos g1, if_pos hm, if_neg h92, if_pos hc2, Int.toNat_natCast, rd_last, set_last]
            exact step1 ⟨false, bt s i⟩
    · have hsz : Sizes s (init ++ [q]) (flatQ init q) := ⟨by rw [hlen]; omega, fun p hp => by
        rcases List.mem_append.1 hp with h | h
        · have := h4 p h; omega
        · obtain rfl := List.mem_singleton.1 h; omega, by omega⟩
      rw [if_neg hlt, if_neg hlt]
      by_cases h10 : init.length ≤ 9
      · rw [if_pos (by rw [hlen]; omega), if_pos (by omega)]
        exact ⟨_, _, _, rfl, rfl, hsz, fun _ => ⟨init, q, rfl, rfl⟩⟩
      · rw [if_neg (by rw [hlen]; omega), if_neg (by omega)]
        exact ⟨_, _, _, rfl, rfl, hsz, nofun⟩
theorem pattern_f (s : ByteArray) (hs : s.size ≤ 100000) (k : Nat) (hk : s.size < k) : ∃ ps b ls, relabel_pieces.f k s = some (ps, b) ∧ odometerref29_Parts.f k s = some (ls, b) ∧ Sizes s ps ls ∧ (b = true → ∃ init q, ps = init ++ [q] ∧ ls = flatQ init q) := by
  have := lock s hs k 0 [] [] (by omega) (by omega) (by simp) (by simp) (by simp) (by simp [flatQ, flatI])
  exact this
end Go.Proofs.YtcikjeiebpmmcaaGreat.PureMch
