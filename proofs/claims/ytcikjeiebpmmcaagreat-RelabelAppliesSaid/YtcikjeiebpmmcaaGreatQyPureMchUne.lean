/- A text of this claim, pruned by a program of the session (prune.py) to what the theorem rests on. -/
import Derived.Test.YtcikjeiebpmmcaaGreatQyPMchx0
import Derived.Test.YtcikjeiebpmmcaaGreatQyPMchx1
import Derived.Test.YtcikjeiebpmmcaaGreatQyPMchx2
import Derived.Test.YtcikjeiebpmmcaaGreatQyPMchx3
import Derived.Test.YtcikjeiebpmmcaaGreatQyPMchx4
import Derived.Test.YtcikjeiebpmmcaaGreatQyPMchx5
import Derived.Test.YtcikjeiebpmmcaaGreatQyPMchx6
import Derived.Test.YtcikjeiebpmmcaaGreatQyPMchx7
import Derived.Test.YtcikjeiebpmmcaaGreatQyPMchx8
import Derived.Test.YtcikjeiebpmmcaaGreatQyPMchx9
import Derived.Test.YtcikjeiebpmmcaaGreatQyPMchx10
import Derived.Test.YtcikjeiebpmmcaaGreatQyPMchx11
import Derived.Test.YtcikjeiebpmmcaaGreatQyPMchx12
import Derived.Test.YtcikjeiebpmmcaaGreatQyPMchx13
import Derived.Test.YtcikjeiebpmmcaaGreatQyPMchx14
import Derived.Test.YtcikjeiebpmmcaaGreatQyPMchx15
import Derived.Test.YtcikjeiebpmmcaaGreatQyPMchx16
import Derived.Test.YtcikjeiebpmmcaaGreatQyPMchx17
import Derived.Test.YtcikjeiebpmmcaaGreatQyPMchx18
import Derived.Test.YtcikjeiebpmmcaaGreatQyPMchx19
import Derived.Test.YtcikjeiebpmmcaaGreatQyPMchx20
import Derived.Test.YtcikjeiebpmmcaaGreatQyPureMchByt
namespace Go.Proofs.YtcikjeiebpmmcaaGreat.PureMch
open Go.RowKit Go.Proofs.YtcikjeiebpmmcaaGreat Go.Proofs.YtcikjeiebpmmcaaGreat.PMch Go.Proofs.YtcikjeiebpmmcaaGreatW.PrintWords
set_option linter.unusedVariables false
set_option linter.unusedSimpArgs false
def unesc : List UInt8 → Option (List UInt8)
  | [] => some []
  | c :: r => if c = 34 ∨ c = 10 then none else if c = 92 then
      match r with
      | [] => none
      | d :: r' => if d = 110 then (unesc r').map (10 :: ·) else if d = 92 ∨ d = 34 then (unesc r').map (d :: ·) else none
    else (unesc r).map (c :: ·)
def unescR (bs l : List UInt8) : ByteArray × Bool := match unesc l with
  | some m => (⟨(bs ++ m).toArray⟩, true)
  | none => (⟨#[]⟩, false)
theorem unescR_nil (bs : List UInt8) : unescR bs [] = (⟨bs.toArray⟩, true) := by simp [unescR, unesc]
theorem unescR_bad (bs r : List UInt8) (c : UInt8) (h : c = 34 ∨ c = 10) : unescR bs (c :: r) = (⟨#[]⟩, false) := by
  rw [unescR, unesc.eq_def]
  simp only [if_pos h]
theorem unescR_one (bs r : List UInt8) (c : UInt8) (h : ¬ (c = 34 ∨ c = 10)) (h2 : ¬ c = 92) : unescR bs (c :: r) = unescR (bs ++ [c]) r := by
  rw [unescR, unesc.eq_def]
  simp only [if_neg h, if_neg h2]
  unfold unescR
  cases unesc r <;> simp
theorem unescR_end (bs : List UInt8) : unescR bs [92] = (⟨#[]⟩, false) := by simp [unescR, unesc]
theorem unescR_n (bs r : List UInt8) : unescR bs (92 :: 110 :: r) = unescR (bs ++ [10]) r := by
  unfold unescR
  rw [unesc]
  simp
  cases unesc r <;> simp
theorem unescR_two (bs r : List UInt8) (d : UInt8) (h1 : ¬ d = 110) (h2 : d = 92 ∨ d = 34) : unescR bs (92 :: d :: r) = unescR (bs ++ [d]) r := by
  unfold unescR
  rw [unesc]
  simp [h1, h2]
  cases unesc r <;> simp
theorem unescR_not (bs r : List UInt8) (d : UInt8) (h1 : ¬ d = 110) (h2 : ¬ (d = 92 ∨ d = 34)) : unescR bs (92 :: d :: r) = (⟨#[]⟩, false) := by
  unfold unescR
  rw [unesc]
  simp [h1]
  rw [if_neg h2]
theorem unescape_go (s : ByteArray) (hs : s.size ≤ 1099511627776) : ∀ (n k i : Nat) (bs : List UInt8), i + n = s.size → 2 * n < k → bs.length ≤ i →
    label_Unescape.l0 k s (nb bs) (i : Int) = some (unescR bs (s.data.toList.drop i)) := by
  intro n
  induction n using Nat.strongRecOn with
  | _ n ih =>
    intro k i bs h hk hb
    obtain ⟨k, rfl⟩ : ∃ j, k = j + 1 := ⟨k - 1, by omega⟩
    have hsz : s.data.toList.length = s.size := by simp
    rcases Nat.eq_zero_or_pos n with h0 | h0
    · obtain rfl : i = s.size := by omega
      rw [label_Unescape.l0, if_neg (by omega), List.drop_of_length_le (by omega), unescR_nil, str_nb]
    · obtain ⟨k, rfl⟩ : ∃ j, k = j + 1 := ⟨k - 1, by omega⟩
      have hi : i < s.size := by omega
      have hw : wrap64 ((i : Int) + 1) = ((i + 1 : Nat) : Int) := by rw [wrap_of] <;> omega
      have hw2 : wrap64 (((i + 1 : Nat) : Int) + 1) = ((i + 2 : Nat) : Int) := by rw [wrap_of] <;> omega
      have hlen : (nb bs).length < 140737488355328 := by rw [nb_length]; omega
      rw [label_Unescape.l0, if_pos (by omega), if_pos (by omega), List.drop_eq_getElem_cons (by omega), bt_get s i hi]
      generalize s.data.toList[i]'(by omega) = c
      have e34 : ((c.toNat : Int) = 34) = (c = 34) := byte_iff c 34
      have e10 : ((c.toNat : Int) = 10) = (c = 10) := byte_iff c 10
      have e92 : ((c.toNat : Int) = 92) = (c = 92) := byte_iff c 92
      have q10 : ((c.toNat : Int) == 10) = decide (c = 10) := by rw [← decide_eq_decide.2 (iff_of_eq e10)]; rfl
      simp only [e34, q10]
      by_cases h34 : c = 34
      · rw [if_pos h34, label_Unescape.j1, if_pos rfl, unescR_bad _ _ _ (Or.inl h34)]
      · rw [if_neg h34, label_Unescape.j1]
        by_cases h10 : c = 10
        · rw [if_pos (by simpa using h10), unescR_bad _ _ _ (Or.inr h10)]
        · rw [if_neg (by simpa using h10), hw, hw2]
          have hno : ¬ (c = 34 ∨ c = 10) := by simp [h34, h10]
          simp only [e92]
          by_cases h92 : c = 92
          · rw [if_pos h92]
            subst h92
            by_cases hend : i + 1 = s.size
            · rw [if_pos (by omega), List.drop_of_length_le (by omega), unescR_end]
            · rw [if_neg (by omega), if_pos (by omega), if_pos (by omega), List.drop_eq_getElem_cons (by omega), bt_get s (i + 1) (by omega)]
              generalize s.data.toList[i + 1]'(by omega) = d
              have f110 : ((d.toNat : Int) = 110) = (d = 110) := byte_iff d 110
              have f92 : ((d.toNat : Int) = 92) = (d = 92) := byte_iff d 92
              have f34 : ((d.toNat : Int) = 34) = (d = 34) := byte_iff d 34
              simp only [f110, f92, f34]
              by_cases d110 : d = 110
              · subst d110
                rw [if_pos rfl, if_pos hlen, unescR_n]
                have := ih (n - 2) (by omega) k (i + 2) (bs ++ [10]) (by omega) (by omega) (by simp; omega)
                rw [← nb_snoc] at this
                exact this
              · rw [if_neg d110]
                by_cases d92 : d = 92
                · rw [if_pos d92, if_pos hlen, unescR_two _ _ _ d110 (Or.inl d92), nb_snoc]
                  exact ih (n - 2) (by omega) k (i + 2) _ (by omega) (by omega) (by simp; omega)
                · rw [if_neg d92]
                  by_cases d34 : d = 34
                  · rw [if_pos d34, if_pos hlen, unescR_two _ _ _ d110 (Or.inr d34), nb_snoc]
                    exact ih (n - 2) (by omega) k (i + 2) _ (by omega) (by omega) (by simp; omega)
                  · rw [if_neg d34, unescR_not _ _ _ d110 (by simp [d92, d34])]
          · rw [if_neg h92, if_pos hlen, unescR_one _ _ _ hno h92, nb_snoc]
            exact ih (n - 1) (by omega) k (i + 1) _ (by omega) (by omega) (by simp; omega)
theorem unesc_esc : ∀ l : List UInt8, unesc (l.flatMap escByte) = some l
  | [] => rfl
  | c :: r => by
    rw [List.flatMap_cons]
    have ih := unesc_esc r
    by_cases h92 : c = 92
    · subst h92
      show unesc (92 :: 92 :: _) = _
      rw [unesc]
      simp [ih]
    · by_cases h34 : c = 34
      · subst h34
        show unesc (92 :: 34 :: _) = _
        rw [unesc]
        simp [ih]
      · by_cases h10 : c = 10
        · subst h10
          show unesc (92 :: 110 :: _) = _
          rw [unesc]
          simp [ih]
        · have e : escByte c = [c] := by simp [escByte, h92, h34, h10]
          rw [e]
          show unesc (c :: _) = _
          rw [unesc.eq_def]
          simp [h92, h34, h10, ih]
theorem esc_unesc (l : List UInt8) : ∀ m, unesc l = some m → m.flatMap escByte = l := by
  fun_induction unesc l with
  | case1 => intro m h; cases h; rfl
  | case2 => intro m h; cases h
  | case3 => intro m h; cases h
  | case4 =>
    rename_i ih
    intro m h
    obtain ⟨m', h', rfl⟩ := Option.map_eq_some_iff.1 h
    rw [List.flatMap_cons, ih m' h']
    simp_all [escByte]
  | case5 =>
    rename_i ih
    intro m h
    obtain ⟨m', h', rfl⟩ := Option.map_eq_some_iff.1 h
    rw [List.flatMap_cons, ih m' h']
    simp_all [escByte]
  | case6 => intro m h; cases h
  | case7 =>
    rename_i ih
    intro m h
    obtain ⟨m', h', rfl⟩ := Option.map_eq_some_iff.1 h
    rw [List.flatMap_cons, ih m' h']
    simp_all [escByte]
theorem unescape_f (k : Nat) (s : ByteArray) (hs : s.size ≤ 1099511627776) (hk : 2 * s.size + 1 ≤ k) : label_Unescape.f k s = some (unescR [] s.data.toList) :=
  unescape_go s hs s.size k 0 [] (by omega) (by omega) (by simp)
theorem unesc_le : ∀ (l m : List UInt8), unesc l = some m → m.length ≤ l.length := by
  intro l m h
  have h1 := esc_unesc l m h
  have h2 : m.length ≤ (m.flatMap escByte).length := by
    clear h h1
    induction m with
    | nil => simp
    | cons c r ih =>
      rw [List.flatMap_cons, List.length_append, List.length_cons]
      have : 1 ≤ (escByte c).length := by unfold escByte; split <;> (try split) <;> simp
      omega
  rw [h1] at h2
  exact h2
end Go.Proofs.YtcikjeiebpmmcaaGreat.PureMch
