/- A text of this claim, pruned by a program of the session (prune.py) to what the theorem rests on. -/
import Derived.Test.YtcikjeiebpmmcaaGreatQyPureMchRp1
namespace Go.Proofs.YtcikjeiebpmmcaaGreat.PureMch
open Go.RowKit Go.Proofs.YtcikjeiebpmmcaaGreat Go.Proofs.YtcikjeiebpmmcaaGreat.PMch Go.Proofs.YtcikjeiebpmmcaaGreatW.PrintWords
set_option linter.unusedVariables false
set_option linter.unusedSimpArgs false
set_option maxHeartbeats 2000000 in
set_option maxRecDepth 20000 in
theorem l1_any (s : ByteArray) (hs : s.size ≤ 10000) (m : ByteArray) (hm : m.size ≤ 10000) : ∀ (n k a : Nat) (l : List Lb), a + n = s.size → l.length ≤ 17 → (∀ x ∈ l, x.f0.size ≤ 10000 ∧ x.f1.size ≤ 10000) → n * (n + 8) + 100000 ≤ k →
    Good s (odometerref03_Parse.l1 k s (a : Int) m l) := by
  intro n
  induction n using Nat.strongRecOn with
  | _ n ih =>
    intro k a l h hl hsm hk
    obtain ⟨k, rfl⟩ : ∃ j, k = j + 1 := ⟨k - 1, by omega⟩
    have hN : ∀ (k : Nat) (y : List Lb), 50000 ≤ k → y.length ≤ 17 → (∀ x ∈ y, x.f0.size ≤ 10000 ∧ x.f1.size ≤ 10000) → Good s ((odometerref03_Name.f k m y).bind fun bt => (if bt.2 = 0 then (if bt.1.toList = s.toList then (some (m, y, 0)) else (some ((⟨#[]⟩ : ByteArray), ([] : List Lb), 5))) else (some ((⟨#[]⟩ : ByteArray), ([] : List Lb), 5)))) := by
      intro k y hk hy hys
      rw [refName_f m hm y ⟨by omega, hys⟩ k (by omega), Option.bind_some]
      exact good_name s m y hm ⟨by omega, hys⟩ _ rfl
    rw [odometerref03_Parse.l1]
    rcases Nat.eq_zero_or_pos n with h0 | h0
    · rw [if_neg (by omega)]
      exact hN k l (by omega) hl hsm
    · rw [if_pos (by omega), wrap_one a (by omega)]
      obtain ⟨p, rfl⟩ : ∃ p, n = p + 1 := ⟨n - 1, by omega⟩
      have hk0 := Aside0.mk hk
      clear hk
      obtain ⟨P, hmono, hk⟩ : ∃ P, (∀ q, q ≤ p → q * (q + 8) ≤ P) ∧ P + (2 * p + 9) + 100000 ≤ k + 1 :=
        ⟨p * (p + 8), fun q hq => Nat.mul_le_mul hq (by omega), mul_bound p k hk0.out⟩
      clear hk0
      refine l2_any s hs m l (P + 100004) (a + 1) ?_ p k (a + 1) (by omega) (Nat.le_refl _) (Nat.not_lt.1 (fun hno => by omega))
      intro k b hk hab hbs
      obtain ⟨k, rfl⟩ : ∃ j, k = j + 3 := ⟨k - 3, by omega⟩
      have bad : Good s (odometerref03_Parse.j5 (k + 2) s (b : Int) m l ((a + 1 : Nat) : Int) true) := by
        rw [odometerref03_Parse.j5, if_pos rfl]
        exact good_bad s
      rw [odometerref03_Parse.j4, wrap_one b (by omega)]
      by_cases h1 : ((b + 1 : Nat) : Int) ≥ (s.size : Int)
      · rw [if_pos h1]; exact bad
      · rw [if_neg h1, if_pos (by omega), if_pos (by omega)]
        by_cases h34 : bt s ((b + 1 : Nat) : Int) = 34
        · rw [if_pos h34]
          clear h34
          by_cases h16 : (l.length : Int) > 16
          · rw [decide_eq_true h16]; exact bad
          · rw [decide_eq_false h16, odometerref03_Parse.j5, if_neg (by simp), wrap_one b (by omega), wrap_plus2 b (by omega), if_pos (by omega), if_pos (by omega), Int.toNat_natCast]
            have hx := extract_size s (b + 1) s.size (Nat.le_refl _)
            obtain ⟨t, hq, ht⟩ := quoted_any (s.extract (b + 1) s.size) (by omega) (s.size - b) (k + 1) 1 (by omega) (by omega) (by omega)
            have hq' : odometerref03_quoted.f (k + 1) (s.extract (b + 1) s.size) = some t := hq
            rw [hq', Option.bind_some]
            rcases ht with rfl | ⟨q, rfl, hq1, hq2⟩
            · rw [if_pos (by omega)]
              exact good_bad s
            · have hle : b + 1 + q ≤ s.size := by rw [hx] at hq2; omega
              clear hq hq'
              have hwq := Aside0.mk (show wrap64 (((b + 1 : Nat) : Int) + (q : Int)) = ((b + 1 + q : Nat) : Int) from wrap_add (b + 1) q (by omega))
              have hx2 := extract_size s (b + 2) (b + 1 + q) hle
              have hul := unescR_len (s.extract (b + 2) (b + 1 + q)).data.toList
              have eul : (s.extract (b + 2) (b + 1 + q)).data.toList.length = (s.extract (b + 2) (b + 1 + q)).size := data_len _
              rw [if_neg (by omega), if_pos (by omega), hwq.out, wrap_one (b + 1 + q) (by omega), wrap_less s.size (by omega) (by omega), if_pos (by omega), if_pos (by omega), Int.toNat_natCast, Int.toNat_natCast, refUnescape_f (k + 1) _ (by omega) (by omega), Option.bind_some]
              cases hu : (unescR [] (s.extract (b + 2) (b + 1 + q)).data.toList).2 with
              | false => rw [if_neg (by simp)]; exact good_bad s
              | true =>
                have hx3 := extract_size s (a + 1) b (by omega)
                have hsm2 : ∀ x ∈ l ++ [(⟨s.extract ((a + 1 : Nat) : Int).toNat (b : Int).toNat, (unescR [] (s.extract (b + 2) (b + 1 + q)).data.toList).1⟩ : Lb)], x.f0.size ≤ 10000 ∧ x.f1.size ≤ 10000 := by
                  intro x hx
                  rcases List.mem_append.1 hx with hx | hx
                  · exact hsm x hx
                  · rw [List.mem_singleton.1 hx]
                    exact ⟨by show (s.extract (a + 1) b).size ≤ _; omega, by show (unescR [] (s.extract (b + 2) (b + 1 + q)).data.toList).1.size ≤ _; omega⟩
                have hl2 : (l ++ [(⟨s.extract ((a + 1 : Nat) : Int).toNat (b : Int).toNat, (unescR [] (s.extract (b + 2) (b + 1 + q)).data.toList).1⟩ : Lb)]).length ≤ 17 := by rw [List.length_append, List.length_singleton]; omega
                rw [if_pos rfl, if_pos (by omega), if_pos (by omega), if_pos (by omega), if_pos (by omega), Option.bind_some]
                generalize l ++ [(⟨s.extract ((a + 1 : Nat) : Int).toNat (b : Int).toNat, (unescR [] (s.extract (b + 2) (b + 1 + q)).data.toList).1⟩ : Lb)] = y at hsm2 hl2 ⊢
                have key : ∀ f : Bool, Good s (odometerref03_Parse.j6 (k + 1) s ((b + 1 + q + 1 : Nat) : Int) m y f) := by
                  intro f
                  rw [odometerref03_Parse.j6]
                  cases f with
                  | true => rw [if_pos rfl]; exact hN k y (by omega) hl2 hsm2
                  | false =>
                    rw [if_neg (by simp)]
                    by_cases he : ((b + 1 + q + 1 : Nat) : Int) ≥ (s.size : Int)
                    · rw [if_pos he]; exact good_bad s
                    · rw [if_neg he, if_pos (by omega), if_pos (by omega)]
                      by_cases hc : bt s ((b + 1 + q + 1 : Nat) : Int) = 44
                      · rw [if_pos hc]
                        have hmo := hmono (s.size - (b + 1 + q + 1)) (by omega)
                        exact ih (s.size - (b + 1 + q + 1)) (by omega) k (b + 1 + q + 1) y (by omega) hl2 hsm2 (Nat.le_trans (Nat.add_le_add_right hmo 100000) (by clear hmo; omega))
                      · rw [if_neg hc]; exact good_bad s
                by_cases hlast : ((b + 1 + q + 1 : Nat) : Int) = ((s.size - 1 : Nat) : Int)
                · rw [if_pos hlast, if_pos (by omega), if_pos (by omega)]
                  exact key _
                · rw [if_neg hlast]
                  exact key _
        · rw [if_neg h34]; exact bad
theorem refParse_any (s : ByteArray) (hs : s.size ≤ 3000) (k : Nat) (hk : 9200000 ≤ k) : Good s (odometerref03_Parse.f k s) := by
  have go : ∀ (n k a : Nat), a + n = s.size → n + 9150000 ≤ k → Good s (odometerref03_Parse.l0 k s (a : Int)) := by
    have hj : ∀ (k a : Nat), 9140000 ≤ k → a ≤ s.size → Good s (odometerref03_Parse.j1 k s (a : Int)) := by
      intro k a hk ha
      obtain ⟨k, rfl⟩ : ∃ j, k = j + 1 := ⟨k - 1, by omega⟩
      have hx := extract_size s 0 a ha
      have hmul : (s.size - a) * (s.size - a + 8) ≤ 3000 * 3008 := Nat.mul_le_mul (by omega) (by omega)
      rw [odometerref03_Parse.j1, if_pos (by omega), if_pos (by omega), Int.toNat_natCast]
      exact l1_any s (by omega) (s.extract 0 a) (by omega) (s.size - a) k a [] (by omega) (by simp) (by simp) (by omega)
    intro n
    induction n with
    | zero =>
      intro k a h hk
      obtain ⟨k, rfl⟩ : ∃ j, k = j + 1 := ⟨k - 1, by omega⟩
      rw [odometerref03_Parse.l0, if_neg (by omega)]
      exact hj k a (by omega) (by omega)
    | succ n ih =>
      intro k a h hk
      obtain ⟨k, rfl⟩ : ∃ j, k = j + 1 := ⟨k - 1, by omega⟩
      rw [odometerref03_Parse.l0, if_pos (by omega), if_pos (by omega), wrap_one a (by omega)]
      by_cases hb : bt s (a : Int) = 123
      · rw [if_pos hb]
        exact hj k a (by omega) (by omega)
      · rw [if_neg hb]
        exact ih k (a + 1) (by omega) (by omega)
  exact go s.size k 0 (by omega) (by omega)
end Go.Proofs.YtcikjeiebpmmcaaGreat.PureMch
