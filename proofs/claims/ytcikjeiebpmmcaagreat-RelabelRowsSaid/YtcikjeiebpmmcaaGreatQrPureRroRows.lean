/- A text of this claim, pruned by a program of the session (prune.py) to what the theorem rests on. -/
import Derived.Test.YtcikjeiebpmmcaaGreatQrPureRroTot
namespace Go.Proofs.YtcikjeiebpmmcaaGreat.PureRro
open Go.RowKit Go.Proofs.YtcikjeiebpmmcaaGreat Go.Proofs.YtcikjeiebpmmcaaGreat.PRro Go.Proofs.YtcikjeiebpmmcaaGreatW.PrintWords
set_option linter.unusedVariables false
set_option linter.unusedSimpArgs false
theorem empty_list : (⟨#[]⟩ : ByteArray).toList = ([] : List UInt8) := (list_nil _).2 rfl
theorem rows_same (k : Nat) (hk : 60 ≤ k) (b : List S43) (e : Int) (x : ByteArray) : odometerlaw29_RelabelRows.j1 (k + 1) b ⟨#[]⟩ false e x false e true = some true := by
  rw [odometerlaw29_RelabelRows.j1, if_pos rfl, if_pos empty_list, if_pos (show (false == false) = true from rfl), if_pos rfl, known_ge k hk]
  rfl
theorem rows_j0 (a b : List S43) (s : ByteArray) (la : a.length ≤ 12) (lb : b.length ≤ 12) (ha : ∀ x ∈ a, mayR x = true ∧ SmallR x) (hb : ∀ x ∈ b, mayR x = true ∧ SmallR x) (hs : s.size ≤ 2000) : odometerlaw29_RelabelRows.j0 400001 a b s false = some true := by
  have hab : ∀ x ∈ a ++ b, mayR x = true ∧ SmallR x := fun x hx => (List.mem_append.1 hx).elim (ha x) (hb x)
  obtain ⟨⟨m, l, e⟩, hr, hans⟩ := parse_any s (by omega) 400000 (by omega)
  rw [show 400001 = 400000 + 1 from rfl, odometerlaw29_RelabelRows.j0, if_neg (by simp), if_pos (by simp only [List.length_nil]; omega), Option.bind_some, List.nil_append, if_pos (by omega)]
  rcases hans with hbad | ⟨h0, h1, h2, h3⟩
  · obtain ⟨rfl, rfl, rfl⟩ : m = ⟨#[]⟩ ∧ l = [] ∧ e = 5 := by simpa using hbad
    rw [apply_bad_name 400000 (by omega) (a ++ b) hab s hr, Option.bind_some, apply_bad_name 400000 (by omega) a ha s hr, Option.bind_some, if_neg (by decide)]
    exact rows_same 399999 (by omega) b 5 _
  · have h0' : e = 0 := h0
    subst h0'
    obtain ⟨Rab, Ra, g1, g2, g3⟩ := go_app 400000 (by omega) b hb a ha m l s h3
    rw [apply_name 400000 (by omega) (a ++ b) (by rw [List.length_append]; omega) hab s m l hr, g1, Option.bind_some, apply_name 400000 (by omega) a (by omega) ha s m l hr, g2, Option.bind_some]
    rcases g3 with ⟨e1, e2⟩ | ⟨e1, e2, m', l', e3, e4⟩
    · rw [e2, e1]
      have := rows_same 399999 (by omega) b Ra.2.2 Ra.1
      split
      · exact this
      · exact this
    · have hR := name_right e3
      have hS := right_small hR
      have hx : ba (bl m' ++ render (isort nmL l')) = Ra.1 := by
        rw [nameF_right hR] at e3
        exact congrArg Prod.fst e3
      have hp := fun k hk => parse_name m' (by omega) l' hS.2 hR k hk
      rw [hx] at hp
      obtain ⟨R, hRk⟩ := go_any 399999 (by omega) b hb m' l' Ra.1 hR
      obtain ⟨R2, hR2⟩ := go_any 400000 (by omega) b hb m' l' Ra.1 hR
      have hA := apply_name 399999 (by omega) b (by omega) hb Ra.1 m' (isort nmL l') (hp 399999 (by omega))
      rw [hRk _ (isort_perm nmL l')] at hA
      have hA2 := apply_name 400000 (by omega) b (by omega) hb Ra.1 m' (isort nmL l') (hp 400000 (by omega))
      rw [hR2 _ (isort_perm nmL l'), relabel_Apply.mono b Ra.1 399999 R hA] at hA2
      rw [hR2 l' (List.Perm.refl _), ← hA2] at e4
      obtain rfl := Option.some.inj e4
      rw [if_pos e2, e1]
      show odometerlaw29_RelabelRows.j1 (399999 + 1) b R.1 R.2.1 R.2.2 Ra.1 true Ra.2.2 false = some true
      rw [odometerlaw29_RelabelRows.j1, if_neg (by simp), hA, Option.bind_some, if_pos rfl, if_pos (by simp), if_pos rfl, known_ge 399999 (by omega)]
      rfl
theorem RelabelRows (a b : List S43) (s : ByteArray) (ha : ∀ x ∈ a, (Lit.int .i64 x.f0).wf = true ∧ x.f1.size ≤ 140737488351232 ∧ x.f2.size ≤ 140737488351232 ∧ x.f3.size ≤ 140737488351232 ∧ x.f4.size ≤ 140737488351232)
    (hb : ∀ x ∈ b, (Lit.int .i64 x.f0).wf = true ∧ x.f1.size ≤ 140737488351232 ∧ x.f2.size ≤ 140737488351232 ∧ x.f3.size ≤ 140737488351232 ∧ x.f4.size ≤ 140737488351232) (hs : s.size ≤ 140737488351232) : ∃ k, odometerlaw29_RelabelRows.f k a b s = some true := by
  refine ⟨400001, ?_⟩
  have out : odometerlaw29_RelabelRows.j0 400001 a b s true = some true := by
    rw [show 400001 = 400000 + 1 from rfl, odometerlaw29_RelabelRows.j0, if_pos rfl, known_ge 400000 (by omega)]
    rfl
  obtain ⟨ma, hma, hsa⟩ := much_f 400001 a (fun x hx => held_of (ha x hx)) (by omega)
  obtain ⟨mb, hmb, hsb⟩ := much_f 400001 b (fun x hx => held_of (hb x hx)) (by omega)
  unfold odometerlaw29_RelabelRows.f
  rw [hma, Option.bind_some]
  cases ma with
  | true => rw [if_pos rfl]; exact out
  | false =>
    obtain ⟨la, hSa⟩ := hsa rfl
    rw [if_neg (by simp), hmb, Option.bind_some]
    cases mb with
    | true => rw [if_pos rfl]; exact out
    | false =>
      obtain ⟨lb, hSb⟩ := hsb rfl
      rw [if_neg (by simp)]
      by_cases h2 : (s.size : Int) > 2000
      · rw [if_pos h2]; exact out
      · rw [if_neg h2, ones_f 400001 a hSa (by omega) (by omega), Option.bind_some]
        cases hA : a.all mayR with
        | false => rw [if_neg (by simp)]; exact out
        | true =>
          rw [if_pos rfl, ones_f 400001 b hSb (by omega) (by omega), Option.bind_some]
          cases hB : b.all mayR with
          | false => exact out
          | true => exact rows_j0 a b s la lb (good_rules hA hSa) (good_rules hB hSb) (by omega)
end Go.Proofs.YtcikjeiebpmmcaaGreat.PureRro
