/- A text of this claim, pruned by a program of the session (prune.py) to what the theorem rests on. -/
import Derived.Test.YtcikjeiebpmmcaaGreatQyPureMchRefr
namespace Go.Proofs.YtcikjeiebpmmcaaGreat.PureMch
open Go.RowKit Go.Proofs.YtcikjeiebpmmcaaGreat Go.Proofs.YtcikjeiebpmmcaaGreat.PMch Go.Proofs.YtcikjeiebpmmcaaGreatW.PrintWords
set_option linter.unusedVariables false
set_option linter.unusedSimpArgs false
theorem apply_both (l : List S43) (hS : ∀ x ∈ l, SmallR x) (hl : l.length ≤ 1000) (s : ByteArray) (hs : s.size ≤ 3000) (K : Nat) (hK : 45000000 ≤ K) :
    ∃ R, relabel_Apply.f K l s = some R ∧ odometerref29_Apply.f K l s = some R ∧ (R.2.1 = true → ∃ m' l', nameF m' l' = (R.1, 0)) ∧ (R.2.1 = false → R.1 = ⟨#[]⟩) := by
  by_cases hm : l.all mayR = true
  · have hg := good_rules hm hS
    obtain ⟨r, ha, hp⟩ := parse_both s hs
    obtain ⟨p1, p2⟩ := hp K (by omega)
    have hun : odometerref29_Apply.f K l s = if r.2.2 = 0 then odometerref29_Apply.l0 K l s 0 else some ((⟨#[]⟩ : ByteArray), false, 5) := by
      unfold odometerref29_Apply.f
      rw [ones_f K l hS (by omega) (by omega), Option.bind_some, if_pos hm, p2, Option.bind_some]
    rcases ha with rfl | ⟨h0, h1, h2, h3⟩
    · refine ⟨_, apply_bad_name K (by omega) l hg s p1, ?_, (fun h => by cases h), fun _ => rfl⟩
      rw [hun, if_neg (by decide)]
    · obtain ⟨m, ls, e⟩ := r
      dsimp only at h0 h1 h2 h3
      subst h0
      obtain ⟨R, e1, e2, e3⟩ := refApply_l0 l hg hl K (by omega) l.length K 0 m s ls (by omega) (by omega) h3
      rw [List.drop_zero] at e1
      refine ⟨R, ?_, ?_, e3⟩
      · rw [apply_name K (by omega) l hl hg s m ls p1]
        exact e1
      · rw [hun, if_pos rfl]
        exact e2
  · have hm' : l.all mayR = false := by simpa using hm
    refine ⟨(⟨#[]⟩, false, 2), ?_, ?_, (fun h => by cases h), fun _ => rfl⟩
    · unfold relabel_Apply.f
      rw [mays_f K (by omega) l hS, Option.bind_some, if_neg hm]
    · unfold odometerref29_Apply.f
      rw [ones_f K l hS (by omega) (by omega), Option.bind_some, if_neg hm]
theorem value_both (s b : ByteArray) (hs : s.size ≤ 3000) (K : Nat) (hK : 45000000 ≤ K) : ∃ v, relabel_Value.f K s b = some v ∧ odometerref29_Value.f K s b = some v := by
  obtain ⟨r, ha, hp⟩ := parse_both s hs
  obtain ⟨p1, p2⟩ := hp K (by omega)
  rcases ha with rfl | ⟨h0, h1, h2, h3⟩
  · refine ⟨⟨#[]⟩, ?_, ?_⟩
    · unfold relabel_Value.f valueF
      rw [p1, Option.bind_some, if_pos (by simp)]
      split <;> rfl
    · unfold odometerref29_Value.f odometerref03_Get.f
      rw [p2, Option.bind_some]
      obtain ⟨t, ht⟩ := get_l0 b [] (by simp) 0 K 0 (by simp) (by omega)
      rw [show ((0 : Nat) : Int) = 0 from rfl] at ht
      split
      · rfl
      · rw [Option.bind_some, ht]
        rfl
  · obtain ⟨m, ls, e⟩ := r
    dsimp only at h0 h1 h2 h3
    subst h0
    refine ⟨valueF nmL vlL m ls b, ?_, refValue_f h3 b K (by omega)⟩
    unfold relabel_Value.f
    rw [p1, Option.bind_some, if_pos (by have := h2.1; dsimp only; omega)]
    rfl
theorem parse_nil_K : odometerref03_Parse.f 5 (⟨#[]⟩ : ByteArray) = some (⟨#[]⟩, [], 5) := by kernel_rfl
theorem parse_nil (k : Nat) (h : 5 ≤ k) : odometerref03_Parse.f k (⟨#[]⟩ : ByteArray) = some (⟨#[]⟩, [], 5) :=
  rounds_up (f := fun k => odometerref03_Parse.f k (⟨#[]⟩ : ByteArray)) (fun k r => odometerref03_Parse.mono _ k r) h parse_nil_K
theorem applies_l0 (l : List S43) (hl : l.length ≤ 1000) (s : ByteArray) (go : Bool) (h1 : go = true → ∃ m' l', nameF m' l' = (s, 0)) (h2 : go = false → s = ⟨#[]⟩) : ∀ (n k i : Nat), i + n = l.length → n + 500001 ≤ k → odometerlaw29_RelabelApplies.l0 k l l s go (i : Int) = some true
  | 0, k, i, h, hk => by
    obtain ⟨k, rfl⟩ : ∃ j, k = j + 1 := ⟨k - 1, by omega⟩
    rw [odometerlaw29_RelabelApplies.l0, if_neg (by omega), known_ge k (by omega), Option.bind_some]
    cases go with
    | true =>
      obtain ⟨m', l', hn⟩ := h1 rfl
      rw [refParse_at hn k (by omega), Option.bind_some]
      rfl
    | false =>
      rw [h2 rfl, parse_nil k (by omega), Option.bind_some]
      rfl
  | n + 1, k, i, h, hk => by
    obtain ⟨k, rfl⟩ : ∃ j, k = j + 1 := ⟨k - 1, by omega⟩
    have hw : wrap64 ((i : Int) + 1) = ((i + 1 : Nat) : Int) := by rw [wrap_in _ (by omega) (by omega)]; omega
    rw [odometerlaw29_RelabelApplies.l0, if_pos (by omega), if_pos (by omega), if_pos (by omega), if_neg (by simp), hw]
    exact applies_l0 l hl s go h1 h2 n k (i + 1) (by omega) (by omega)
theorem RelabelApplies (l : List S43) (a1 a2 : ByteArray) (h : ∀ x ∈ l, (Lit.int .i64 x.f0).wf = true ∧ x.f1.size ≤ 140737488351232 ∧ x.f2.size ≤ 140737488351232 ∧ x.f3.size ≤ 140737488351232 ∧ x.f4.size ≤ 140737488351232) : ∃ k, odometerlaw29_RelabelApplies.f k l a1 a2 = some true := by
  obtain ⟨b, hb, hS⟩ := much_f 50000001 l (fun x hx => held_of (h x hx)) (by omega)
  refine ⟨50000001, ?_⟩
  have out : odometerlaw29_RelabelApplies.j0 50000001 l a1 a2 true = some true := by
    rw [show 50000001 = 50000000 + 1 from rfl, odometerlaw29_RelabelApplies.j0, if_pos rfl, known_ge 50000000 (by omega), Option.bind_some]
  unfold odometerlaw29_RelabelApplies.f
  rw [hb, Option.bind_some]
  cases b with
  | true => rw [if_pos rfl]; exact out
  | false =>
    obtain ⟨hl, hS⟩ := hS rfl
    rw [if_neg (by decide)]
    by_cases h1 : (a1.size : Int) > 2000
    · rw [if_pos h1]; exact out
    · rw [if_neg h1]
      by_cases h2 : (a2.size : Int) > 300
      · rw [decide_eq_true h2]; exact out
      · rw [decide_eq_false h2, show 50000001 = 50000000 + 1 from rfl, odometerlaw29_RelabelApplies.j0, if_neg (by decide), if_pos (by simp only [List.length_nil]; omega), Option.bind_some, List.nil_append]
        obtain ⟨R, e1, e2, e3, e4⟩ := apply_both l hS (by omega) a1 (by omega) 50000000 (by omega)
        obtain ⟨v, v1, v2⟩ := value_both a1 a2 (by omega) 50000000 (by omega)
        rw [e1, Option.bind_some, e2, Option.bind_some, if_pos rfl, if_neg (by simp), if_pos rfl, v1, Option.bind_some, v2, Option.bind_some, show (50000000 : Nat) = 49999999 + 1 from rfl, odometerlaw29_RelabelApplies.j1, if_neg (by simp)]
        exact applies_l0 l (by omega) R.1 R.2.1 e3 e4 l.length 49999999 0 (by omega) (by omega)
end Go.Proofs.YtcikjeiebpmmcaaGreat.PureMch
