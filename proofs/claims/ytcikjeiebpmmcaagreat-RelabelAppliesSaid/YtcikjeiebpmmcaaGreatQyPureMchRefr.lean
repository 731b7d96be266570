/- A text of this claim, pruned by a program of the session (prune.py) to what the theorem rests on. -/
import Derived.Test.YtcikjeiebpmmcaaGreatQyPureMchRefv
namespace Go.Proofs.YtcikjeiebpmmcaaGreat.PureMch
open Go.RowKit Go.Proofs.YtcikjeiebpmmcaaGreat Go.Proofs.YtcikjeiebpmmcaaGreat.PMch Go.Proofs.YtcikjeiebpmmcaaGreatW.PrintWords
set_option linter.unusedVariables false
set_option linter.unusedSimpArgs false
theorem rounds_up {α : Type} {f : Nat → Option α} (h : ∀ k r, f k = some r → f (k + 1) = some r) {k k' : Nat} (hk : k ≤ k') {r : α} (e : f k = some r) : f k' = some r := by
  induction hk with
  | refl => exact e
  | step _ ih => exact h _ _ ih
theorem both_all (pat s : ByteArray) (hp : pat.size ≤ 100000) (hs : s.size ≤ 100000) : ∃ r, r.1.length ≤ pat.size ∧ ∀ k, 100003 ≤ k → relabel_Match.f k pat s = some r ∧ odometerref29_Match.f k pat s = some r := by
  obtain ⟨r, h1, h2, h3⟩ := both_match pat s hp hs 100003 (by omega)
  exact ⟨r, h1, fun k hk => ⟨rounds_up (f := fun k => relabel_Match.f k pat s) (fun k r => relabel_Match.mono pat s k r) hk h2, rounds_up (f := fun k => odometerref29_Match.f k pat s) (fun k r => odometerref29_Match.mono pat s k r) hk h3⟩⟩
theorem refFill_f (took : List ByteArray) (tm : ByteArray) (ht : tm.size ≤ 100000) (h : ∀ x ∈ took, x.size ≤ 100000) (hl : took.length ≤ 100000) (k : Nat) (hk : tm.size < k) : odometerref29_Fill.f k tm took = some (fillR took tm) :=
  refill took tm ht h hl k 0 [] (Nat.zero_le _) (by omega) (doing_start took tm)
theorem refRule_f (x : S43) (hm : mayR x = true) (hs : SmallR x) {m n : ByteArray} {l : List Lb} (hn : nameF m l = (n, 0)) :
    ∃ m' l' go, Big m' l' ∧ ∀ k, 40000000 ≤ k → relabel_Apply.step k x m l = some (m', l', go) ∧ (go = false → ∃ s, odometerref29_Rule.f k x.f0 x.f1 x.f2 x.f3 x.f4 n = some (s, false, 0)) ∧
      (go = true → odometerref29_Rule.f k x.f0 x.f1 x.f2 x.f3 x.f4 n = some ((nameF m' l').1, ((nameF m' l').2 == 0), (nameF m' l').2)) := by
  obtain ⟨s1, s2, s3, s4⟩ := hs
  have hkind := may_kind hm
  have hr := name_right hn
  have hsm := right_small hr
  have hval := value_size hr x.f1
  have hlen : l.length ≤ 1099511627776 := by have := hr.2.1; omega
  obtain ⟨⟨took, is⟩, hrl, hM⟩ := both_all x.f2 (valueF nmL vlL m l x.f1) (by omega) (by omega)
  have hT : ∀ y ∈ took, y.size ≤ 10000 := fun y hy => by
    obtain ⟨t2, b2, e, h⟩ := match_any x.f2 (valueF nmL vlL m l x.f1) (by omega) (by omega) 200000 (Nat.le_refl _)
    rw [(hM 200000 (by omega)).1] at e
    have e2 : took = t2 := congrArg Prod.fst (Option.some.inj e)
    rw [e2] at hy
    have := h y hy
    omega
  have hdef : ∀ k, 40000000 ≤ k → relabel_Apply.step k x m l = (if x.f0 = 3 ∧ is = true then (relabel_Fill.f x.f3 took).bind fun y => some (oneF nmL mkL (fun _ => false) x.f0 x.f4 y.1 is m l)
      else if x.f0 = 4 then (if ∀ y ∈ l, (relabel_Match.f k x.f2 (nmL y)).isSome = true then some (oneF nmL mkL (fun y => ((relabel_Match.f k x.f2 (nmL y)).map (·.2)).getD false) x.f0 x.f4 ⟨#[]⟩ is m l) else none)
      else some (oneF nmL mkL (fun _ => false) x.f0 x.f4 ⟨#[]⟩ is m l)) := fun k hk => by
    show stepF nmL vlL mkL (relabel_Match.f k) relabel_Fill.f x.f0 x.f1 x.f2 x.f3 x.f4 m l = _
    unfold stepF
    rw [if_pos ⟨hkind, hlen⟩, (hM k (by omega)).1, Option.bind_some]
  have hrule : ∀ k, 40000000 ≤ k → odometerref29_Rule.f k x.f0 x.f1 x.f2 x.f3 x.f4 n = (if x.f0 = 1 then (some (n, is, 0)) else (if x.f0 = 2 then (some (n, !is, 0)) else (if x.f0 = 3 then (if is = true then ((odometerref29_Fill.f k x.f3 took).bind fun bt395 => ((odometerref29_set.f k n x.f4 bt395.1).bind fun bt397 => (some (bt397.1, (bt397.2 == 0), bt397.2)))) else (some (n, true, 0))) else ((odometerref03_Parse.f k n).bind fun bt399 => (odometerref29_Rule.l0 k bt399.1 bt399.2.1 ([] : List Lb) 0 x.f0 x.f1 x.f2 x.f3 x.f4))))) := fun k hk => by
    unfold odometerref29_Rule.f
    rw [refValue_f hn x.f1 k (by omega), Option.bind_some, (hM k (by omega)).2, Option.bind_some]
  rcases hkind with h | h | h | h
  · refine ⟨m, l, is, right_big hr, fun k hk => ⟨?_, fun hg => ⟨n, ?_⟩, fun hg => ?_⟩⟩
    · rw [hdef k hk, if_neg (by omega), if_neg (by omega)]
      unfold oneF
      rw [if_pos h]
    · rw [hrule k hk, if_pos h, hg]
    · rw [hrule k hk, if_pos h, hn, hg]
      rfl
  · refine ⟨m, l, !is, right_big hr, fun k hk => ⟨?_, fun hg => ⟨n, ?_⟩, fun hg => ?_⟩⟩
    · rw [hdef k hk, if_neg (by omega), if_neg (by omega)]
      unfold oneF
      rw [if_neg (by omega), if_pos h]
    · rw [hrule k hk, if_neg (by omega), if_pos h, hg]
    · rw [hrule k hk, if_neg (by omega), if_pos h, hn, hg]
      rfl
  · cases is with
    | true =>
      have hF : relabel_Fill.f x.f3 took = some (fillR took x.f3) := by
        unfold relabel_Fill.f
        rw [if_pos ⟨by omega, fun y hy => by have := hT y hy; omega⟩]
      have hfs := fill_size took x.f3 hT (by omega)
      have hB := one_big (fun _ => false) x.f0 x.f4 (fillR took x.f3).1 true hr (by omega) hfs
      have hone : oneF nmL mkL (fun _ => false) x.f0 x.f4 (fillR took x.f3).1 true m l = ((setF nmL mkL m l x.f4 (fillR took x.f3).1).1, (setF nmL mkL m l x.f4 (fillR took x.f3).1).2, true) := by
        unfold oneF
        rw [if_neg (by omega), if_neg (by omega), if_pos h, if_pos rfl]
      rw [hone] at hB
      refine ⟨_, _, true, hB, fun k hk => ⟨?_, (fun hg => by cases hg), fun hg => ?_⟩⟩
      · rw [hdef k hk, if_pos ⟨h, rfl⟩, hF, Option.bind_some, hone]
      · rw [hrule k hk, if_neg (by omega), if_neg (by omega), if_pos h, if_pos rfl, refFill_f took x.f3 (by omega) (fun y hy => by have := hT y hy; omega) (by dsimp only at hrl; omega) k (by omega), Option.bind_some,
          refSet_f hn x.f4 (fillR took x.f3).1 (by omega) (by omega) k (by omega), Option.bind_some]
    | false =>
      refine ⟨m, l, true, right_big hr, fun k hk => ⟨?_, (fun hg => by cases hg), fun hg => ?_⟩⟩
      · rw [hdef k hk, if_neg (by simp), if_neg (by omega)]
        unfold oneF
        rw [if_neg (by omega), if_neg (by omega), if_pos h, if_neg (by decide)]
      · rw [hrule k hk, if_neg (by omega), if_neg (by omega), if_pos h, if_neg (by decide), hn]
        rfl
  · have hnm : ∀ y ∈ l, y.f0.size ≤ 100000 := fun y hy => by have := (hsm.2.2 y hy).1; omega
    have hany : ∀ y ∈ l, ∃ r, ∀ k, 100003 ≤ k → relabel_Match.f k x.f2 y.f0 = some r ∧ odometerref29_Match.f k x.f2 y.f0 = some r := fun y hy => by
      obtain ⟨r, _, h⟩ := both_all x.f2 y.f0 (by omega) (hnm y hy)
      exact ⟨r, h⟩
    obtain ⟨g, hg⟩ : ∃ g : Lb → Bool, g = fun y => ((relabel_Match.f 100003 x.f2 (nmL y)).map (·.2)).getD false := ⟨_, rfl⟩
    have hgy : ∀ y ∈ l, ∃ r, ∀ k, 100003 ≤ k → relabel_Match.f k x.f2 y.f0 = some (r, g y) ∧ odometerref29_Match.f k x.f2 y.f0 = some (r, g y) := fun y hy => by
      obtain ⟨⟨r, b⟩, h⟩ := hany y hy
      refine ⟨r, fun k hk => ?_⟩
      have e : g y = b := by
        rw [hg]
        show ((relabel_Match.f 100003 x.f2 y.f0).map (·.2)).getD false = b
        rw [(h 100003 (Nat.le_refl _)).1]
        rfl
      rw [e]
      exact h k hk
    have hfil : ∀ k, 40000000 ≤ k → (l.filter fun y => !((relabel_Match.f k x.f2 (nmL y)).map (·.2)).getD false) = l.filter fun y => !g y := fun k hk => List.filter_congr fun y hy => by
      obtain ⟨r, h⟩ := hgy y hy
      show (!((relabel_Match.f k x.f2 y.f0).map (·.2)).getD false) = _
      rw [(h k (by omega)).1]
      rfl
    have hle := List.length_filter_le (fun y => !g y) l
    have h16 := hr.2.1
    refine ⟨m, l.filter (fun y => !g y), true, ⟨by omega, by omega, fun y hy => by have := hnm y (List.mem_filter.1 hy).1; omega⟩, fun k hk => ⟨?_, (fun hg => by cases hg), fun _ => ?_⟩⟩
    · rw [hdef k hk, if_neg (by omega), if_pos h, if_pos (fun y hy => by
        obtain ⟨r, h⟩ := hgy y hy
        show (relabel_Match.f k x.f2 y.f0).isSome = true
        rw [(h k (by omega)).1]
        rfl)]
      unfold oneF
      rw [if_neg (by omega), if_neg (by omega), if_neg (by omega), hfil k hk]
    · have hp := isort_perm nmL l
      have hlen2 := sorted_len hn
      have hmem : ∀ y ∈ isort nmL l, y ∈ l := fun y hy => hp.mem_iff.1 hy
      have hfew : Few ((isort nmL l).filter fun y => !g y) := ⟨by have := List.length_filter_le (fun y => !g y) (isort nmL l); omega, fun y hy => (hsm.2.2 y (hmem y (List.mem_filter.1 hy).1)).1⟩
      rw [hrule k hk, if_neg (by omega), if_neg (by omega), if_neg (by omega), refParse_at hn k (by omega), Option.bind_some]
      dsimp only
      have := rule_l0 m (isort nmL l) (by omega) x.f0 x.f1 x.f2 x.f3 x.f4 (by omega) (fun y hy => hnm y (hmem y hy)) g 30000010 (fun k hk y hy => by
        obtain ⟨r, h⟩ := hgy y (hmem y hy)
        exact ⟨r, (h k (by omega)).2⟩) _ (fun k hk => refName_g m (by omega) _ hfew k hk) (isort nmL l).length k 0 [] (by omega) (by omega) (by simp) (by simp)
      rw [nameF_perm m (hp.filter _)] at this
      exact this
theorem refApply_l0 (rs : List S43) (hrs : ∀ x ∈ rs, mayR x = true ∧ SmallR x) (hl : rs.length ≤ 1000) (K : Nat) (hK : 40000000 ≤ K) : ∀ (q k i : Nat) (m n : ByteArray) (l : List Lb), i + q = rs.length → q + 40000001 ≤ k → nameF m l = (n, 0) →
    ∃ R, GoK K (rs.drop i) m l n = some R ∧ odometerref29_Apply.l0 k rs n (i : Int) = some R ∧ (R.2.1 = true → ∃ m' l', nameF m' l' = (R.1, 0)) ∧ (R.2.1 = false → R.1 = ⟨#[]⟩)
  | 0, k, i, m, n, l, h, hk, hn => by
    obtain ⟨k, rfl⟩ : ∃ j, k = j + 1 := ⟨k - 1, by omega⟩
    refine ⟨(n, true, 0), ?_, ?_, fun _ => ⟨m, l, hn⟩, fun h => by cases h⟩
    · rw [List.drop_of_length_le (by omega)]
      rfl
    · rw [odometerref29_Apply.l0, if_neg (by omega)]
  | q + 1, k, i, m, n, l, h, hk, hn => by
    obtain ⟨k, rfl⟩ : ∃ j, k = j + 1 := ⟨k - 1, by omega⟩
    have hi : i < rs.length := by omega
    have hw : wrap64 ((i : Int) + 1) = ((i + 1 : Nat) : Int) := by rw [wrap_in _ (by omega) (by omega)]; omega
    obtain ⟨hm, hs⟩ := hrs rs[i] (List.getElem_mem hi)
    obtain ⟨m', l', go, hB, hall⟩ := refRule_f rs[i] hm hs hn
    obtain ⟨b1, b2, b3⟩ := hB
    have hstep := (hall K hK).1
    have hun : GoK K (rs.drop i) m l n = if go = false then some (⟨#[]⟩, false, 0) else if (nameF m' l').2 = 0 then GoK K (rs.drop (i + 1)) m' l' (nameF m' l').1 else some (⟨#[]⟩, false, (nameF m' l').2) := by
      rw [List.drop_eq_getElem_cons hi]
      show goF _ _ _ _ _ _ = _
      rw [goF, hstep, Option.bind_some]
      dsimp only
      have hK2 : 100 ≤ K := by omega
      rw [labelName_g m' l' b1 b2 b3 K hK2, Option.bind_some]
    have hap : odometerref29_Apply.l0 (k + 1) rs n (i : Int) = (odometerref29_Rule.f k rs[i].f0 rs[i].f1 rs[i].f2 rs[i].f3 rs[i].f4 n).bind fun bt => if bt.2.1 = true then odometerref29_Apply.l0 k rs bt.1 ((i + 1 : Nat) : Int) else some ((⟨#[]⟩ : ByteArray), false, bt.2.2) := by
      rw [odometerref29_Apply.l0, if_pos (by omega), if_pos (by omega), rd_rule rs i hi, hw]
    rw [hun, hap]
    cases go with
    | false =>
      obtain ⟨s, hR⟩ := (hall k (by omega)).2.1 rfl
      refine ⟨(⟨#[]⟩, false, 0), if_pos rfl, ?_, (fun h => by cases h), fun _ => rfl⟩
      rw [hR, Option.bind_some, if_neg (show ¬ false = true by decide)]
    | true =>
      rw [(hall k (by omega)).2.2 rfl, Option.bind_some, if_neg (by decide)]
      dsimp only
      by_cases he : (nameF m' l').2 = 0
      · have hn2 : nameF m' l' = ((nameF m' l').1, 0) := by rw [← he]
        rw [if_pos he, if_pos (by rw [he]; rfl)]
        exact refApply_l0 rs hrs hl K hK q k (i + 1) m' _ l' (by omega) (by omega) hn2
      · rw [if_neg he, if_neg (by simpa using he)]
        exact ⟨_, rfl, rfl, (fun h => by cases h), fun _ => rfl⟩
end Go.Proofs.YtcikjeiebpmmcaaGreat.PureMch
