/- A text of this claim, pruned by a program of the session (prune.py) to what the theorem rests on. -/
import Derived.Test.YtcikjeiebpmmcaaGreatQkPureRkeTot
namespace Go.Proofs.YtcikjeiebpmmcaaGreat.PureRke
open Go.RowKit Go.Proofs.YtcikjeiebpmmcaaGreat Go.Proofs.YtcikjeiebpmmcaaGreat.PRke Go.Proofs.YtcikjeiebpmmcaaGreatW.PrintWords
set_option linter.unusedVariables false
set_option linter.unusedSimpArgs false
theorem rounds_le {α : Type} {f : Nat → Option α} (h : ∀ k r, f k = some r → f (k + 1) = some r) {k k' : Nat} (hk : k ≤ k') {r : α} (e : f k = some r) : f k' = some r := by
  induction hk with
  | refl => exact e
  | step _ ih => exact h _ _ ih
theorem match_one (p t : ByteArray) {k k' : Nat} {r r' : List ByteArray × Bool} (h : relabel_Match.f k p t = some r) (h' : relabel_Match.f k' p t = some r') : r = r' := by
  have m := fun k r => relabel_Match.mono p t k r
  rcases Nat.le_total k k' with hk | hk
  · have := rounds_le (f := fun k => relabel_Match.f k p t) m hk h
    exact Option.some.inj (this.symm.trans h')
  · have := rounds_le (f := fun k => relabel_Match.f k p t) m hk h'
    exact Option.some.inj (h.symm.trans this)
def NoM (m : ByteArray) (ls : List Lb) (x : S43) : Prop := ∀ k t, relabel_Match.f k x.f2 (valueF nmL vlL m ls x.f1) = some t → t.2 = false
theorem go_quiet (k : Nat) (hk : 200000 ≤ k) (m n : ByteArray) (ls : List Lb) (hn : nameF m ls = (n, 0)) : ∀ (l : List S43), (∀ x ∈ l, (mayR x = true ∧ SmallR x) ∧ x.f0 = 3 ∧ NoM m ls x) → ∀ l2, l2.Perm ls → GoK k l m l2 n = some (n, true, 0)
  | [], _, l2, _ => rfl
  | x :: l, hl, l2, h2 => by
    obtain ⟨⟨hm, hs⟩, h3, hno⟩ := hl x (by simp)
    obtain ⟨m', l', go, hp, hB, hgo, hst⟩ := step_any x hm hs m ls (name_right hn) k hk
    obtain ⟨rfl, rfl⟩ := hst h3 (hno k)
    obtain rfl := hgo (Or.inl h3)
    obtain ⟨l2', e, hp2⟩ := hp l2 h2
    obtain ⟨b1, b2, b3⟩ := big_perm hp2 hB
    show goF _ _ _ _ _ _ = _
    rw [goF, e, Option.bind_some, if_neg (by simp), labelName_g m' l2' b1 b2 b3 k (by omega), nameF_perm m' hp2, hn, Option.bind_some, if_pos rfl]
    exact go_quiet k hk m' n l' hn l (fun y hy => hl y (by simp [hy])) l2' hp2
theorem go_keeps (k : Nat) (hk : 200000 ≤ k) : ∀ (b : List S43), (∀ x ∈ b, (mayR x = true ∧ SmallR x) ∧ (x.f0 = 3 ∨ x.f0 = 4)) → ∀ (m : ByteArray) (l : List Lb) (n : ByteArray), Right m l → ∃ R, GoK k b m l n = some R ∧ (R.2.2 = 0 → R.2.1 = true)
  | [], _, m, l, n, hr => ⟨_, rfl, fun _ => rfl⟩
  | x :: b, hb, m, l, n, hr => by
    obtain ⟨⟨hm, hs⟩, h34⟩ := hb x (by simp)
    obtain ⟨m', l', go, hp, hB, hgo, _⟩ := step_any x hm hs m l hr k hk
    obtain rfl := hgo h34
    obtain ⟨l2', e, hp2⟩ := hp l (List.Perm.refl _)
    obtain ⟨b1, b2, b3⟩ := big_perm hp2 hB
    obtain ⟨s, er, hne⟩ : ∃ s er, nameF m' l2' = (s, er) := ⟨_, _, rfl⟩
    have hun : GoK k (x :: b) m l n = if er = 0 then GoK k b m' l2' s else some (⟨#[]⟩, false, er) := by
      show goF _ _ _ _ _ _ = _
      rw [goF, e, Option.bind_some, if_neg (by simp), labelName_g m' l2' b1 b2 b3 k (by omega), hne, Option.bind_some]
    rw [hun]
    by_cases her : er = 0
    · subst her
      rw [if_pos rfl]
      exact go_keeps k hk b (fun y hy => hb y (by simp [hy])) m' l2' s (name_right hne)
    · rw [if_neg her]
      exact ⟨_, rfl, fun h => absurd h her⟩
theorem keeps_end (l : List S43) (s : ByteArray) (r : ByteArray × List Lb × Int) (hll : l.length ≤ 12) (hl : ∀ x ∈ l, mayR x = true ∧ SmallR x) (hP : ∀ k, 200000 ≤ k → label_Parse.f k s = some r) (hans : Answer s r) (d q : Bool) (hd : d = false → ∀ x ∈ l, x.f0 = 3 ∨ x.f0 = 4) (hq : q = true → ∀ x ∈ l, x.f0 = 3 ∧ NoM r.1 r.2.1 x)
    (k : Nat) (hk : 300000 ≤ k) (i : Int) (hi : (l.length : Int) ≤ i) : odometerlaw29_RelabelKeeps.l0 (k + 1) l s d q i = some true := by
  obtain ⟨m, ls, e⟩ := r
  rw [odometerlaw29_RelabelKeeps.l0, if_neg (by omega), known_ge k (by omega)]
  simp only [Option.bind_some, ite_self]
  rcases hans with hbad | ⟨h0, h1, h2, h3⟩
  · obtain ⟨rfl, rfl, rfl⟩ : m = ⟨#[]⟩ ∧ ls = [] ∧ e = 5 := by simpa using hbad
    rw [apply_bad_name k (by omega) l hl s (hP k (by omega)), Option.bind_some, if_neg (show ¬ (5 : Int) = 0 by decide), if_neg (show ¬ (5 : Int) = 0 by decide)]
    simp
  · have h0' : e = 0 := h0
    subst h0'
    have hN : nameF m ls = (s, 0) := h3
    rw [apply_name k (by omega) l (by omega) hl s m ls (hP k (by omega))]
    cases q with
    | true =>
      rw [go_quiet k (by omega) m s ls hN l (fun x hx => ⟨hl x hx, hq rfl x hx⟩) ls (List.Perm.refl _), Option.bind_some, if_pos rfl, if_pos rfl, if_pos rfl, if_pos rfl]
    | false =>
      cases d with
      | true =>
        obtain ⟨R, hR⟩ := go_any k (by omega) l hl m ls s (name_right hN)
        rw [hR ls (List.Perm.refl _), Option.bind_some, if_neg (by simp), if_pos rfl]
      | false =>
        obtain ⟨R, hR, hR2⟩ := go_keeps k (by omega) l (fun x hx => ⟨hl x hx, hd rfl x hx⟩) m ls s (name_right hN)
        rw [hR, Option.bind_some, if_neg (by simp), if_neg (by simp)]
        by_cases hz : R.2.2 = 0
        · rw [if_pos hz, if_pos (hR2 hz)]
        · rw [if_neg hz]
theorem keeps_l0 (l : List S43) (s : ByteArray) (r : ByteArray × List Lb × Int) (hll : l.length ≤ 12) (hl : ∀ x ∈ l, mayR x = true ∧ SmallR x) (hP : ∀ k, 200000 ≤ k → label_Parse.f k s = some r) (hans : Answer s r) :
    ∀ (n i k : Nat) (d q : Bool), i + n = l.length → 300001 + n ≤ k → (d = false → ∀ j x, l[j]? = some x → j < i → x.f0 = 3 ∨ x.f0 = 4) → (q = true → ∀ j x, l[j]? = some x → j < i → x.f0 = 3 ∧ NoM r.1 r.2.1 x) →
    odometerlaw29_RelabelKeeps.l0 k l s d q (i : Int) = some true
  | 0, i, k, d, q, hi, hk, hd, hq => by
    obtain ⟨k, rfl⟩ : ∃ n, k = n + 1 := ⟨k - 1, by omega⟩
    refine keeps_end l s r hll hl hP hans d q (fun h x hx => ?_) (fun h x hx => ?_) k (by omega) i (by omega)
    · obtain ⟨j, hj, rfl⟩ := List.getElem_of_mem hx
      exact hd h j _ (List.getElem?_eq_getElem hj) (by omega)
    · obtain ⟨j, hj, rfl⟩ := List.getElem_of_mem hx
      exact hq h j _ (List.getElem?_eq_getElem hj) (by omega)
  | n + 1, i, k, d, q, hi, hk, hd, hq => by
    obtain ⟨k, rfl⟩ : ∃ n, k = n + 1 := ⟨k - 1, by omega⟩
    have hlt : i < l.length := by omega
    obtain ⟨hm, s1, s2, s3, s4⟩ := hl l[i] (List.getElem_mem hlt)
    have hkind := may_kind hm
    have hw1 : wrap64 ((i : Int) + 1) = ((i + 1 : Nat) : Int) := by rw [wrap_in _ (by omega) (by omega)]; omega
    have hlen : r.2.1.length ≤ 1099511627776 := by
      rcases hans with h | ⟨_, _, h2, _⟩
      · rw [h]; simp
      · have := h2.1; omega
    have hV : relabel_Value.f k s (l[i]).f1 = some (valueF nmL vlL r.1 r.2.1 (l[i]).f1) := by
      unfold relabel_Value.f
      rw [hP k (by omega), Option.bind_some, if_pos hlen]
      rfl
    have hvs : (valueF nmL vlL r.1 r.2.1 (l[i]).f1).size ≤ 1024 := by
      rcases hans with h | ⟨_, _, _, h3⟩
      · rw [h]
        show (valueF nmL vlL ⟨#[]⟩ [] (l[i]).f1).size ≤ 1024
        unfold valueF
        split <;> exact Nat.zero_le _
      · exact value_size (name_right h3) _
    obtain ⟨took, is, hM, _⟩ := match_any (l[i]).f2 (valueF nmL vlL r.1 r.2.1 (l[i]).f1) (by omega) (by omega) k (by omega)
    have hno : is = false → NoM r.1 r.2.1 l[i] := fun h k' t ht => by
      have := match_one _ _ hM ht
      rw [← this]
      exact h
    have next : ∀ d' q' : Bool, (d' = false → d = false ∧ ((l[i]).f0 = 3 ∨ (l[i]).f0 = 4)) → (q' = true → q = true ∧ (l[i]).f0 = 3 ∧ is = false) → odometerlaw29_RelabelKeeps.l0 k l s d' q' ((i + 1 : Nat) : Int) = some true := fun d' q' hd' hq' =>
      keeps_l0 l s r hll hl hP hans n (i + 1) k d' q' (by omega) (by omega) (fun h j x hx hj => by
        by_cases he : j = i
        · subst he
          rw [List.getElem?_eq_getElem hlt] at hx
          obtain rfl := Option.some.inj hx
          exact (hd' h).2
        · exact hd (hd' h).1 j x hx (by omega)) (fun h j x hx hj => by
        by_cases he : j = i
        · subst he
          rw [List.getElem?_eq_getElem hlt] at hx
          obtain rfl := Option.some.inj hx
          exact ⟨(hq' h).2.1, hno (hq' h).2.2⟩
        · exact hq (hq' h).1 j x hx (by omega))
    have hq3 : ∀ d' : Bool, (d' = false → d = false ∧ ((l[i]).f0 = 3 ∨ (l[i]).f0 = 4)) → (if q = true then (if (l[i]).f0 = 3 then odometerlaw29_RelabelKeeps.l0 k l s d' (!is) ((i + 1 : Nat) : Int) else odometerlaw29_RelabelKeeps.l0 k l s d' false ((i + 1 : Nat) : Int)) else odometerlaw29_RelabelKeeps.l0 k l s d' false ((i + 1 : Nat) : Int)) = some true := fun d' hd' => by
      by_cases hqt : q = true
      · rw [if_pos hqt]
        by_cases h3 : (l[i]).f0 = 3
        · rw [if_pos h3]
          exact next d' (!is) hd' fun h => ⟨hqt, h3, by simpa using h⟩
        · rw [if_neg h3]
          exact next d' false hd' fun h => by cases h
      · rw [if_neg hqt]
        exact next d' false hd' fun h => by cases h
    rw [odometerlaw29_RelabelKeeps.l0, if_pos (show (i : Int) < (l.length : Int) by omega), rd_rule l i hlt, hw1]
    simp only [hV, hM, Option.bind_some]
    by_cases hdt : d = true
    · rw [if_pos hdt, if_pos (show (0 : Int) ≤ (i : Int) by omega)]
      exact hq3 true fun h => by cases h
    · rw [if_neg hdt, if_pos (show (0 : Int) ≤ (i : Int) by omega)]
      have hdf : d = false := by simpa using hdt
      by_cases h1 : (l[i]).f0 = 1
      · rw [if_pos h1]
        exact hq3 true fun h => by cases h
      · rw [if_neg h1]
        refine hq3 _ fun h => ⟨hdf, ?_⟩
        have : ¬ (l[i]).f0 = 2 := fun e => by rw [e] at h; cases h
        omega
theorem RelabelKeeps (l : List S43) (s : ByteArray) (h : ∀ x ∈ l, (Lit.int .i64 x.f0).wf = true ∧ x.f1.size ≤ 140737488351232 ∧ x.f2.size ≤ 140737488351232 ∧ x.f3.size ≤ 140737488351232 ∧ x.f4.size ≤ 140737488351232) (hs : s.size ≤ 140737488351232) : ∃ k, odometerlaw29_RelabelKeeps.f k l s = some true := by
  refine ⟨400001, ?_⟩
  have out : odometerlaw29_RelabelKeeps.j0 400001 l s true = some true := by
    rw [show 400001 = 400000 + 1 from rfl, odometerlaw29_RelabelKeeps.j0, if_pos rfl, known_ge 400000 (by omega)]
    rfl
  obtain ⟨b, hb, hsm⟩ := much_f 400001 l (fun x hx => held_of (h x hx)) (by omega)
  unfold odometerlaw29_RelabelKeeps.f
  rw [hb, Option.bind_some]
  cases b with
  | true => rw [if_pos rfl]; exact out
  | false =>
    obtain ⟨hll, hS⟩ := hsm rfl
    rw [if_neg (by simp)]
    by_cases h2 : (s.size : Int) > 2000
    · rw [if_pos h2]; exact out
    · rw [if_neg h2, ones_f 400001 l hS (by omega) (by omega), Option.bind_some]
      cases hA : l.all mayR with
      | false => exact out
      | true =>
        show odometerlaw29_RelabelKeeps.j0 (400000 + 1) l s false = some true
        rw [odometerlaw29_RelabelKeeps.j0, if_neg (by simp)]
        obtain ⟨r, hr, hans⟩ := parse_any s (by omega) 200000 (by omega)
        exact keeps_l0 l s r hll (good_rules hA hS) (fun k hk => rounds_le (f := fun k => label_Parse.f k s) (fun k r => label_Parse.mono s k r) hk hr) hans l.length 0 400000 false true (by omega) (by omega) (fun _ j x _ hj => absurd hj (by omega)) (fun _ j x _ hj => absurd hj (by omega))
end Go.Proofs.YtcikjeiebpmmcaaGreat.PureRke
