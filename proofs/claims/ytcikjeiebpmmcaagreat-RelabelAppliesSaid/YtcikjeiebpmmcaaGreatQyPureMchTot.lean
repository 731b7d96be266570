/- A text of this claim, pruned by a program of the session (prune.py) to what the theorem rests on. -/
import Derived.Test.YtcikjeiebpmmcaaGreatQyPureMchMayb
import Derived.Test.YtcikjeiebpmmcaaGreatQyPureMchAny
namespace Go.Proofs.YtcikjeiebpmmcaaGreat.PureMch
open Go.RowKit Go.Proofs.YtcikjeiebpmmcaaGreat Go.Proofs.YtcikjeiebpmmcaaGreat.PMch Go.Proofs.YtcikjeiebpmmcaaGreatW.PrintWords
set_option linter.unusedVariables false
set_option linter.unusedSimpArgs false
theorem right_good {a0 : ByteArray} {l : List Lb} (h : Right a0 l) : ∀ x ∈ l, namedB x.f0 95 = true ∧ x.f1.size ≤ 1024 := fun x hx => by
  have := List.all_eq_true.1 h.2.2.1 x hx
  unfold goodL at this
  rw [Bool.and_eq_true, decide_eq_true_eq] at this
  exact this
theorem right_small {a0 : ByteArray} {l : List Lb} (h : Right a0 l) : a0.size ≤ 200 ∧ Small l :=
  ⟨(named_size _ _ h.1).2, by have := h.2.1; omega, fun x hx => by
    obtain ⟨h1, h2⟩ := right_good h x hx
    have := named_size _ _ h1
    exact ⟨by omega, by omega⟩⟩
theorem labelName_g (a0 : ByteArray) (l : List Lb) (ha : a0.size ≤ 1000000000) (hl : l.length ≤ 1000000000) (hx : ∀ x ∈ l, x.f0.size ≤ 1000000000) (k : Nat) (hk : 100 ≤ k) : label_Name.f k a0 l = some (nameF a0 l) := by
  by_cases hr : Right a0 l
  · have hS := right_small hr
    exact labelName_f a0 (by omega) l hS.2 k hk
  · have hS : label_series.f a0 l = some (seriesF nmL vlL (fun s => namedB s 95) (fun s => namedB s 58) a0 l) :=
      if_pos ⟨by omega, by omega, fun x h => by have := hx x h; omega⟩
    have hI : ∀ c : Int, c ≠ 5 → errors_Is.f (some c) (some 5) = some true := fun c hc => if_pos ⟨rfl, fun e => hc (Option.some.inj e)⟩
    rw [nameF_not hr]
    unfold label_Name.f
    rw [hS, Option.bind_some]
    unfold seriesF
    by_cases h1 : namedB a0 58 = true
    · rw [if_neg (by simp [h1])]
      by_cases h2 : 16 < l.length ∨ l.any (badL nmL vlL fun s => namedB s 95) = true
      · rw [if_pos h2, hI 102 (by decide), Option.bind_some, if_pos rfl]
      · rw [if_neg h2]
        by_cases h3 : twins nmL (isort nmL l) = true
        · rw [if_pos h3, hI 103 (by decide), Option.bind_some, if_pos rfl]
        · exact absurd ⟨h1, by omega, by
            have h4 : ¬ l.any (badL nmL vlL fun s => namedB s 95) = true := fun h => h2 (Or.inr h)
            rw [bad_good] at h4
            simpa using h4, (twins_nodup l).1 (by simpa using h3)⟩ hr
    · rw [if_pos (by simpa using h1), hI 101 (by decide), Option.bind_some, if_pos rfl]
theorem stands_ends (p : List S103) (t : ByteArray) (hp : p.length ≤ 100000) (ht : t.size ≤ 100000) (a : Nat) (ha : a + p.length ≤ t.size) : ∀ (n k i : Nat), i + n = p.length → n < k → ∃ b, relabel_stands.l0 k t (a : Int) p (p.length : Int) (i : Int) = some b
  | 0, k, i, hi, hk => by
    obtain ⟨k, rfl⟩ : ∃ n, k = n + 1 := ⟨k - 1, by omega⟩
    rw [relabel_stands.l0, if_neg (by omega)]
    exact ⟨_, rfl⟩
  | n + 1, k, i, hi, hk => by
    obtain ⟨k, rfl⟩ : ∃ n, k = n + 1 := ⟨k - 1, by omega⟩
    obtain ⟨b, hb⟩ := stands_ends p t hp ht a ha n k (i + 1) (by omega) (by omega)
    have hw1 : wrap64 ((i : Int) + 1) = ((i + 1 : Nat) : Int) := by rw [wrap_in _ (by omega) (by omega)]; omega
    have hwa : wrap64 ((a : Int) + (i : Int)) = ((a + i : Nat) : Int) := by rw [wrap_in _ (by omega) (by omega)]; omega
    rw [relabel_stands.l0, if_pos (by omega), if_pos (by omega), if_pos (by omega), hw1, hwa, hb]
    split
    · exact ⟨_, rfl⟩
    · rw [if_pos (by omega), if_pos (by omega)]
      split <;> exact ⟨_, rfl⟩
theorem stands_any (p : List S103) (t : ByteArray) (hp : p.length ≤ 100000) (ht : t.size ≤ 100000) (a : Nat) (ha : a ≤ 300000) (k : Nat) (hk : 100010 ≤ k) : ∃ b, relabel_stands.f k p t (a : Int) = some b := by
  obtain ⟨k, rfl⟩ : ∃ n, k = n + 1 := ⟨k - 1, by omega⟩
  have hw : wrap64 ((a : Int) + (p.length : Int)) = ((a + p.length : Nat) : Int) := by rw [wrap_in _ (by omega) (by omega)]; omega
  unfold relabel_stands.f
  rw [if_neg (by omega), hw, relabel_stands.j0]
  by_cases h : a + p.length ≤ t.size
  · rw [if_neg (by simp only [decide_eq_true_eq]; omega)]
    exact stands_ends p t hp ht a h p.length k 0 (by omega) (by omega)
  · rw [if_pos (by rw [decide_eq_true_eq]; omega)]
    exact ⟨_, rfl⟩
theorem find_any {β : Type} (st : List β → Int → Option Bool) (p : List β) (M : Nat) (hs : ∀ a : Nat, a ≤ M → ∃ b, st p (a : Int) = some b) : ∀ (n a : Nat), a + n ≤ M → ∃ r, findF st p n a = some r ∧ a ≤ r ∧ r ≤ a + n
  | 0, a, h => ⟨a, rfl, Nat.le_refl _, Nat.le_refl _⟩
  | n + 1, a, h => by
    obtain ⟨b, hb⟩ := hs a (by omega)
    unfold findF
    rw [hb, Option.bind_some]
    cases b with
    | true => exact ⟨a, rfl, Nat.le_refl _, by omega⟩
    | false =>
      obtain ⟨r, h1, h2, h3⟩ := find_any st p M hs n (a + 1) (by omega)
      rw [if_neg (by simp)]
      exact ⟨r, h1, by omega, by omega⟩
theorem rest_any {β : Type} (st : List β → Int → Option Bool) (t : ByteArray) (ht : t.size ≤ 100000) : ∀ (ps : List (List β)) (a : Nat) (took : List ByteArray), (∀ p ∈ ps, p.length ≤ 100000 ∧ ∀ a : Nat, a ≤ 300000 → ∃ b, st p (a : Int) = some b) → a ≤ 200000 → (∀ x ∈ took, x.size ≤ t.size) →
    ∃ r b, restF st t ps a took = some (r, b) ∧ ∀ x ∈ r, x.size ≤ t.size
  | [], a, took, hp, ha, hx => ⟨_, _, rfl, hx⟩
  | p :: ps, a, took, hp, ha, hx => by
    obtain ⟨hp1, hp2⟩ := hp p (by simp)
    have hb0 : (if ps = [] then max a (t.size - p.length) else a) ≤ 200000 := by split <;> omega
    unfold restF
    generalize (if ps = [] then max a (t.size - p.length) else a) = b0 at *
    obtain ⟨r, h1, h2, h3⟩ := find_any st p 300000 hp2 (t.size + 1 - b0) b0 (by omega)
    rw [h1, Option.bind_some]
    by_cases hlt : t.size < r
    · rw [if_pos hlt]
      exact ⟨_, _, rfl, by simp⟩
    · rw [if_neg hlt]
      refine rest_any st t ht ps (r + p.length) _ (fun q hq => hp q (by simp [hq])) (by omega) fun x hm => ?_
      rcases List.mem_append.1 hm with h | h
      · exact hx x h
      · obtain rfl := List.mem_singleton.1 h
        rw [ByteArray.size_extract]
        omega
theorem match_any (pat t : ByteArray) (h1 : pat.size ≤ 99999) (h2 : t.size ≤ 100000) (k : Nat) (hk : 200000 ≤ k) : ∃ took b, relabel_Match.f k pat t = some (took, b) ∧ ∀ x ∈ took, x.size ≤ t.size := by
  obtain ⟨ps, b, hp, hS, hm⟩ := pieces_f pat (by omega) k (by omega)
  have hst : ∀ p ∈ ps, p.length ≤ 100000 ∧ ∀ a : Nat, a ≤ 300000 → ∃ b, relabel_stands.f k p t (a : Int) = some b := fun p hx => by
    have hl := hS.2 p hx
    exact ⟨by omega, fun a ha => stands_any p t (by omega) h2 a ha k (by omega)⟩
  unfold relabel_Match.f
  rw [hp, Option.bind_some, if_pos ⟨by omega, by show ps.length ≤ _; omega, fun p hx => by have := hS.2 p hx; omega⟩]
  show ∃ took c, matchF (fun p a => relabel_stands.f k p t a) t ps b = some (took, c) ∧ _
  unfold matchF
  cases b with
  | false => exact ⟨_, _, rfl, by simp⟩
  | true =>
    rw [if_neg (by simp)]
    cases ps with
    | nil =>
      exfalso
      cases ho : okPat pat with
      | none => rw [ho] at hm; cases hm
      | some n =>
        rw [ho] at hm
        have h3 : (0 : Nat) = n + 1 := hm.2.1
        omega
    | cons p0 r =>
      obtain ⟨hl0, hs0⟩ := hst p0 (by simp)
      obtain ⟨c, hc⟩ := hs0 0 (by omega)
      show ∃ took c, ((relabel_stands.f k p0 t 0).bind fun b => if b = false then some ([], false) else if r = [] ∧ p0.length ≠ t.size then some ([], false) else restF (fun p a => relabel_stands.f k p t a) t r p0.length []) = some (took, c) ∧ _
      rw [show relabel_stands.f k p0 t 0 = some c from hc, Option.bind_some]
      cases c with
      | false => exact ⟨_, _, rfl, by simp⟩
      | true =>
        rw [if_neg (by simp)]
        split
        · exact ⟨_, _, rfl, by simp⟩
        · exact rest_any (fun p a => relabel_stands.f k p t a) t h2 r p0.length [] (fun p hx => hst p (by simp [hx])) (by omega) (by simp)
theorem fill_len (took : List ByteArray) (M : Nat) (hM : ∀ x ∈ took, x.size ≤ M) : ∀ (n : Nat) (l m : List UInt8), l.length ≤ n → fillL took l = some m → m.length ≤ l.length * (M + 1)
  | _, [], m, _, e => by
    rw [fillL] at e
    obtain rfl := Option.some.inj e
    simp
  | 0, c :: r, m, hn, e => by simp at hn
  | n + 1, c :: r, m, hn, e => by
    simp only [List.length_cons] at hn
    by_cases hc : c = 36
    · subst hc
      cases r with
      | nil => rw [fill_end] at e; cases e
      | cons d r =>
        simp only [List.length_cons] at hn
        by_cases hd : d = 36
        · subst hd
          rw [fill_dollar] at e
          obtain ⟨m', hm', rfl⟩ := Option.map_eq_some_iff.1 e
          have := fill_len took M hM n r m' (by omega) hm'
          simp only [List.length_cons, Nat.succ_mul]
          omega
        · by_cases hb : d.toNat < 49 ∨ 57 < d.toNat ∨ took.length < d.toNat - 48
          · rw [fill_bad _ _ _ hd hb] at e; cases e
          · rw [fill_took _ _ _ hd hb] at e
            obtain ⟨m', hm', rfl⟩ := Option.map_eq_some_iff.1 e
            have h1 := fill_len took M hM n r m' (by omega) hm'
            have hin : d.toNat - 49 < took.length := by omega
            have h2 : (took.getD (d.toNat - 49) ByteArray.empty).data.toList.length ≤ M := by
              rw [List.getD_eq_getElem?_getD, List.getElem?_eq_getElem hin, Option.getD_some, data_len0]
              exact hM _ (List.getElem_mem hin)
            simp only [List.length_cons, List.length_append, Nat.succ_mul]
            omega
    · rw [fill_plain _ _ _ hc] at e
      obtain ⟨m', hm', rfl⟩ := Option.map_eq_some_iff.1 e
      have := fill_len took M hM n r m' (by omega) hm'
      simp only [List.length_cons, Nat.succ_mul]
      omega
where data_len0 (s : ByteArray) : s.data.toList.length = s.size := by simp
theorem fill_size (took : List ByteArray) (tm : ByteArray) (hM : ∀ x ∈ took, x.size ≤ 10000) (ht : tm.size ≤ 2500) : (fillR took tm).1.size ≤ 26000000 := by
  unfold fillR
  cases e : fillL took tm.data.toList with
  | none => show (0 : Nat) ≤ _; omega
  | some m =>
    have h1 := fill_len took 10000 hM _ _ _ (Nat.le_refl _) e
    have h2 : tm.data.toList.length = tm.size := by simp
    rw [h2] at h1
    show m.toArray.size ≤ 26000000
    rw [List.size_toArray]
    have := Nat.mul_le_mul_right 10001 ht
    omega
abbrev mkL : ByteArray → ByteArray → Lb := fun a b => ⟨a, b⟩
theorem nodup_inj {α β : Type} (f : α → β) : ∀ {l : List α}, (l.map f).Nodup → ∀ x ∈ l, ∀ y ∈ l, f x = f y → x = y
  | [], _, x, hx, _, _, _ => by simp at hx
  | a :: l, h, x, hx, y, hy, he => by
    rw [List.map_cons, List.nodup_cons] at h
    rcases List.mem_cons.1 hx with hx1 | hx2
    · rcases List.mem_cons.1 hy with hy1 | hy2
      · rw [hx1, hy1]
      · exact absurd (List.mem_map.2 ⟨y, hy2, by rw [← he, hx1]⟩) h.1
    · rcases List.mem_cons.1 hy with hy1 | hy2
      · exact absurd (List.mem_map.2 ⟨x, hx2, by rw [he, hy1]⟩) h.1
      · exact nodup_inj f h.2 x hx2 y hy2 he
theorem value_perm (m : ByteArray) {l l2 : List Lb} (hp : l2.Perm l) (hn : (l.map nmL).Nodup) (b : ByteArray) : valueF nmL vlL m l2 b = valueF nmL vlL m l b := by
  unfold valueF
  have key : l2.find? (fun x => decide (nmL x = b)) = l.find? (fun x => decide (nmL x = b)) := by
    cases h : l.find? (fun x => decide (nmL x = b)) with
    | none => exact List.find?_eq_none.2 fun y hy => List.find?_eq_none.1 h y (hp.mem_iff.1 hy)
    | some x =>
      have hx := List.mem_of_find?_eq_some h
      have hx1 : nmL x = b := of_decide_eq_true (List.find?_some (p := fun x => decide (nmL x = b)) h)
      cases h2 : l2.find? (fun x => decide (nmL x = b)) with
      | none => exact absurd (decide_eq_true hx1) (List.find?_eq_none.1 h2 x (hp.mem_iff.2 hx))
      | some y =>
        have hy := List.mem_of_find?_eq_some h2
        have hy1 : nmL y = b := of_decide_eq_true (List.find?_some (p := fun x => decide (nmL x = b)) h2)
        rw [nodup_inj nmL hn y (hp.mem_iff.1 hy) x hx (hy1.trans hx1.symm)]
  rw [key]
theorem value_size {m : ByteArray} {l : List Lb} (h : Right m l) (b : ByteArray) : (valueF nmL vlL m l b).size ≤ 1024 := by
  have hm := (right_small h).1
  unfold valueF
  split
  · omega
  · cases hf : l.find? (fun x => decide (nmL x = b)) with
    | none => show (0 : Nat) ≤ _; omega
    | some x => exact (right_good h x (List.mem_of_find?_eq_some hf)).2
theorem set_perm (m : ByteArray) {l l2 : List Lb} (hp : l2.Perm l) (b v : ByteArray) : (setF nmL mkL m l2 b v).1 = (setF nmL mkL m l b v).1 ∧ ((setF nmL mkL m l2 b v).2).Perm (setF nmL mkL m l b v).2 := by
  unfold setF
  split
  · exact ⟨rfl, hp⟩
  · exact ⟨rfl, (hp.filter _).append_right _⟩
def Big (m : ByteArray) (l : List Lb) : Prop := m.size ≤ 1000000000 ∧ l.length ≤ 1000000000 ∧ ∀ x ∈ l, x.f0.size ≤ 1000000000
theorem right_big {m : ByteArray} {l : List Lb} (h : Right m l) : Big m l := by
  obtain ⟨h1, h2, h3⟩ := right_small h
  exact ⟨by omega, by omega, fun x hx => by have := (h3 x hx).1; omega⟩
theorem one_big (g : Lb → Bool) (k : Int) (into x : ByteArray) (is : Bool) {m : ByteArray} {l : List Lb} (h : Right m l) (hi : into.size ≤ 2500) (hx : x.size ≤ 26000000) : Big (oneF nmL mkL g k into x is m l).1 (oneF nmL mkL g k into x is m l).2.1 := by
  have hb := right_big h
  obtain ⟨g1, g2, g3⟩ := right_small h
  have hf : ∀ q : Lb → Bool, Big m (l.filter q) := fun q => ⟨hb.1, by have := List.length_filter_le q l; omega, fun x hx => hb.2.2 x (List.mem_filter.1 hx).1⟩
  unfold oneF
  split
  · exact hb
  · split
    · exact hb
    · split
      · cases is with
        | false => exact hb
        | true =>
          show Big (setF nmL mkL m l into x).1 (setF nmL mkL m l into x).2
          unfold setF
          split
          · exact ⟨by show x.size ≤ _; omega, hb.2.1, hb.2.2⟩
          · split
            · rw [List.append_nil]
              exact hf _
            · have h2 := hf (fun y => !decide (nmL y = into))
              have hl := List.length_filter_le (fun y => !decide (nmL y = into)) l
              refine ⟨h2.1, by show (_ ++ _ : List Lb).length ≤ _; rw [List.length_append, List.length_singleton]; omega, fun y hy => ?_⟩
              rcases List.mem_append.1 hy with hy | hy
              · exact h2.2.2 y hy
              · rw [List.mem_singleton.1 hy]
                show into.size ≤ _
                omega
      · exact hf _
theorem may_kind {x : S43} (h : mayR x = true) : x.f0 = 1 ∨ x.f0 = 2 ∨ x.f0 = 3 ∨ x.f0 = 4 := by
  unfold mayR mayB at h
  cases ho : okPat x.f2 with
  | none => rw [ho] at h; cases h
  | some n =>
    rw [ho] at h
    have h2 : restB n x.f0 x.f1 x.f3 x.f4 = true := h
    unfold restB at h2
    by_cases h1 : x.f0 = 1 ∨ x.f0 = 2
    · rcases h1 with h1 | h1
      · exact Or.inl h1
      · exact Or.inr (Or.inl h1)
    · rw [if_neg h1] at h2
      by_cases h3 : x.f0 = 3
      · exact Or.inr (Or.inr (Or.inl h3))
      · rw [if_neg h3] at h2
        by_cases h4 : x.f0 = 4
        · exact Or.inr (Or.inr (Or.inr h4))
        · rw [if_neg h4] at h2
          cases h2
theorem name_right {m s : ByteArray} {l : List Lb} (h : nameF m l = (s, 0)) : Right m l := by
  by_cases hr : Right m l
  · exact hr
  · rw [nameF_not hr] at h
    have : (5 : Int) = 0 := congrArg Prod.snd h
    omega
abbrev GoK (k : Nat) := goF (relabel_Apply.step k) (label_Name.f k)
theorem good_rules {l : List S43} (h : l.all mayR = true) (hS : ∀ x ∈ l, SmallR x) : ∀ x ∈ l, mayR x = true ∧ SmallR x := fun x hx => ⟨List.all_eq_true.1 h x hx, hS x hx⟩
theorem apply_bad_name (k : Nat) (hk : 200000 ≤ k) (l : List S43) (hl : ∀ x ∈ l, mayR x = true ∧ SmallR x) (s : ByteArray) (hp : label_Parse.f k s = some (⟨#[]⟩, [], 5)) : relabel_Apply.f k l s = some (⟨#[]⟩, false, 5) := by
  unfold relabel_Apply.f
  rw [mays_f k (by omega) l (fun x hx => (hl x hx).2), Option.bind_some, if_pos (List.all_eq_true.2 fun x hx => (hl x hx).1), hp, Option.bind_some, if_neg (by decide)]
theorem apply_name (k : Nat) (hk : 200000 ≤ k) (l : List S43) (hll : l.length ≤ 1000) (hl : ∀ x ∈ l, mayR x = true ∧ SmallR x) (s m : ByteArray) (ls : List Lb) (hp : label_Parse.f k s = some (m, ls, 0)) : relabel_Apply.f k l s = GoK k l m ls s := by
  unfold relabel_Apply.f
  rw [mays_f k (by omega) l (fun x hx => (hl x hx).2), Option.bind_some, if_pos (List.all_eq_true.2 fun x hx => (hl x hx).1), hp, Option.bind_some, if_pos rfl, if_pos (by omega)]
end Go.Proofs.YtcikjeiebpmmcaaGreat.PureMch
