/- A text of this claim, pruned by a program of the session (prune.py) to what the theorem rests on. -/
import Derived.Test.YtcikjeiebpmmcaaGreatQyPMchx0
import Derived.Test.YtcikjeiebpmmcaaGreatQyPMchx1
import Derived.Test.YtcikjeiebpmmcaaGreatQyPMchx2
import Derived.Test.YtcikjeiebpmmcaaGreatQyPMchx3
import Derived.Test.YtcikjeiebpmmcaaGreatQyPMchx4
import Derived.Test.YtcikjeiebpmmcaaGreatQyPMchx5
import Derived.Test.YtcikjeiebpmmcaaGreatQyPMchx6
import Derived.Test.YtcikjeiebpmmcaaGreatQyPMchx7
import Derived.Test.YtcikjeiebpmmcaaGreatQyPMchx8
import Derived.Test.YtcikjeiebpmmcaaGreatQyPMchx9
import Derived.Test.YtcikjeiebpmmcaaGreatQyPMchx10
import Derived.Test.YtcikjeiebpmmcaaGreatQyPMchx11
import Derived.Test.YtcikjeiebpmmcaaGreatQyPMchx12
import Derived.Test.YtcikjeiebpmmcaaGreatQyPMchx13
import Derived.Test.YtcikjeiebpmmcaaGreatQyPMchx14
import Derived.Test.YtcikjeiebpmmcaaGreatQyPMchx15
import Derived.Test.YtcikjeiebpmmcaaGreatQyPMchx16
import Derived.Test.YtcikjeiebpmmcaaGreatQyPMchx17
import Derived.Test.YtcikjeiebpmmcaaGreatQyPMchx18
import Derived.Test.YtcikjeiebpmmcaaGreatQyPMchx19
import Derived.Test.YtcikjeiebpmmcaaGreatQyPMchx20
import Derived.Test.YtcikjeiebpmmcaaGreatQyPureMchName
import Derived.Test.YtcikjeiebpmmcaaGreatQyPureMchUne
import Derived.Lib.IndexMore
namespace Go.Proofs.YtcikjeiebpmmcaaGreat.PureMch
open Go.RowKit Go.Proofs.YtcikjeiebpmmcaaGreat Go.Proofs.YtcikjeiebpmmcaaGreat.PMch Go.Proofs.YtcikjeiebpmmcaaGreatW.PrintWords
set_option linter.unusedVariables false
set_option linter.unusedSimpArgs false
theorem index_at (c : UInt8) (t : List UInt8) : ∀ (p r : List UInt8), c ∉ p → Lib.index (p ++ (c :: t) ++ r) (c :: t) = (p.length : Int)
  | [], r, _ => by
    have h : (c :: t).isPrefixOf (([] : List UInt8) ++ (c :: t) ++ r) = true := by
      rw [List.isPrefixOf_iff_prefix]
      exact List.prefix_append _ _
    rw [List.nil_append] at *
    show Lib.index (c :: (t ++ r)) (c :: t) = 0
    unfold Lib.index
    rw [if_pos (show (c :: t).isPrefixOf (c :: (t ++ r)) = true from h)]
  | b :: p, r, h => by
    have hb : (c == b) = false := by
      rw [beq_eq_false_iff_ne]
      exact fun e => h (by simp [e])
    have ih := index_at c t p r (fun hm => h (by simp [hm]))
    show Lib.index (b :: (p ++ (c :: t) ++ r)) (c :: t) = _
    unfold Lib.index
    rw [if_neg (by simp [List.isPrefixOf, hb]), ih]
    have : ((p.length : Int) == -1) = false := by rw [beq_eq_false_iff_ne]; omega
    rw [this]
    simp
theorem index_not (c : UInt8) (t : List UInt8) : ∀ (p : List UInt8), c ∉ p → Lib.index p (c :: t) = -1
  | [], _ => rfl
  | b :: p, h => by
    have hb : (c == b) = false := by
      rw [beq_eq_false_iff_ne]
      exact fun e => h (by simp [e])
    have ih := index_not c t p (fun hm => h (by simp [hm]))
    unfold Lib.index
    rw [if_neg (by simp [List.isPrefixOf, hb]), ih]
    rfl
theorem cut_at (c : UInt8) (t p r : List UInt8) (h : c ∉ p) : Lib.cut (p ++ (c :: t) ++ r) (c :: t) = (p, r, true) := by
  unfold Lib.cut
  rw [index_at c t p r h, if_pos (by omega)]
  simp only [Int.toNat_natCast]
  have e1 : (p ++ (c :: t) ++ r).take p.length = p := by rw [List.append_assoc, List.take_left]
  have e2 : (p ++ (c :: t) ++ r).drop (p.length + (c :: t).length) = r := by rw [show p.length + (c :: t).length = (p ++ (c :: t)).length by simp, List.drop_left]
  rw [e1, e2]
theorem cut_not (c : UInt8) (t p : List UInt8) (h : c ∉ p) : Lib.cut p (c :: t) = (p, [], false) := by
  unfold Lib.cut
  rw [index_not c t p h, if_neg (by omega)]
theorem cut_f (s sep p r : List UInt8) (b : Bool) (hs : s.length ≤ 4000000) (h : Lib.cut s sep = (p, r, b)) (S Sep : ByteArray) (hS : S = ba s) (hSep : Sep = ba sep) : strings_Cut.f S Sep = some (ba p, ba r, b) := by
  subst hS hSep
  unfold strings_Cut.f
  rw [if_pos (by rw [size_ba]; omega), show (ba s).data.toList = s from bl_ba s, show (ba sep).data.toList = sep from bl_ba sep, h]
  rfl
theorem okFrom_at (s : ByteArray) (more : Int) : ∀ (n i : Nat), okFrom s more n i = true → ∀ t, i ≤ t → t < i + n → okByte more (bt s (t : Int)) (t == 0) = true
  | 0, i, _, t, h1, h2 => by omega
  | n + 1, i, h, t, h1, h2 => by
    rw [okFrom, Bool.and_eq_true] at h
    rcases Nat.eq_or_lt_of_le h1 with rfl | h3
    · exact h.1
    · exact okFrom_at s more n (i + 1) h.2 t (by omega) (by omega)
theorem named_bytes (s : ByteArray) (more : Int) (h : namedB s more = true) (c : UInt8) (hc : c ∈ bl s) : ∃ z, okByte more (c.toNat : Int) z = true := by
  unfold namedB at h
  rw [Bool.and_eq_true] at h
  obtain ⟨t, ht, rfl⟩ := List.getElem_of_mem hc
  have hts : t < s.size := by rwa [bl_length] at ht
  have := okFrom_at s more s.size 0 h.1 t (Nat.zero_le _) (by omega)
  rw [bt_get s t hts] at this
  exact ⟨_, this⟩
theorem named_size (s : ByteArray) (more : Int) (h : namedB s more = true) : 1 ≤ s.size ∧ s.size ≤ 200 := by
  unfold namedB at h
  simp only [Bool.and_eq_true, decide_eq_true_eq] at h
  exact h.2
theorem metric_no (s : ByteArray) (h : namedB s 58 = true) : (123 : UInt8) ∉ bl s := by
  intro hm
  obtain ⟨z, hz⟩ := named_bytes s 58 h 123 hm
  cases z <;> revert hz <;> decide
theorem word_no (s : ByteArray) (h : namedB s 95 = true) : (61 : UInt8) ∉ bl s := by
  intro hm
  obtain ⟨z, hz⟩ := named_bytes s 95 h 61 hm
  cases z <;> revert hz <;> decide
theorem wrap_one (n : Nat) (h : n ≤ 4000000) : wrap64 ((n : Int) + 1) = ((n + 1 : Nat) : Int) := by rw [wrap_of] <;> omega
theorem wrap_two (n : Nat) (h : n ≤ 4000000) : wrap64 (((n + 1 : Nat) : Int) + 1) = ((n + 2 : Nat) : Int) := by rw [wrap_of] <;> omega
theorem bt_ba (l : List UInt8) (i : Nat) (h : i < l.length) : bt (ba l) (i : Int) = ((l[i]).toNat : Int) := by
  rw [bt_get (ba l) i (by rw [size_ba]; exact h)]
  simp [ba]
theorem extract_ba (l : List UInt8) (i j : Nat) : (ba l).extract i j = ba ((l.take j).drop i) := by
  apply eq_ba
  simp [bl, ba, ByteArray.data_extract, List.extract_eq_take_drop, List.take_drop]
  by_cases h : i ≤ j
  · rw [show i + (j - i) = j by omega]
  · rw [List.drop_of_length_le (by rw [List.length_take]; omega), List.drop_of_length_le (by rw [List.length_take]; omega)]
theorem esc_cons (c : UInt8) (v : List UInt8) : (c :: v).flatMap escByte = escByte c ++ v.flatMap escByte := List.flatMap_cons
theorem value_go (v r : List UInt8) (hv : (v.flatMap escByte).length ≤ 20000) (hr : r.length ≤ 2000000) : ∀ (w d : List UInt8) (k : Nat), v = d ++ w → w.length + 50000 ≤ k →
    label_value.l0 k (ba (v.flatMap escByte ++ [34] ++ r)) (((d.flatMap escByte).length : Nat) : Int) = some (ba v, ba r, true) := by
  intro w
  induction w with
  | nil =>
    intro d k hd hk
    obtain ⟨k, rfl⟩ : ∃ j, k = j + 1 := ⟨k - 1, by omega⟩
    rw [List.append_nil] at hd
    subst hd
    generalize hE : v.flatMap escByte = E at *
    have hsz : (ba (E ++ [34] ++ r)).size = E.length + 1 + r.length := by rw [size_ba]; simp; omega
    have hb : bt (ba (E ++ [34] ++ r)) ((E.length : Nat) : Int) = 34 := by
      have hl : E.length < (E ++ [34] ++ r).length := by simp only [List.length_append, List.length_cons, List.length_nil]; omega
      rw [bt_ba _ _ hl]
      have : (E ++ [34] ++ r)[E.length]'hl = 34 := by simp
      rw [this]
      rfl
    have hw : wrap64 ((E.length : Int) + 1) = ((E.length + 1 : Nat) : Int) := by rw [wrap_of] <;> omega
    have hx : (ba (E ++ [34] ++ r)).extract 0 (E.length : Int).toNat = ba E := by
      rw [extract_ba]
      congr 1
      simp
    have hy : (ba (E ++ [34] ++ r)).extract ((E.length + 1 : Nat) : Int).toNat (ba (E ++ [34] ++ r)).size = ba r := by
      rw [extract_ba, size_ba]
      congr 1
      rw [List.take_of_length_le (Nat.le_refl _), Int.toNat_natCast, show E.length + 1 = (E ++ [34]).length by simp, List.drop_left]
    have hU : label_Unescape.f k (ba E) = some (ba v, true) := by
      rw [unescape_f k (ba E) (by rw [size_ba]; omega) (by rw [size_ba]; omega), show (ba E).data.toList = E from bl_ba E, ← hE]
      simp [unescR, unesc_esc, ba]
    rw [label_value.l0, if_pos (by omega), if_pos (by omega), hb, if_neg (by decide), if_pos rfl, if_pos (by omega), hx, hU, Option.bind_some, hw, if_pos (by omega), if_pos (by omega), hy]
  | cons c w ih =>
    intro d k hd hk
    obtain ⟨k, rfl⟩ : ∃ j, k = j + 1 := ⟨k - 1, by omega⟩
    simp only [List.length_cons] at hk
    have hd2 : v = (d ++ [c]) ++ w := by rw [hd]; simp
    have ih' := ih (d ++ [c]) k hd2 (by omega)
    have hsplit : v.flatMap escByte ++ [34] ++ r = d.flatMap escByte ++ (escByte c ++ (w.flatMap escByte ++ [34] ++ r)) := by
      rw [hd, List.flatMap_append, esc_cons]
      simp
    have hlen : (v.flatMap escByte).length = (d.flatMap escByte).length + ((escByte c).length + (w.flatMap escByte).length) := by
      rw [hd, List.flatMap_append, esc_cons, List.length_append, List.length_append]
    have hd3 : ((d ++ [c]).flatMap escByte).length = (d.flatMap escByte).length + (escByte c).length := by
      rw [List.flatMap_append, List.length_append]
      simp
    rw [hd3] at ih'
    have hsz : (ba (v.flatMap escByte ++ [34] ++ r)).size = (v.flatMap escByte).length + 1 + r.length := by rw [size_ba]; simp; omega
    clear ih
    generalize hD : d.flatMap escByte = D at *
    generalize hV : v.flatMap escByte = V at *
    generalize hWf : w.flatMap escByte = Wf at *
    clear hD hV hWf hd hd2 hd3
    have hone : 1 ≤ (escByte c).length := by unfold escByte; split <;> (try split) <;> simp
    have hcases : (escByte c = [92, c] ∧ (c = 92 ∨ c = 34)) ∨ (escByte c = [92, 110] ∧ c = 10) ∨ (escByte c = [c] ∧ ¬ (c = 92 ∨ c = 34) ∧ ¬ c = 10) := by
      unfold escByte
      by_cases h1 : c = 92 ∨ c = 34
      · exact Or.inl ⟨by rw [if_pos h1], h1⟩
      · by_cases h2 : c = 10
        · exact Or.inr (Or.inl ⟨by rw [if_neg h1, if_pos h2], h2⟩)
        · exact Or.inr (Or.inr ⟨by rw [if_neg h1, if_neg h2], h1, h2⟩)
    generalize escByte c = Ec at *
    have hDl : D.length ≤ 20000 := by omega
    have f1 : ((D.length : Nat) : Int) < ((ba (V ++ [34] ++ r)).size : Int) := by rw [hsz]; omega
    have f2 : (0 : Int) ≤ ((D.length : Nat) : Int) := Int.natCast_nonneg _
    have hDl2 : D.length ≤ 4000000 := by omega
    have hw := wrap_one D.length hDl2
    have hw2 := wrap_two D.length hDl2
    have f3 : D.length < (V ++ [34] ++ r).length := by rw [hsplit, List.length_append, List.length_append]; omega
    have hb : bt (ba (V ++ [34] ++ r)) ((D.length : Nat) : Int) = (((Ec)[0]'hone).toNat : Int) := by
      rw [bt_ba _ _ f3]
      have : (V ++ [34] ++ r)[D.length]'f3 = (Ec)[0]'hone := by
        simp only [hsplit]
        rw [List.getElem_append_right (Nat.le_refl _)]
        simp only [Nat.sub_self]
        rw [List.getElem_append_left hone]
      rw [this]
    rw [label_value.l0, if_pos f1, if_pos f2, hb, hw, hw2]
    have h92 : (((92 : UInt8).toNat : Nat) : Int) = 92 := rfl
    rcases hcases with ⟨e, _⟩ | ⟨e, _⟩ | ⟨e, h1, h2⟩
    · subst e
      rw [show ([92, c] : List UInt8)[0]'hone = 92 from rfl, if_pos h92]
      exact ih'
    · subst e
      rw [show ([92, 110] : List UInt8)[0]'hone = 92 from rfl, if_pos h92]
      exact ih'
    · subst e
      have n92 : ¬ ((c.toNat : Int) = 92) := fun h => h1 (Or.inl (by rw [← byte_iff c 92]; exact h))
      have n34 : ¬ ((c.toNat : Int) = 34) := fun h => h1 (Or.inr (by rw [← byte_iff c 34]; exact h))
      rw [show ([c] : List UInt8)[0]'hone = c from rfl, if_neg n92, if_neg n34]
      exact ih'
theorem value_f (v r : List UInt8) (hv : v.length ≤ 10000) (hr : r.length ≤ 2000000) (k : Nat) (hk : 60000 ≤ k) : label_value.f k (ba (v.flatMap escByte ++ [34] ++ r)) = some (ba v, ba r, true) := by
  have h1 := esc_len v
  exact value_go v r (by omega) hr v [] k rfl (by omega)
def ltext : List Lb → List UInt8
  | [] => []
  | [x] => one x ++ [125]
  | x :: y :: r => one x ++ [44] ++ ltext (y :: r)
theorem ltext_join : ∀ (x : Lb) (r : List Lb), ltext (x :: r) = Lib.join ((x :: r).map one) [44] ++ [125]
  | x, [] => by rw [ltext, List.map_cons, List.map_nil, Lib.join_one]
  | x, y :: r => by
    rw [ltext, ltext_join y r, List.map_cons, List.map_cons, Lib.join_cons, Lib.join_cons]
    simp [Lib.joinTail]
theorem ltext_len : ∀ (l : List Lb), (∀ x ∈ l, x.f0.size ≤ 10000 ∧ x.f1.size ≤ 10000) → (ltext l).length ≤ 30004 * l.length
  | [], _ => by simp [ltext]
  | [x], h => by
    have := one_len x (h x (by simp))
    simp only [ltext, List.length_append, List.length_cons, List.length_nil]
    omega
  | x :: y :: r, h => by
    have h1 := one_len x (h x (by simp))
    have h2 := ltext_len (y :: r) (fun z hz => h z (by simp at hz ⊢; exact Or.inr hz))
    simp only [ltext, List.length_append, List.length_cons, List.length_nil] at h2 ⊢
    omega
theorem labels_go : ∀ (l acc : List Lb) (k : Nat), l ≠ [] → Small (acc ++ l) → (acc ++ l).length ≤ 16 → (∀ x ∈ l, namedB x.f0 95 = true) → 2 * l.length + 70000 ≤ k →
    label_labels.l0 k (ba (ltext l)) acc = some (acc ++ l, true)
  | [], _, _, h, _, _, _, _ => absurd rfl h
  | x :: r, acc, k, _, hs, hl, hn, hk => by
    obtain ⟨k, rfl⟩ : ∃ j, k = j + 2 := ⟨k - 2, by omega⟩
    have hx := hs.2 x (by simp)
    have hxn := word_no x.f0 (hn x (by simp))
    simp only [List.length_append, List.length_cons] at hl
    have hbx : (bl x.f1).length ≤ 10000 := by rw [bl_length]; exact hx.2
    have eta : (⟨ba (bl x.f0), ba (bl x.f1)⟩ : Lb) = x := by rw [ba_bl, ba_bl]
    -- the text: a name, the two bytes, a value between quotes, and what stands behind
    have step : ∀ tail : List UInt8, tail.length ≤ 2000000 → ltext (x :: r) = one x ++ tail →
        label_labels.l0 (k + 2) (ba (ltext (x :: r))) acc = label_labels.j1 (k + 1) acc (ba (bl x.f0)) (ba (bl x.f1)) (ba tail) false := by
      intro tail ht he
      have htext : ltext (x :: r) = bl x.f0 ++ (61 :: [34]) ++ ((bl x.f1).flatMap escByte ++ [34] ++ tail) := by
        rw [he]
        simp [one]
      have hlen : (ltext (x :: r)).length ≤ 4000000 := by
        have := one_len x hx
        rw [he, List.length_append]
        omega
      have hcut := cut_f (ltext (x :: r)) (61 :: [34]) (bl x.f0) ((bl x.f1).flatMap escByte ++ [34] ++ tail) true hlen (by rw [htext]; exact cut_at 61 [34] (bl x.f0) _ hxn) (ba (ltext (x :: r))) (⟨#[61, 34]⟩ : ByteArray) rfl rfl
      rw [label_labels.l0, hcut, Option.bind_some, value_f (bl x.f1) tail hbx ht (k + 1) (by omega), Option.bind_some, if_pos rfl, if_pos rfl]
      rw [show decide ((acc.length : Int) > 16) = false by simp; omega]
    cases r with
    | nil =>
      rw [step [125] (by simp) (by rw [ltext]), label_labels.j1, if_neg (by simp), if_pos (by omega), Option.bind_some, if_pos, eta]
      rw [ByteArray.toList_eq]
      rfl
    | cons y r =>
      have htl := ltext_len (y :: r) (fun z hz => hs.2 z (by simp at hz ⊢; exact Or.inr (Or.inr hz)))
      simp only [List.length_cons] at hl htl hk
      have htl2 : (ltext (y :: r)).length ≤ 1900000 := by
        have : 30004 * (r.length + 1) ≤ 30004 * 16 := Nat.mul_le_mul_left _ (by omega)
        omega
      have hP : strings_HasPrefix.f (ba ([44] ++ ltext (y :: r))) (⟨#[44]⟩ : ByteArray) = some true := by
        have hz : ((⟨#[44]⟩ : ByteArray).size : Int) = 1 := rfl
        have hz2 : ((ba ([44] ++ ltext (y :: r))).size : Int) = 1 + (ltext (y :: r)).length := by rw [size_ba]; simp; omega
        unfold strings_HasPrefix.f stringslite_HasPrefix.f
        rw [hz, hz2, if_pos (by omega), if_pos (by omega), if_pos (by omega), Option.bind_some, extract_ba, ByteArray.toList_eq, ByteArray.toList_eq]
        congr 1
      have hE : (ba ([44] ++ ltext (y :: r))).extract 1 (ba ([44] ++ ltext (y :: r))).size = ba (ltext (y :: r)) := by
        rw [extract_ba, size_ba, List.take_of_length_le (Nat.le_refl _)]
        rfl
      have hne : ¬ (ba ([44] ++ ltext (y :: r))).toList = ([125] : List UInt8) := by
        rw [ByteArray.toList_eq]
        intro h
        have := congrArg List.head? h
        simp [ba] at this
      rw [step ([44] ++ ltext (y :: r)) (by simp; omega) (by rw [ltext, List.append_assoc]), label_labels.j1, if_neg (by simp), if_pos (by omega), Option.bind_some, if_neg hne, hP, Option.bind_some, if_pos rfl, if_pos (by rw [size_ba]; simp; omega), hE, eta]
      have := labels_go (y :: r) (acc ++ [x]) k (by simp) (by simpa using hs) (by simp; omega) (fun z hz => hn z (by simp at hz ⊢; exact Or.inr hz)) (by simp; omega)
      rw [List.append_assoc] at this
      exact this
def Right (a0 : ByteArray) (l : List Lb) : Prop := namedB a0 58 = true ∧ l.length ≤ 16 ∧ l.all goodL = true ∧ (l.map nmL).Nodup
theorem right_perm {a0 : ByteArray} {l l' : List Lb} (hp : l'.Perm l) (h : Right a0 l) : Right a0 l' :=
  ⟨h.1, by have := hp.length_eq; have := h.2.1; omega, by
    rw [List.all_eq_true]
    exact fun x hx => List.all_eq_true.1 h.2.2.1 x (hp.mem_iff.1 hx), (hp.map nmL).nodup_iff.2 h.2.2.2⟩
theorem nameF_right {a0 : ByteArray} {l : List Lb} (h : Right a0 l) : nameF a0 l = (ba (bl a0 ++ render (isort nmL l)), 0) := if_pos h
theorem nameF_not {a0 : ByteArray} {l : List Lb} (h : ¬ Right a0 l) : nameF a0 l = (⟨#[]⟩, 5) := if_neg h
theorem render_len (l : List Lb) (hl : Small l) : (render l).length ≤ 1300002 := by
  cases l with
  | nil => simp [render]
  | cons x r =>
    have := join_len (x :: r) hl
    simp only [render, List.length_append, List.length_cons, List.length_nil]
    omega
theorem parse_name (a0 : ByteArray) (ha : a0.size ≤ 10000) (l : List Lb) (hl : Small l) (hr : Right a0 l) (k : Nat) (hk : 80000 ≤ k) :
    label_Parse.f k (ba (bl a0 ++ render (isort nmL l))) = some (a0, isort nmL l, 0) := by
  have hp := isort_perm nmL l
  have hsS := small_perm hp hl
  have hsR := right_perm hp hr
  have hnF : nameF a0 (isort nmL l) = (ba (bl a0 ++ render (isort nmL l)), 0) := by rw [nameF_perm a0 hp, nameF_right hr]
  have hm := metric_no a0 hr.1
  generalize isort nmL l = s at *
  have hlen := render_len s hsS
  have hblen : (bl a0).length ≤ 10000 := by rw [bl_length]; exact ha
  unfold label_Parse.f
  cases s with
  | nil =>
    have hc := cut_f (bl a0 ++ render []) (123 :: []) (bl a0) [] false (by rw [List.length_append]; omega) (by rw [show bl a0 ++ render [] = bl a0 by simp [render]]; exact cut_not 123 [] (bl a0) hm) (ba (bl a0 ++ render [])) (⟨#[123]⟩ : ByteArray) rfl rfl
    rw [hc, Option.bind_some, if_neg (by simp), ba_bl, labelName_f a0 ha [] hsS k (by omega), Option.bind_some, hnF, if_pos rfl, if_pos rfl]
  | cons x r =>
    have ht : bl a0 ++ render (x :: r) = bl a0 ++ (123 :: []) ++ ltext (x :: r) := by
      rw [ltext_join]
      simp [render]
    have hg : ∀ z ∈ x :: r, namedB z.f0 95 = true := fun z hz => by
      have := List.all_eq_true.1 hsR.2.2.1 z hz
      unfold goodL at this
      rw [Bool.and_eq_true] at this
      exact this.1
    have hc := cut_f (bl a0 ++ render (x :: r)) (123 :: []) (bl a0) (ltext (x :: r)) true (by rw [List.length_append]; omega) (by rw [ht]; exact cut_at 123 [] (bl a0) (ltext (x :: r)) hm) (ba (bl a0 ++ render (x :: r))) (⟨#[123]⟩ : ByteArray) rfl rfl
    have h16 := hsR.2.1
    have hL : label_labels.f k (ba (ltext (x :: r))) = some (x :: r, true) := by
      have := labels_go (x :: r) [] k (by simp) (by simpa using hsS) (by simpa using h16) hg (by omega)
      rw [List.nil_append] at this
      exact this
    rw [hc, Option.bind_some, if_pos rfl, hL, Option.bind_some, if_pos rfl, ba_bl, labelName_f a0 ha (x :: r) hsS k (by omega), Option.bind_some, hnF, if_pos rfl, if_pos rfl]
end Go.Proofs.YtcikjeiebpmmcaaGreat.PureMch
