import Derived.Test.YtapfpnfdpcgpaaaPureLapRp5
import Derived.Test.YtapfpnfdpcgpaaaPureLapMch
/-! What the law of parses computes is true. -/
namespace Go.Proofs.Ytapfpnfdpcgpaaa.PureLap
open Go.RowKit Go.Proofs.Ytapfpnfdpcgpaaa Go.Proofs.Ytapfpnfdpcgpaaa.PLap Go.Proofs.YtapfpnfdpcgpaaaW.PrintWords
set_option linter.unusedVariables false
set_option linter.unusedSimpArgs false
theorem known_4 : odometerlaw03_known.f 4 = some true := by kernel_rfl
theorem known_f : ∀ n, odometerlaw03_known.f (n + 4) = some true
  | 0 => known_4
  | n + 1 => odometerlaw03_known.mono (n + 4) _ (known_f n)
theorem known_ge (k : Nat) (h : 4 ≤ k) : odometerlaw03_known.f k = some true := by
  obtain ⟨n, rfl⟩ : ∃ n, k = n + 4 := ⟨k - 4, by omega⟩
  exact known_f n
theorem small_append {a b : List Lb} (ha : Small a) (hb : Small b) (h : a.length + b.length ≤ 40) : Small (a ++ b) :=
  ⟨by rw [List.length_append]; exact h, fun x hx => (List.mem_append.1 hx).elim (ha.2 x) (hb.2 x)⟩
theorem small_filter {a : List Lb} (p : Lb → Bool) (ha : Small a) : Small (a.filter p) :=
  ⟨Nat.le_trans (List.length_filter_le p a) ha.1, fun x hx => ha.2 x (List.mem_filter.1 hx).1⟩
/-- The labels of what was read are few: sixteen, where there is no error. -/
theorem answer_parts {s : ByteArray} {r : ByteArray × List Lb × Int} (h : Answer s r) : r.1.size ≤ 10000 ∧ Small r.2.1 ∧ r.2.1.length ≤ 16 := by
  rcases h with rfl | ⟨_, h1, h2, h3⟩
  · exact ⟨Nat.zero_le _, small_nil', Nat.zero_le _⟩
  · refine ⟨h1, h2, ?_⟩
    by_cases hr : Right r.1 r.2.1
    · exact hr.2.1
    · rw [nameF_not hr] at h3
      cases h3
theorem rdS_get (xs : List ByteArray) (i : Nat) (h : i < xs.length) : rdOf ByteArray.empty xs (i : Int) = xs[i] := by
  simp [rdOf, List.getD, List.getElem?_eq_getElem h]
/-! Get -/
def getF (l : List Lb) (b : ByteArray) : ByteArray × Bool := match l.find? (fun x => decide (x.f0.toList = b.toList)) with
  | some x => (x.f1, true)
  | none => (⟨#[]⟩, false)
theorem get_go (l : List Lb) (hl : l.length ≤ 40) (b : ByteArray) : ∀ (n k i : Nat), i + n = l.length → n < k → label_Get.l0 k b l (l.length : Int) (i : Int) = some (getF (l.drop i) b)
  | 0, k + 1, i, h, hk => by
    rw [label_Get.l0, if_neg (by omega), List.drop_of_length_le (by omega)]
    rfl
  | n + 1, k + 1, i, h, hk => by
    have hi : i < l.length := by omega
    rw [label_Get.l0, if_pos (by omega), if_pos (by omega), if_pos (by omega), rd_get l i hi, wrap_one i (by omega), List.drop_eq_getElem_cons hi]
    unfold getF
    by_cases he : (l[i]).f0.toList = b.toList
    · rw [if_pos he, List.find?_cons_of_pos (by simpa using he)]
    · rw [if_neg he, List.find?_cons_of_neg (by simpa using he)]
      exact get_go l hl b n k (i + 1) (by omega) (by omega)
theorem refGet_go (l : List Lb) (hl : l.length ≤ 40) (b : ByteArray) : ∀ (n k i : Nat), i + n = l.length → n < k → odometerref03_Get.l0 k b l (i : Int) = some (getF (l.drop i) b)
  | 0, k + 1, i, h, hk => by
    rw [odometerref03_Get.l0, if_neg (by omega), List.drop_of_length_le (by omega)]
    rfl
  | n + 1, k + 1, i, h, hk => by
    have hi : i < l.length := by omega
    rw [odometerref03_Get.l0, if_pos (by omega), if_pos (by omega), rd_get l i hi, wrap_one i (by omega), List.drop_eq_getElem_cons hi]
    unfold getF
    by_cases he : (l[i]).f0.toList = b.toList
    · rw [if_pos he, List.find?_cons_of_pos (by simpa using he)]
    · rw [if_neg he, List.find?_cons_of_neg (by simpa using he)]
      exact refGet_go l hl b n k (i + 1) (by omega) (by omega)
/-! Only -/
def among (by_ : List ByteArray) (x : Lb) : Bool := Lib.containsS by_ x.f0
theorem among_iff (by_ : List ByteArray) (x : Lb) : among by_ x = by_.any fun b => decide (b.toList = x.f0.toList) := by
  unfold among
  rw [Bool.eq_iff_iff, Lib.containsS_iff, List.any_eq_true]
  constructor
  · intro h
    exact ⟨_, h, by simp⟩
  · rintro ⟨b, hb, e⟩
    rwa [← toList_inj (of_decide_eq_true e)]
theorem only_inner (by_ : List ByteArray) (hb : by_.length ≤ 40) (m : ByteArray) (l some_ : List Lb) (hs : some_.length ≤ 40) (i : Nat) (hi : i < l.length) (hl : l.length ≤ 40) (R : ByteArray) (K : Nat)
    (h1 : ∀ k, K ≤ k → among by_ l[i] = true → odometerref03_Only.l0 k by_ m l (some_ ++ [l[i]]) ((i + 1 : Nat) : Int) = some R) (h0 : ∀ k, K ≤ k → among by_ l[i] = false → odometerref03_Only.l0 k by_ m l some_ ((i + 1 : Nat) : Int) = some R) :
    ∀ (n k j : Nat) (f : Bool), j + n = by_.length → n + 1 + K ≤ k → (f || (by_.drop j).any fun b => decide (b.toList = (l[i]).f0.toList)) = among by_ l[i] → odometerref03_Only.l1 k by_ m l some_ (i : Int) f (j : Int) = some R
  | 0, k, j, f, h, hk, hf => by
    obtain ⟨k, rfl⟩ : ∃ q, k = q + 1 := ⟨k - 1, by omega⟩
    rw [List.drop_of_length_le (by omega), List.any_nil, Bool.or_false] at hf
    have eta : ∀ x : Lb, (⟨x.f0, x.f1⟩ : Lb) = x := fun x => rfl
    rw [odometerref03_Only.l1, if_neg (by omega), wrap_one i (by omega)]
    cases f with
    | true =>
      rw [if_pos rfl, if_pos (by omega), if_pos (by omega), if_pos (by omega), rd_get l i hi]
      exact h1 k (by omega) hf.symm
    | false =>
      rw [if_neg (by simp)]
      exact h0 k (by omega) hf.symm
  | n + 1, k, j, f, h, hk, hf => by
    obtain ⟨k, rfl⟩ : ∃ q, k = q + 1 := ⟨k - 1, by omega⟩
    have hj : j < by_.length := by omega
    rw [List.drop_eq_getElem_cons hj, List.any_cons] at hf
    rw [odometerref03_Only.l1, if_pos (by omega), wrap_one j (by omega)]
    cases f with
    | true =>
      rw [if_pos rfl]
      exact only_inner by_ hb m l some_ hs i hi hl R K h1 h0 n k (j + 1) true (by omega) (by omega) (by rw [← hf]; simp)
    | false =>
      rw [if_neg (by simp), if_pos (by omega), if_pos (by omega), if_pos (by omega), rd_get l i hi, rdS_get by_ j hj]
      refine only_inner by_ hb m l some_ hs i hi hl R K h1 h0 n k (j + 1) _ (by omega) (by omega) ?_
      rw [← hf, Bool.false_or]
      congr 1
      rw [Bool.eq_iff_iff]
      simp
theorem only_go (by_ : List ByteArray) (hb : by_.length ≤ 40) (m : ByteArray) (hm : m.size ≤ 10000) (l : List Lb) (hl : Small l) : ∀ (n k i : Nat) (some_ : List Lb), i + n = l.length → some_.length ≤ i → Small (some_ ++ (l.drop i).filter (among by_)) → n * 50 + 50000 ≤ k →
    odometerref03_Only.l0 k by_ m l some_ (i : Int) = some (nameF m (some_ ++ (l.drop i).filter (among by_))).1
  | 0, k, i, some_, h, hi, hs, hk => by
    obtain ⟨k, rfl⟩ : ∃ q, k = q + 1 := ⟨k - 1, by omega⟩
    rw [List.drop_of_length_le (by omega), List.filter_nil, List.append_nil] at hs ⊢
    rw [odometerref03_Only.l0, if_neg (by omega), refName_f m hm some_ hs k (by omega), Option.bind_some]
  | n + 1, k, i, some_, h, hi, hs, hk => by
    obtain ⟨k, rfl⟩ : ∃ q, k = q + 1 := ⟨k - 1, by omega⟩
    have hil : i < l.length := by omega
    have hl1 := hl.1
    rw [List.drop_eq_getElem_cons hil] at hs ⊢
    rw [odometerref03_Only.l0, if_pos (by omega)]
    refine only_inner by_ hb m l some_ (by omega) i hil hl1 _ (n * 50 + 50000) (fun k hk ha => ?_) (fun k hk ha => ?_) by_.length k 0 false (by omega) (Nat.not_lt.1 (fun hno => by omega)) (by rw [List.drop_zero, Bool.false_or, among_iff])
    · rw [List.filter_cons_of_pos ha] at hs ⊢
      have := only_go by_ hb m hm l hl n k (i + 1) (some_ ++ [l[i]]) (by omega) (by rw [List.length_append, List.length_singleton]; omega) (by simpa using hs) hk
      rw [List.append_assoc] at this
      exact this
    · rw [List.filter_cons_of_neg (by rw [ha]; simp)] at hs ⊢
      exact only_go by_ hb m hm l hl n k (i + 1) some_ (by omega) (by omega) hs hk
def ParsesPure : Prop := ∀ (s : ByteArray) (more : List Lb) (by_ : List ByteArray), s.size ≤ 140737488351232 → (∀ y ∈ more, y.f0.size ≤ 140737488351232 ∧ y.f1.size ≤ 140737488351232) → ∃ k, odometerlaw03_LabelParses.f k s more by_ = some true
theorem gets (s : ByteArray) (by_ : List ByteArray) (hb : by_.length ≤ 20) (r : ByteArray × List Lb × Int) (hl : r.2.1.length ≤ 16) (hP : ∀ k, 9200000 ≤ k → label_Parse.f k s = some r ∧ odometerref03_Parse.f k s = some r) :
    ∀ (n k i : Nat), i + n = by_.length → 9200000 + n < k → odometerlaw03_LabelParses.l0 k s by_ (i : Int) = some true
  | 0, k, i, h, hk => by
    obtain ⟨k, rfl⟩ : ∃ q, k = q + 1 := ⟨k - 1, by omega⟩
    rw [odometerlaw03_LabelParses.l0, if_neg (by omega), known_ge k (by omega)]
    rfl
  | n + 1, k, i, h, hk => by
    obtain ⟨k, rfl⟩ : ∃ q, k = q + 1 := ⟨k - 1, by omega⟩
    have hi : i < by_.length := by omega
    obtain ⟨p1, p2⟩ := hP k (by omega)
    have g1 : label_Get.f k s by_[i] = some (getF r.2.1 by_[i]) := by
      unfold label_Get.f
      rw [p1, Option.bind_some]
      exact get_go r.2.1 (by omega) by_[i] r.2.1.length k 0 (by omega) (by omega)
    have g2 : odometerref03_Get.f k s by_[i] = some (getF r.2.1 by_[i]) := by
      unfold odometerref03_Get.f
      rw [p2, Option.bind_some]
      exact refGet_go r.2.1 (by omega) by_[i] r.2.1.length k 0 (by omega) (by omega)
    rw [odometerlaw03_LabelParses.l0, if_pos (by omega), if_pos (by omega), rdS_get by_ i hi, g1, Option.bind_some, g2, Option.bind_some, if_pos rfl, if_neg (by simp), wrap_one i (by omega)]
    exact gets s by_ hb r hl hP n k (i + 1) (by omega) (by omega)
theorem LabelParses : ParsesPure := by
  intro s more by_ hs hmore
  refine ⟨9300000, ?_⟩
  unfold odometerlaw03_LabelParses.f
  have out : odometerlaw03_LabelParses.j0 9300000 s more by_ true = some true := by
    rw [odometerlaw03_LabelParses.j0, if_pos rfl, known_ge 9299999 (by omega)]
    rfl
  by_cases h0 : (s.size : Int) > 3000
  · rw [if_pos h0, out]
  rw [if_neg h0]
  rcases much_f more hmore 9300000 (by omega) with h | ⟨h, h20, hsm⟩
  · rw [h, Option.bind_some, if_pos rfl, out]
  rw [h, Option.bind_some, if_neg (by simp)]
  by_cases hby : (by_.length : Int) > 20
  · rw [decide_eq_true hby, out]
  rw [decide_eq_false hby]
  obtain ⟨r, hA, hP⟩ := parse_both s (by omega)
  obtain ⟨hm, hl, h16⟩ := answer_parts hA
  obtain ⟨p1, p2⟩ := hP 9299999 (by omega)
  have hmo : Small more := ⟨by omega, fun y hy => by have := hsm y hy; omega⟩
  have hMay : label_May.f 9299999 s = some (r.2.2 == 0) := by
    unfold label_May.f
    rw [p1, Option.bind_some]
  rw [odometerlaw03_LabelParses.j0, if_neg (by simp), p1, Option.bind_some, p2, Option.bind_some, if_pos rfl, if_pos rfl, same_f r.2.1 (by omega) 9299999 (by omega), Option.bind_some, if_pos rfl, hMay, Option.bind_some, bne_self_eq_false,
    odometerlaw03_LabelParses.j1, if_neg (by simp)]
  obtain ⟨q1, q2⟩ := hP 9299998 (by omega)
  have hW1 : label_With.f 9299998 s more = some (if r.2.2 = 0 then nameF r.1 (r.2.1 ++ more) else (⟨#[]⟩, r.2.2)) := by
    unfold label_With.f
    rw [q1, Option.bind_some]
    by_cases h0 : r.2.2 = 0
    · rw [if_pos h0, if_pos h0, if_pos (by omega), labelName_f r.1 hm _ (small_append hl hmo (by omega)) 9299998 (by omega), Option.bind_some]
    · rw [if_neg h0, if_neg h0]
  have hW2 : odometerref03_With.f 9299998 s more = some (if r.2.2 = 0 then nameF r.1 (r.2.1 ++ more) else (⟨#[]⟩, r.2.2)) := by
    unfold odometerref03_With.f
    rw [q2, Option.bind_some]
    by_cases h0 : r.2.2 = 0
    · rw [if_pos h0, if_pos h0, if_pos (by simp; omega), Option.bind_some, List.nil_append, if_pos (by omega), refName_f r.1 hm _ (small_append hl hmo (by omega)) 9299998 (by omega), Option.bind_some]
    · rw [if_neg h0, if_neg h0]
  have hO1 : label_Only.f 9299998 s by_ = some (if r.2.2 = 0 then (nameF r.1 (r.2.1.filter (among by_))).1 else ⟨#[]⟩) := by
    unfold label_Only.f
    rw [q1, Option.bind_some, if_pos (by omega)]
    by_cases h0 : r.2.2 = 0
    · rw [if_pos h0, if_pos h0]
      rw [show (r.2.1.filter fun y => Lib.containsS by_ y.f0) = r.2.1.filter (among by_) from rfl, labelName_f r.1 hm _ (small_filter _ hl) 9299998 (by omega), Option.bind_some]
    · rw [if_neg h0, if_neg h0]
  have hO2 : odometerref03_Only.f 9299998 s by_ = some (if r.2.2 = 0 then (nameF r.1 (r.2.1.filter (among by_))).1 else ⟨#[]⟩) := by
    unfold odometerref03_Only.f
    rw [q2, Option.bind_some]
    by_cases h0 : r.2.2 = 0
    · rw [if_pos h0, if_pos h0]
      have := only_go by_ (by omega) r.1 hm r.2.1 hl r.2.1.length 9299998 0 [] (by omega) (Nat.zero_le _) (by rw [List.nil_append, List.drop_zero]; exact small_filter _ hl) (by omega)
      rw [List.nil_append, List.drop_zero] at this
      exact this
    · rw [if_neg h0, if_neg h0]
  rw [hW1, Option.bind_some, hW2, Option.bind_some, if_pos rfl, if_pos rfl, hO1, Option.bind_some, hO2, Option.bind_some, bne_self_eq_false, odometerlaw03_LabelParses.j2, if_neg (by simp)]
  exact gets s by_ (by omega) r h16 hP by_.length 9299997 0 (by omega) (by omega)
end Go.Proofs.Ytapfpnfdpcgpaaa.PureLap
