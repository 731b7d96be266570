/- A text of this claim, pruned by a program of the session (prune.py) to what the theorem rests on. -/
import Derived.Test.YtcikjeiebpmmcaaGreatQyPureMchTot
import Derived.Test.YtcikjeiebpmmcaaGreatQyPureMchBoth
import Derived.Test.YtcikjeiebpmmcaaGreatQyPureMchRp5
namespace Go.Proofs.YtcikjeiebpmmcaaGreat.PureMch
open Go.RowKit Go.Proofs.YtcikjeiebpmmcaaGreat Go.Proofs.YtcikjeiebpmmcaaGreat.PMch Go.Proofs.YtcikjeiebpmmcaaGreatW.PrintWords
set_option linter.unusedVariables false
set_option linter.unusedSimpArgs false
def Few (l : List Lb) : Prop := l.length ≤ 40 ∧ ∀ x ∈ l, x.f0.size ≤ 10000
theorem right_few {m : ByteArray} {l : List Lb} (h : Right m l) : Few l := ⟨(right_small h).2.1, fun x hx => ((right_small h).2.2 x hx).1⟩
theorem refName_g (a0 : ByteArray) (ha : a0.size ≤ 30000000) (l : List Lb) (hl : Few l) (k : Nat) (hk : 30000010 ≤ k) : odometerref03_Name.f k a0 l = some (nameF a0 l) := by
  by_cases hr : Right a0 l
  · have hS := right_small hr
    exact refName_f a0 (by omega) l hS.2 k (by omega)
  · obtain ⟨k, rfl⟩ : ∃ j, k = j + 1 := ⟨k - 1, by omega⟩
    have bad : odometerref03_Name.j0 (k + 1) a0 l true = some ((⟨#[]⟩ : ByteArray), 5) := by rw [odometerref03_Name.j0, if_pos rfl]
    rw [nameF_not hr]
    unfold odometerref03_Name.f
    rw [metric_f (k + 1) a0 (by omega) (by omega), Option.bind_some, may_f l hl (k + 1) (by omega)]
    by_cases h1 : namedB a0 58 = true
    · rw [if_pos h1, Option.bind_some, decide_eq_false (fun h2 => hr ⟨h1, h2⟩), Bool.not_false, bad]
    · rw [if_neg h1, bad]
theorem metric_iff (b : ByteArray) : b.toList = ([95, 95, 110, 97, 109, 101, 95, 95] : List UInt8) ↔ b = metricName := by
  constructor
  · intro h
    exact toList_inj (by rw [h, ByteArray.toList_eq]; rfl)
  · rintro rfl
    rw [ByteArray.toList_eq]
    rfl
theorem text_iff (a b : ByteArray) : a.toList = b.toList ↔ a = b := ⟨fun h => toList_inj h, fun h => by rw [h]⟩
theorem empty_iff (a : ByteArray) : a.toList = ([] : List UInt8) ↔ a = ⟨#[]⟩ := by
  constructor
  · intro h
    exact toList_inj (by rw [h, ByteArray.toList_eq])
  · rintro rfl
    rw [ByteArray.toList_eq]
theorem refParse_at {m n : ByteArray} {l : List Lb} (hn : nameF m l = (n, 0)) (k : Nat) (hk : 500000 ≤ k) : odometerref03_Parse.f k n = some (m, isort nmL l, 0) := by
  have hr := name_right hn
  have hS := right_small hr
  rw [nameF_right hr] at hn
  have e : ba (bl m ++ render (isort nmL l)) = n := congrArg Prod.fst hn
  rw [← e]
  exact refParse_name m (by omega) l hS.2 hr k hk
theorem get_l0 (b : ByteArray) (l : List Lb) (hl : l.length ≤ 1000) : ∀ (n k i : Nat), i + n = l.length → n < k → ∃ t, odometerref03_Get.l0 k b l (i : Int) = some ((match (l.drop i).find? (fun x => decide (nmL x = b)) with | some x => vlL x | none => (⟨#[]⟩ : ByteArray)), t)
  | 0, k, i, h, hk => by
    obtain ⟨k, rfl⟩ : ∃ j, k = j + 1 := ⟨k - 1, by omega⟩
    rw [odometerref03_Get.l0, if_neg (by omega), List.drop_of_length_le (by omega)]
    exact ⟨_, rfl⟩
  | n + 1, k, i, h, hk => by
    obtain ⟨k, rfl⟩ : ∃ j, k = j + 1 := ⟨k - 1, by omega⟩
    have hi : i < l.length := by omega
    have hw : wrap64 ((i : Int) + 1) = ((i + 1 : Nat) : Int) := by rw [wrap_in _ (by omega) (by omega)]; omega
    rw [odometerref03_Get.l0, if_pos (by omega), if_pos (by omega), rd_get l i hi, hw, List.drop_eq_getElem_cons hi, List.find?_cons]
    by_cases he : (l[i]).f0 = b
    · rw [if_pos ((text_iff _ _).2 he), show decide (nmL l[i] = b) = true from decide_eq_true he]
      exact ⟨_, rfl⟩
    · rw [if_neg (fun e => he ((text_iff _ _).1 e)), show decide (nmL l[i] = b) = false from decide_eq_false he]
      exact get_l0 b l hl n k (i + 1) (by omega) (by omega)
theorem sorted_len {m n : ByteArray} {l : List Lb} (hn : nameF m l = (n, 0)) : (isort nmL l).length ≤ 16 := by
  have := (isort_perm nmL l).length_eq
  have := (name_right hn).2.1
  omega
theorem refValue_f {m n : ByteArray} {l : List Lb} (hn : nameF m l = (n, 0)) (b : ByteArray) (k : Nat) (hk : 500000 ≤ k) : odometerref29_Value.f k n b = some (valueF nmL vlL m l b) := by
  have hr := name_right hn
  have hlen := sorted_len hn
  rw [← value_perm m (isort_perm nmL l) hr.2.2.2 b]
  unfold odometerref29_Value.f odometerref03_Get.f valueF
  rw [refParse_at hn k hk, Option.bind_some]
  by_cases hb : b = metricName
  · rw [if_pos ((metric_iff b).2 hb), if_pos hb]
  · obtain ⟨t, ht⟩ := get_l0 b (isort nmL l) (by omega) (isort nmL l).length k 0 (by omega) (by omega)
    rw [show ((0 : Nat) : Int) = 0 from rfl, List.drop_zero] at ht
    rw [if_neg (fun e => hb ((metric_iff b).1 e)), if_neg hb, Option.bind_some, ht, Option.bind_some]
    cases (isort nmL l).find? (fun x => decide (nmL x = b)) <;> rfl
theorem set_l0 (into v m : ByteArray) (l : List Lb) (hl : l.length ≤ 1000) (R : Option (ByteArray × Int)) (k0 : Nat)
    (hR : ∀ k, k0 ≤ k → odometerref03_Name.f k m ((l.filter fun x => !decide (nmL x = into)) ++ (if v = ⟨#[]⟩ then [] else [mkL into v])) = R) :
    ∀ (n k i : Nat) (acc : List Lb), i + n = l.length → n + k0 + 1 ≤ k → acc.length ≤ i → acc = (l.take i).filter (fun x => !decide (nmL x = into)) → odometerref29_set.l0 k into v m l acc (i : Int) = R
  | 0, k, i, acc, h, hk, ha, hacc => by
    obtain ⟨k, rfl⟩ : ∃ j, k = j + 1 := ⟨k - 1, by omega⟩
    have hR1 := hR k (by omega)
    rw [List.take_of_length_le (by omega)] at hacc
    rw [← hacc] at hR1
    have eta : ∀ o : Option (ByteArray × Int), (o.bind fun t => some (t.1, t.2)) = o := fun o => by cases o <;> rfl
    rw [odometerref29_set.l0, if_neg (by omega), eta, eta]
    by_cases hv : v = ⟨#[]⟩
    · rw [if_pos ((empty_iff v).2 hv)]
      rw [if_pos hv, List.append_nil] at hR1
      exact hR1
    · rw [if_neg (fun e => hv ((empty_iff v).1 e)), if_pos (by omega)]
      rw [if_neg hv] at hR1
      exact hR1
  | n + 1, k, i, acc, h, hk, ha, hacc => by
    obtain ⟨k, rfl⟩ : ∃ j, k = j + 1 := ⟨k - 1, by omega⟩
    have hi : i < l.length := by omega
    have hw : wrap64 ((i : Int) + 1) = ((i + 1 : Nat) : Int) := by rw [wrap_in _ (by omega) (by omega)]; omega
    have hstep : (l.take (i + 1)).filter (fun x => !decide (nmL x = into)) = acc ++ (if l[i].f0 = into then [] else [l[i]]) := by
      rw [List.take_succ_eq_append_getElem hi, List.filter_append, ← hacc]
      congr 1
      by_cases he : l[i].f0 = into
      · rw [if_pos he, List.filter_cons, if_neg (by simp only [show decide (nmL l[i] = into) = true from decide_eq_true he]; decide)]
        rfl
      · rw [if_neg he, List.filter_cons, if_pos (by simp only [show decide (nmL l[i] = into) = false from decide_eq_false he]; decide)]
        rfl
    rw [odometerref29_set.l0, if_pos (by omega), if_pos (by omega), rd_get l i hi, hw]
    by_cases he : l[i].f0 = into
    · rw [if_pos ((text_iff _ _).2 he)]
      rw [if_pos he, List.append_nil] at hstep
      exact set_l0 into v m l hl R k0 hR n k (i + 1) acc (by omega) (by omega) (by omega) hstep.symm
    · rw [if_neg (fun e => he ((text_iff _ _).1 e)), if_pos (by omega)]
      rw [if_neg he] at hstep
      exact set_l0 into v m l hl R k0 hR n k (i + 1) _ (by omega) (by omega) (by rw [List.length_append, List.length_singleton]; omega) hstep.symm
theorem set_few {m : ByteArray} {l : List Lb} (h : Right m l) (into v : ByteArray) (hi : into.size ≤ 10000) : Few ((l.filter fun x => !decide (nmL x = into)) ++ (if v = ⟨#[]⟩ then [] else [mkL into v])) := by
  have hf := right_few h
  have h16 := h.2.1
  have hle := List.length_filter_le (fun x : Lb => !decide (nmL x = into)) l
  refine ⟨?_, fun x hx => ?_⟩
  · rw [List.length_append]
    split <;> simp <;> omega
  · rcases List.mem_append.1 hx with hx | hx
    · exact hf.2 x (List.mem_filter.1 hx).1
    · split at hx
      · simp at hx
      · rw [List.mem_singleton.1 hx]
        exact hi
theorem refSet_f {m n : ByteArray} {l : List Lb} (hn : nameF m l = (n, 0)) (into v : ByteArray) (hi : into.size ≤ 10000) (hv : v.size ≤ 30000000) (k : Nat) (hk : 31000000 ≤ k) :
    odometerref29_set.f k n into v = some (nameF (setF nmL mkL m l into v).1 (setF nmL mkL m l into v).2) := by
  have hr := name_right hn
  have hp := isort_perm nmL l
  have hrs := right_perm hp hr
  have hlen := sorted_len hn
  have hm := (right_small hr).1
  obtain ⟨e1, e2⟩ := set_perm m hp into v
  rw [← e1, ← nameF_perm _ e2, e1, ← e1]
  have eta : ∀ o : Option (ByteArray × Int), (o.bind fun t => some (t.1, t.2)) = o := fun o => by cases o <;> rfl
  unfold odometerref29_set.f setF
  rw [refParse_at hn k (by omega), Option.bind_some]
  by_cases hb : into = metricName
  · rw [if_pos ((metric_iff into).2 hb), if_pos hb, eta]
    exact refName_g v hv _ (right_few hrs) k (by omega)
  · rw [if_neg (fun e => hb ((metric_iff into).1 e)), if_neg hb]
    exact set_l0 into v m (isort nmL l) (by omega) _ 30000010 (fun k hk => refName_g m (by omega) _ (set_few hrs into v hi) k hk) (isort nmL l).length k 0 [] (by omega) (by omega) (by simp) (by simp)
theorem rule_l0 (m : ByteArray) (l : List Lb) (hl : l.length ≤ 1000) (kind : Int) (lab pat tm into : ByteArray) (hp : pat.size ≤ 100000) (hx : ∀ x ∈ l, x.f0.size ≤ 100000) (g : Lb → Bool) (K : Nat) (hg : ∀ k, K ≤ k → ∀ x ∈ l, ∃ r, odometerref29_Match.f k pat x.f0 = some (r, g x))
    (R : ByteArray × Int) (hR : ∀ k, K ≤ k → odometerref03_Name.f k m (l.filter fun x => !g x) = some R) :
    ∀ (n k i : Nat) (acc : List Lb), i + n = l.length → n + K + 1 ≤ k → acc.length ≤ i → acc = (l.take i).filter (fun x => !g x) → odometerref29_Rule.l0 k m l acc (i : Int) kind lab pat tm into = some (R.1, (R.2 == 0), R.2)
  | 0, k, i, acc, h, hk, ha, hacc => by
    obtain ⟨k, rfl⟩ : ∃ j, k = j + 1 := ⟨k - 1, by omega⟩
    have hR1 := hR k (by omega)
    rw [List.take_of_length_le (by omega)] at hacc
    rw [← hacc] at hR1
    rw [odometerref29_Rule.l0, if_neg (by omega), hR1, Option.bind_some]
  | n + 1, k, i, acc, h, hk, ha, hacc => by
    obtain ⟨k, rfl⟩ : ∃ j, k = j + 1 := ⟨k - 1, by omega⟩
    have hi : i < l.length := by omega
    have hw : wrap64 ((i : Int) + 1) = ((i + 1 : Nat) : Int) := by rw [wrap_in _ (by omega) (by omega)]; omega
    obtain ⟨r, hr⟩ := hg k (by omega) l[i] (List.getElem_mem hi)
    rw [odometerref29_Rule.l0, if_pos (by omega), if_pos (by omega), rd_get l i hi, hw, hr, Option.bind_some]
    dsimp only
    cases hb : g l[i] with
    | true =>
      rw [if_pos rfl]
      refine rule_l0 m l hl kind lab pat tm into hp hx g K hg R hR n k (i + 1) acc (by omega) (by omega) (by omega) ?_
      rw [List.take_succ_eq_append_getElem hi, List.filter_append, ← hacc, List.filter_cons, if_neg (by rw [hb]; decide)]
      simp
    | false =>
      rw [if_neg (by decide), if_pos (by omega)]
      refine rule_l0 m l hl kind lab pat tm into hp hx g K hg R hR n k (i + 1) _ (by omega) (by omega) (by rw [List.length_append, List.length_singleton]; omega) ?_
      rw [List.take_succ_eq_append_getElem hi, List.filter_append, ← hacc, List.filter_cons, if_pos (by rw [hb]; decide)]
      rfl
end Go.Proofs.YtcikjeiebpmmcaaGreat.PureMch
