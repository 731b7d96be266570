import Derived.Test.YtapfpnfdpcgpaaaPureBndPar
/-! What the law of bounds computes is true. -/
namespace Go.Proofs.Ytapfpnfdpcgpaaa.PureBnd
open Go.RowKit Go.Proofs.Ytapfpnfdpcgpaaa Go.Proofs.Ytapfpnfdpcgpaaa.PBnd Go.Proofs.YtapfpnfdpcgpaaaW.PrintWords
set_option linter.unusedVariables false
set_option linter.unusedSimpArgs false
theorem known_4 : odometerlaw03_known.f 4 = some true := by kernel_rfl
theorem known_f : ∀ n, odometerlaw03_known.f (n + 4) = some true
  | 0 => known_4
  | n + 1 => odometerlaw03_known.mono (n + 4) _ (known_f n)
theorem known_ge (k : Nat) (h : 4 ≤ k) : odometerlaw03_known.f k = some true := by
  obtain ⟨n, rfl⟩ : ∃ n, k = n + 4 := ⟨k - 4, by omega⟩
  exact known_f n
def rep (c : UInt8) (n : Nat) : ByteArray := ba (List.replicate n c)
theorem rep_size (c : UInt8) (n : Nat) : (rep c n).size = n := by rw [rep, size_ba, List.length_replicate]
theorem more_go (c : UInt8) (m : Nat) (hm : m ≤ 4000) : ∀ (n k i : Nat), i + n = m → n < k → PMor.odometerlaw03_more.l0 k (⟨#[c]⟩ : ByteArray) (m : Int) (rep c i) (i : Int) = some (rep c m)
  | 0, k + 1, i, h, hk => by
    obtain rfl : i = m := by omega
    rw [PMor.odometerlaw03_more.l0, if_neg (by omega)]
  | n + 1, k + 1, i, h, hk => by
    have z : (⟨#[c]⟩ : ByteArray).size = 1 := rfl
    have e : rep c i ++ (⟨#[c]⟩ : ByteArray) = rep c (i + 1) := by
      apply eq_ba
      rw [bl_append, rep, bl_ba, List.replicate_succ']
      rfl
    rw [PMor.odometerlaw03_more.l0, if_pos (by omega), if_pos (by rw [rep_size, z]; omega), wrap_one i (by omega), e]
    exact more_go c m hm n k (i + 1) (by omega) (by omega)
theorem more_f (c : UInt8) (m : Nat) (hm : m ≤ 4000) (k : Nat) (hk : 4001 ≤ k) : odometerlaw03_more.f k (⟨#[c]⟩ : ByteArray) (m : Int) = some (rep c m) :=
  more_go c m hm m k 0 (by omega) (by omega)
/-- The law's labels. -/
def nth (i : Nat) : Lb := ⟨(⟨#[108]⟩ : ByteArray) ++ strOfNums [(97 + (i : Int)) % 256], rep 92 1024⟩
def first (n : Nat) : List Lb := (List.range n).map nth
theorem first_succ (n : Nat) : first n ++ [nth n] = first (n + 1) := by rw [first, first, List.range_succ, List.map_append]; rfl
theorem first_length (n : Nat) : (first n).length = n := by simp [first]
theorem nth_name (i : Nat) : (nth i).f0.size = 2 := by
  show ((⟨#[108]⟩ : ByteArray) ++ strOfNums [(97 + (i : Int)) % 256]).size = 2
  rw [ByteArray.size_append, strOfNums_size]
  rfl
theorem first_small (n : Nat) (h : n ≤ 40) : Small (first n) := by
  refine ⟨by rw [first_length]; exact h, fun x hx => ?_⟩
  obtain ⟨i, _, rfl⟩ := List.mem_map.1 hx
  exact ⟨by rw [nth_name]; omega, by show (rep 92 1024).size ≤ 10000; rw [rep_size]; omega⟩
theorem names16 : ((first 16).map fun x => namedB x.f0 95).all (fun b => b) = true := by kernel_rfl
theorem nodup16 : decide (((first 16).map nmL).Nodup) = true := by kernel_rfl
theorem m200 : namedB (rep 109 200) 58 = true := by kernel_rfl
theorem m201 : namedB (rep 109 201) 58 = false := by kernel_rfl
theorem m1 : namedB (⟨#[109]⟩ : ByteArray) 58 = true := by kernel_rfl
theorem a1 : namedB (⟨#[97]⟩ : ByteArray) 95 = true := by kernel_rfl
theorem a200 : namedB (rep 97 200) 95 = true := by kernel_rfl
theorem a201 : namedB (rep 97 201) 95 = false := by kernel_rfl
theorem right16 : Right (rep 109 200) (first 16) := by
  refine ⟨m200, by rw [first_length]; omega, ?_, of_decide_eq_true nodup16⟩
  rw [List.all_eq_true]
  intro x hx
  have h := names16
  rw [List.all_map, List.all_eq_true] at h
  have hn : namedB x.f0 95 = true := h x hx
  obtain ⟨i, _, rfl⟩ := List.mem_map.1 hx
  unfold goodL
  rw [hn, show (nth i).f1.size = 1024 from rep_size 92 1024]
  rfl
theorem not_long (m : ByteArray) (l : List Lb) (h : 16 < l.length) : nameF m l = (⟨#[]⟩, 5) := nameF_not (fun hr => by have := hr.2.1; omega)
theorem small_one (x : Lb) (h : x.f0.size ≤ 10000 ∧ x.f1.size ≤ 10000) : Small [x] := ⟨by simp, fun y hy => by rw [List.mem_singleton.1 hy]; exact h⟩
theorem small_nil : Small [] := ⟨by simp, by simp⟩
theorem small_append {a b : List Lb} (ha : Small a) (hb : Small b) (h : a.length + b.length ≤ 40) : Small (a ++ b) :=
  ⟨by rw [List.length_append]; exact h, fun x hx => (List.mem_append.1 hx).elim (ha.2 x) (hb.2 x)⟩
theorem nth_at (i : Nat) (h : i < 17) : (⟨(rd_T45 (first 17) (i : Int)).f0, (rd_T45 (first 17) (i : Int)).f1⟩ : Lb) = nth i := by
  rw [rd_get (first 17) i (by rw [first_length]; exact h)]
  simp [first]
theorem with_long (i : Nat) (k : Nat) (hk : 90000 ≤ k) : label_With.f k (ba (bl (rep 109 200) ++ render (isort nmL (first 16)))) [nth i] = some ((⟨#[]⟩ : ByteArray), 5) := by
  have hs : Small [nth i] := small_one _ ⟨by rw [nth_name]; omega, by show (rep 92 1024).size ≤ 10000; rw [rep_size]; omega⟩
  have hp := isort_perm nmL (first 16)
  have hl : (isort nmL (first 16)).length = 16 := by rw [hp.length_eq, first_length]
  have h2 : Small (isort nmL (first 16) ++ [nth i]) := small_append (small_perm hp (first_small 16 (by omega))) hs (by rw [hl]; simp)
  unfold label_With.f
  rw [parse_name (rep 109 200) (by rw [rep_size]; omega) (first 16) (first_small 16 (by omega)) right16 k (by omega), Option.bind_some, if_pos rfl, if_pos (by rw [hl]; simp), labelName_f (rep 109 200) (by rw [rep_size]; omega) _ h2 k (by omega), Option.bind_some, not_long _ _ (by rw [List.length_append, hl]; simp)]
theorem law_end (k : Nat) (hk : 90000 ≤ k) : odometerlaw03_LabelBounds.l0 (k + 1) (first 17) 17 = some true := by
  have ht : (first 17).take 16 = first 16 := by rw [first, first, ← List.map_take]; rfl
  have hlen := first_length 17
  have z109 : (⟨#[109]⟩ : ByteArray).size = 1 := rfl
  have z97 : (⟨#[97]⟩ : ByteArray).size = 1 := rfl
  have z0 : (⟨#[]⟩ : ByteArray).size = 0 := rfl
  have n1 := labelName_f (rep 109 200) (by rw [rep_size]; omega) (first 16) (first_small 16 (by omega)) k (by omega)
  rw [nameF_right right16] at n1
  have n2 := labelName_f (⟨#[109]⟩ : ByteArray) (by omega) (first 17) (first_small 17 (by omega)) k (by omega)
  rw [not_long _ _ (by omega)] at n2
  have n3 := labelName_f (rep 109 201) (by rw [rep_size]; omega) [] small_nil k (by omega)
  rw [nameF_not (fun hr => by have := hr.1; rw [m201] at this; cases this)] at n3
  have n4 := labelName_f (⟨#[109]⟩ : ByteArray) (by omega) [(⟨(⟨#[97]⟩ : ByteArray), rep 120 1025⟩ : Lb)] (small_one _ ⟨by show (⟨#[97]⟩ : ByteArray).size ≤ 10000; omega, by show (rep 120 1025).size ≤ 10000; rw [rep_size]; omega⟩) k (by omega)
  rw [nameF_not (fun hr => by
    have := List.all_eq_true.1 hr.2.2.1 _ (List.mem_singleton.2 rfl)
    unfold goodL at this
    rw [Bool.and_eq_true] at this
    have h2 := of_decide_eq_true this.2
    rw [show ((⟨(⟨#[97]⟩ : ByteArray), rep 120 1025⟩ : Lb)).f1.size = 1025 from rep_size 120 1025] at h2
    omega)] at n4
  have n5 := labelName_f (⟨#[109]⟩ : ByteArray) (by omega) [(⟨rep 97 201, (⟨#[]⟩ : ByteArray)⟩ : Lb)] (small_one _ ⟨by show (rep 97 201).size ≤ 10000; rw [rep_size]; omega, by show (⟨#[]⟩ : ByteArray).size ≤ 10000; omega⟩) k (by omega)
  rw [nameF_not (fun hr => by
    have := List.all_eq_true.1 hr.2.2.1 _ (List.mem_singleton.2 rfl)
    unfold goodL at this
    rw [Bool.and_eq_true] at this
    have h2 : namedB (rep 97 201) 95 = true := this.1
    rw [a201] at h2
    cases h2)] at n5
  have n6 := labelName_f (⟨#[109]⟩ : ByteArray) (by omega) [(⟨rep 97 200, (⟨#[]⟩ : ByteArray)⟩ : Lb)] (small_one _ ⟨by show (rep 97 200).size ≤ 10000; rw [rep_size]; omega, by show (⟨#[]⟩ : ByteArray).size ≤ 10000; omega⟩) k (by omega)
  rw [nameF_right ⟨m1, by simp, by
    rw [List.all_cons, List.all_nil, Bool.and_true]
    unfold goodL
    rw [show namedB ((⟨rep 97 200, (⟨#[]⟩ : ByteArray)⟩ : Lb)).f0 95 = true from a200]
    rfl, by simp⟩] at n6
  have hMay : label_May.f k (ba (bl (rep 109 200) ++ render (isort nmL (first 16)))) = some true := by
    unfold label_May.f
    rw [parse_name (rep 109 200) (by rw [rep_size]; omega) (first 16) (first_small 16 (by omega)) right16 k (by omega), Option.bind_some]
    rfl
  have q1 := more_f 109 200 (by omega) k (by omega)
  have q2 := more_f 109 201 (by omega) k (by omega)
  have q3 := more_f 120 1025 (by omega) k (by omega)
  have q4 := more_f 97 201 (by omega) k (by omega)
  have q5 := more_f 97 200 (by omega) k (by omega)
  have w16 := nth_at 16 (by omega)
  have w3 := nth_at 3 (by omega)
  rw [show ((200 : Nat) : Int) = 200 from rfl] at q1 q5
  rw [show ((201 : Nat) : Int) = 201 from rfl] at q2 q4
  rw [show ((1025 : Nat) : Int) = 1025 from rfl] at q3
  rw [show ((16 : Nat) : Int) = 16 from rfl] at w16
  rw [show ((3 : Nat) : Int) = 3 from rfl] at w3
  rw [odometerlaw03_LabelBounds.l0, if_neg (by omega), q1, Option.bind_some, if_pos (by omega), ht, n1, Option.bind_some, n2, Option.bind_some, q2, Option.bind_some, n3, Option.bind_some, q3, Option.bind_some, n4, Option.bind_some, q4, Option.bind_some, n5, Option.bind_some, q5, Option.bind_some, n6, Option.bind_some,
    if_pos (by omega), w16, with_long 16 k hk, Option.bind_some, if_pos (by omega), w3, with_long 3 k hk, Option.bind_some, if_pos rfl, hMay, Option.bind_some, if_pos rfl, if_pos rfl, if_pos rfl, if_pos rfl, if_pos rfl, if_pos rfl, if_pos rfl, if_pos rfl, known_ge k (by omega)]
  rfl
theorem law_go : ∀ (n k i : Nat), i + n = 17 → 90000 + n < k → odometerlaw03_LabelBounds.l0 k (first i) (i : Int) = some true
  | 0, k, i, h, hk => by
    obtain ⟨k, rfl⟩ : ∃ j, k = j + 1 := ⟨k - 1, by omega⟩
    obtain rfl : i = 17 := by omega
    exact law_end k (by omega)
  | n + 1, k, i, h, hk => by
    obtain ⟨k, rfl⟩ : ∃ j, k = j + 1 := ⟨k - 1, by omega⟩
    have q := more_f 92 1024 (by omega) k (by omega)
    rw [show ((1024 : Nat) : Int) = 1024 from rfl] at q
    have hw : wrap64 (97 + (i : Int)) = 97 + (i : Int) := by rw [wrap_of] <;> omega
    have hl := first_length i
    rw [odometerlaw03_LabelBounds.l0, if_pos (by omega), Option.bind_some, if_pos (by rw [strOfNums_size]; simp), q, Option.bind_some, if_pos (by omega), wrap_one i (by omega), hw]
    have := law_go n k (i + 1) (by omega) (by omega)
    rw [← first_succ] at this
    exact this
theorem LabelBounds : ∃ k, odometerlaw03_LabelBounds.f k = some true := ⟨100000, law_go 17 100000 0 (by omega) (by omega)⟩
end Go.Proofs.Ytapfpnfdpcgpaaa.PureBnd
