/- A text of this claim, pruned by a program of the session (prune.py) to what the theorem rests on. -/
import Derived.Test.YtcikjeiebpmmcaaGreatQyPMchx0
import Derived.Test.YtcikjeiebpmmcaaGreatQyPMchx1
import Derived.Test.YtcikjeiebpmmcaaGreatQyPMchx2
import Derived.Test.YtcikjeiebpmmcaaGreatQyPMchx3
import Derived.Test.YtcikjeiebpmmcaaGreatQyPMchx4
import Derived.Test.YtcikjeiebpmmcaaGreatQyPMchx5
import Derived.Test.YtcikjeiebpmmcaaGreatQyPMchx6
import Derived.Test.YtcikjeiebpmmcaaGreatQyPMchx7
import Derived.Test.YtcikjeiebpmmcaaGreatQyPMchx8
import Derived.Test.YtcikjeiebpmmcaaGreatQyPMchx9
import Derived.Test.YtcikjeiebpmmcaaGreatQyPMchx10
import Derived.Test.YtcikjeiebpmmcaaGreatQyPMchx11
import Derived.Test.YtcikjeiebpmmcaaGreatQyPMchx12
import Derived.Test.YtcikjeiebpmmcaaGreatQyPMchx13
import Derived.Test.YtcikjeiebpmmcaaGreatQyPMchx14
import Derived.Test.YtcikjeiebpmmcaaGreatQyPMchx15
import Derived.Test.YtcikjeiebpmmcaaGreatQyPMchx16
import Derived.Test.YtcikjeiebpmmcaaGreatQyPMchx17
import Derived.Test.YtcikjeiebpmmcaaGreatQyPMchx18
import Derived.Test.YtcikjeiebpmmcaaGreatQyPMchx19
import Derived.Test.YtcikjeiebpmmcaaGreatQyPMchx20
import Derived.Test.YtcikjeiebpmmcaaGreatQyPureMchByt
import Derived.Lib.Join
namespace Go.Proofs.YtcikjeiebpmmcaaGreat.PureMch
open Go.RowKit Go.Proofs.YtcikjeiebpmmcaaGreat Go.Proofs.YtcikjeiebpmmcaaGreat.PMch Go.Proofs.YtcikjeiebpmmcaaGreatW.PrintWords
set_option linter.unusedVariables false
set_option linter.unusedSimpArgs false
abbrev Lb := S96
def nmL (x : Lb) : ByteArray := x.f0
def vlL (x : Lb) : ByteArray := x.f1
def bl (s : ByteArray) : List UInt8 := s.data.toList
def ba (l : List UInt8) : ByteArray := ⟨l.toArray⟩
theorem bl_append (s t : ByteArray) : bl (s ++ t) = bl s ++ bl t := by simp [bl, ByteArray.data_append]
theorem bl_length (s : ByteArray) : (bl s).length = s.size := by simp [bl]
theorem ba_bl (s : ByteArray) : ba (bl s) = s := bytes_eta s
theorem bl_ba (l : List UInt8) : bl (ba l) = l := by simp [bl, ba]
theorem eq_ba {s : ByteArray} {l : List UInt8} (h : bl s = l) : s = ba l := by rw [← h, ba_bl]
theorem size_ba (l : List UInt8) : (ba l).size = l.length := by simp [ba, ByteArray.size]
def one (x : Lb) : List UInt8 := bl x.f0 ++ [61, 34] ++ (bl x.f1).flatMap escByte ++ [34]
def render : List Lb → List UInt8
  | [] => []
  | x :: r => [123] ++ Lib.join ((x :: r).map one) [44] ++ [125]
def goodL (x : Lb) : Bool := namedB x.f0 95 && decide (x.f1.size ≤ 1024)
def nameF (a0 : ByteArray) (l : List Lb) : ByteArray × Int :=
  if namedB a0 58 = true ∧ l.length ≤ 16 ∧ l.all goodL = true ∧ (l.map nmL).Nodup then (ba (bl a0 ++ render (isort nmL l)), 0) else (⟨#[]⟩, 5)
def Small (l : List Lb) : Prop := l.length ≤ 40 ∧ ∀ x ∈ l, x.f0.size ≤ 10000 ∧ x.f1.size ≤ 10000
theorem esc_len (v : List UInt8) : (v.flatMap escByte).length ≤ 2 * v.length := esc_le v
theorem one_len (x : Lb) (h : x.f0.size ≤ 10000 ∧ x.f1.size ≤ 10000) : (one x).length ≤ 30003 := by
  have h1 := esc_len (bl x.f1)
  rw [bl_length] at h1
  unfold one
  simp only [List.length_append, bl_length, List.length_cons, List.length_nil]
  omega
theorem small_perm {l ys : List Lb} (hp : ys.Perm l) (h : Small l) : Small ys := ⟨by rw [hp.length_eq]; exact h.1, fun x hx => h.2 x (hp.mem_iff.1 hx)⟩
theorem rd_get (xs : List Lb) (i : Nat) (h : i < xs.length) : rd_T96 xs (i : Int) = xs[i] := by
  simp [rd_T96, List.getD, List.getElem?_eq_getElem h]
theorem tail_len : ∀ (r : List Lb), (∀ x ∈ r, x.f0.size ≤ 10000 ∧ x.f1.size ≤ 10000) → (Lib.joinTail [44] (r.map one)).length ≤ 30004 * r.length
  | [], _ => by simp [Lib.joinTail]
  | x :: r, h => by
    have h1 := tail_len r (fun y hy => h y (by simp [hy]))
    have h2 := one_len x (h x (by simp))
    simp only [Lib.joinTail, List.map_cons, List.flatten_cons, List.length_append, List.length_cons, List.length_nil] at h1 ⊢
    omega
theorem join_len (l : List Lb) (h : Small l) : (Lib.join (l.map one) [44]).length ≤ 1300000 := by
  obtain ⟨h1, h2⟩ := h
  cases l with
  | nil => simp [Lib.join_nil]
  | cons x r =>
    rw [List.map_cons, Lib.join_cons, List.length_append]
    have h3 := tail_len r (fun y hy => h2 y (by simp [hy]))
    have h4 := one_len x (h2 x (by simp))
    simp only [List.length_cons] at h1
    have h5 : 30004 * r.length ≤ 30004 * 40 := Nat.mul_le_mul_left _ (by omega)
    omega
theorem labelName_go (a0 : ByteArray) (ha : a0.size ≤ 10000) (s : List Lb) (hs : Small s) (hne : s ≠ []) : ∀ (n k i : Nat), i + n = s.length → n < k →
    label_Name.l0 k a0 ((s.take i).map fun x => ba (one x)) s (s.length : Int) (i : Int) = some (ba (bl a0 ++ render s), 0)
  | 0, k + 1, i, h, hk => by
    obtain rfl : i = s.length := by omega
    have hmap : ((s.map fun x => ba (one x)).map fun x => x.data.toList) = s.map one := by
      rw [List.map_map]
      apply List.map_congr_left
      intro x _
      exact bl_ba (one x)
    have hj := join_len s hs
    have z1 : (⟨#[123]⟩ : ByteArray).size = 1 := rfl
    have hJ : strings_Join.f (s.map fun x => ba (one x)) (⟨#[44]⟩ : ByteArray) = some (ba (Lib.join (s.map one) [44])) := by
      unfold strings_Join.f
      rw [hmap, if_pos ⟨by simp; have := hs.1; omega, by show (Lib.join (s.map one) [44]).length ≤ _; omega⟩]
      rfl
    have hJs : (ba (Lib.join (s.map one) [44])).size ≤ 1300000 := by rw [size_ba]; exact hj
    have hsa : (a0 ++ (⟨#[123]⟩ : ByteArray)).size = a0.size + 1 := by rw [ByteArray.size_append, z1]
    rw [label_Name.l0, if_neg (by omega), List.take_of_length_le (Nat.le_refl _), if_pos (by omega), hJ, Option.bind_some, if_pos (by omega), if_pos (by rw [ByteArray.size_append]; omega)]
    congr 2
    apply eq_ba
    rw [bl_append, bl_append, bl_append, bl_ba]
    cases s with
    | nil => exact absurd rfl hne
    | cons x r =>
      show bl a0 ++ [123] ++ Lib.join ((x :: r).map one) [44] ++ [125] = bl a0 ++ ([123] ++ Lib.join ((x :: r).map one) [44] ++ [125])
      simp only [List.append_assoc]
  | n + 1, k + 1, i, h, hk => by
    have hw : wrap64 ((i : Int) + 1) = ((i + 1 : Nat) : Int) := by have := hs.1; rw [wrap_of] <;> omega
    have hi : i < s.length := by omega
    have hx := hs.2 s[i] (List.getElem_mem hi)
    have hE : label_Escape.f (s[i]).f1 = some (ba ((bl (s[i]).f1).flatMap escByte)) := if_pos (by omega)
    have hEs : (ba ((bl (s[i]).f1).flatMap escByte)).size ≤ 20000 := by
      rw [size_ba]
      have := esc_len (bl (s[i]).f1)
      rw [bl_length] at this
      omega
    have z2 : (⟨#[61, 34]⟩ : ByteArray).size = 2 := rfl
    have hp : ∀ (x : Lb), (((x.f0 ++ (⟨#[61, 34]⟩ : ByteArray)) ++ ba ((bl x.f1).flatMap escByte)) ++ (⟨#[34]⟩ : ByteArray)) = ba (one x) := fun x => by
      apply eq_ba
      rw [bl_append, bl_append, bl_append, bl_ba]
      rfl
    rw [label_Name.l0, if_pos (by omega), if_pos (by omega), if_pos (by omega), rd_get s i hi, if_pos (by omega), hE, Option.bind_some, if_pos (by rw [ByteArray.size_append, z2]; omega), if_pos (by rw [ByteArray.size_append, ByteArray.size_append, z2]; omega), if_pos (by simp; have := hs.1; omega), hw, hp]
    have ht : ((s.take i).map fun x => ba (one x)) ++ [ba (one s[i])] = (s.take (i + 1)).map fun x => ba (one x) := by
      rw [List.take_succ_eq_append_getElem hi, List.map_append]
      rfl
    rw [ht]
    exact labelName_go a0 ha s hs hne n k (i + 1) (by omega) (by omega)
theorem bad_good (l : List Lb) : l.any (badL nmL vlL fun s => namedB s 95) = !(l.all goodL) := by
  induction l with
  | nil => rfl
  | cons x r ih =>
    rw [List.any_cons, List.all_cons, ih]
    have : badL nmL vlL (fun s => namedB s 95) x = !goodL x := by
      unfold badL goodL nmL vlL
      cases h0 : namedB x.f0 95
      · simp [h0]
      · by_cases h : x.f1.size ≤ 1024
        · have h' : ¬ 1024 < x.f1.size := by omega
          simp [h0, h, h']
        · have h' : 1024 < x.f1.size := by omega
          simp [h0, h, h']
    rw [this]
    cases goodL x <;> simp
theorem twins_nodup (l : List Lb) : (twins nmL (isort nmL l) = false) ↔ (l.map nmL).Nodup := by
  rw [twins_iff nmL _ (isort_rising nmL l)]
  exact ((isort_perm nmL l).map nmL).nodup_iff
theorem labelName_f (a0 : ByteArray) (ha : a0.size ≤ 10000) (l : List Lb) (hl : Small l) (k : Nat) (hk : 100 ≤ k) : label_Name.f k a0 l = some (nameF a0 l) := by
  have hS : label_series.f a0 l = some (seriesF nmL vlL (fun s => namedB s 95) (fun s => namedB s 58) a0 l) :=
    if_pos ⟨by omega, by have := hl.1; omega, fun x hx => by have := (hl.2 x hx).1; omega⟩
  have hI : ∀ c : Int, c ≠ 5 → errors_Is.f (some c) (some 5) = some true := fun c hc => if_pos ⟨rfl, fun e => hc (Option.some.inj e)⟩
  have hI0 : errors_Is.f none (some 5) = some false := if_pos ⟨rfl, by simp⟩
  unfold label_Name.f
  rw [hS, Option.bind_some]
  unfold seriesF nameF
  by_cases h1 : namedB a0 58 = true
  · rw [if_neg (by simp [h1])]
    by_cases h2 : 16 < l.length ∨ l.any (badL nmL vlL fun s => namedB s 95) = true
    · rw [if_pos h2, hI 102 (by decide), Option.bind_some, if_pos rfl, if_neg]
      rintro ⟨_, h3, h4, _⟩
      rcases h2 with h2 | h2
      · omega
      · rw [bad_good, h4] at h2; cases h2
    · rw [if_neg h2]
      by_cases h3 : twins nmL (isort nmL l) = true
      · rw [if_pos h3, hI 103 (by decide), Option.bind_some, if_pos rfl, if_neg]
        rintro ⟨_, _, _, h4⟩
        rw [(twins_nodup l).2 h4] at h3
        cases h3
      · have h3' : twins nmL (isort nmL l) = false := by simpa using h3
        have hlen : (isort nmL l).length = l.length := (isort_perm nmL l).length_eq
        rw [if_neg h3, hI0, Option.bind_some, if_neg (by simp), if_pos (c := _ ∧ _) ⟨h1, by omega, by
          have : ¬ l.any (badL nmL vlL fun s => namedB s 95) = true := fun h => h2 (Or.inr h)
          rw [bad_good] at this
          simpa using this, (twins_nodup l).1 h3'⟩]
        by_cases h0 : ((isort nmL l).length : Int) = 0
        · have : isort nmL l = [] := List.eq_nil_of_length_eq_zero (by omega)
          rw [if_pos h0, this]
          simp only [render, List.append_nil, ba_bl]
        · have hne : isort nmL l ≠ [] := fun e => h0 (by rw [e]; rfl)
          have := hl.1
          rw [if_neg h0]
          exact labelName_go a0 ha (isort nmL l) (small_perm (isort_perm nmL l) hl) hne (isort nmL l).length k 0 (by omega) (by omega)
  · rw [if_pos (by simpa using h1), hI 101 (by decide), Option.bind_some, if_pos rfl, if_neg (fun h => h1 h.1)]
theorem nameF_perm (a0 : ByteArray) {l l' : List Lb} (hp : l'.Perm l) : nameF a0 l' = nameF a0 l := by
  unfold nameF
  have h1 : l'.length = l.length := hp.length_eq
  have h2 : l'.all goodL = l.all goodL := by
    rw [Bool.eq_iff_iff, List.all_eq_true, List.all_eq_true]
    exact ⟨fun h x hx => h x (hp.mem_iff.2 hx), fun h x hx => h x (hp.mem_iff.1 hx)⟩
  have h3 : (l'.map nmL).Nodup ↔ (l.map nmL).Nodup := (hp.map nmL).nodup_iff
  by_cases h : namedB a0 58 = true ∧ l.length ≤ 16 ∧ l.all goodL = true ∧ (l.map nmL).Nodup
  · have h' : namedB a0 58 = true ∧ l'.length ≤ 16 ∧ l'.all goodL = true ∧ (l'.map nmL).Nodup := ⟨h.1, by omega, by rw [h2]; exact h.2.2.1, h3.2 h.2.2.2⟩
    rw [if_pos h, if_pos h', sorted_unique nmL ((isort_perm nmL l').trans hp) (isort_rising nmL l') ((twins_nodup l').2 h'.2.2.2)]
  · rw [if_neg h, if_neg]
    rintro ⟨a, b, c, d⟩
    exact h ⟨a, by omega, by rw [← h2]; exact c, h3.1 d⟩
end Go.Proofs.YtcikjeiebpmmcaaGreat.PureMch
