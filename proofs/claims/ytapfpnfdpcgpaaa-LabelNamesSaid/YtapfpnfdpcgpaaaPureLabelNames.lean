import Derived.Test.YtapfpnfdpcgpaaaPureLanPar
/-! What the law of names computes is true. -/
namespace Go.Proofs.Ytapfpnfdpcgpaaa.PureLan
open Go.RowKit Go.Proofs.Ytapfpnfdpcgpaaa Go.Proofs.Ytapfpnfdpcgpaaa.PLan Go.Proofs.YtapfpnfdpcgpaaaW.PrintWords
set_option linter.unusedVariables false
set_option linter.unusedSimpArgs false
theorem known_4 : odometerlaw03_known.f 4 = some true := by kernel_rfl
theorem known_f : ∀ n, odometerlaw03_known.f (n + 4) = some true
  | 0 => known_4
  | n + 1 => odometerlaw03_known.mono (n + 4) _ (known_f n)
theorem known_ge (k : Nat) (h : 4 ≤ k) : odometerlaw03_known.f k = some true := by
  obtain ⟨n, rfl⟩ : ∃ n, k = n + 4 := ⟨k - 4, by omega⟩
  exact known_f n
theorem wrapU_eq (x : Int) : IntKind.u64.wrap x = x % 18446744073709551616 := by
  simp only [IntKind.wrap, IntKind.bits, IntKind.signed, Bool.false_and, Bool.false_eq_true, if_false]
  rfl
theorem turn_of (x : Int) (n : Nat) (h0 : 0 < n) (hn : n ≤ 40) : 0 ≤ wrap64 (Int.tmod (IntKind.u64.wrap x) (IntKind.u64.wrap (n : Int))) ∧ wrap64 (Int.tmod (IntKind.u64.wrap x) (IntKind.u64.wrap (n : Int))) ≤ (n : Int) := by
  have e1 : IntKind.u64.wrap (n : Int) = (n : Int) := by rw [wrapU_eq]; omega
  have e2 : 0 ≤ IntKind.u64.wrap x := by rw [wrapU_eq]; omega
  rw [e1, Int.tmod_eq_emod_of_nonneg e2]
  have a := Int.emod_nonneg (IntKind.u64.wrap x) (show (n : Int) ≠ 0 by omega)
  have b := Int.emod_lt_of_pos (IntKind.u64.wrap x) (show 0 < (n : Int) by omega)
  rw [wrap_of _ (by omega) (by omega)]
  omega
theorem j2_true (a0 : ByteArray) (ha : a0.size ≤ 300) (l : List Lb) (hl : Small l) (k : Nat) (hk : 90000 ≤ k) : odometerlaw03_LabelNames.j2 (k + 1) a0 l (nameF a0 l).1 (nameF a0 l).2 = some true := by
  rw [odometerlaw03_LabelNames.j2, known_ge k (by omega)]
  by_cases hr : Right a0 l
  · have hlen := (small_perm (isort_perm nmL l) hl).1
    have hP := parse_name a0 (by omega) l hl hr k (by omega)
    rw [nameF_right hr]
    unfold label_May.f
    rw [if_pos rfl, hP, Option.bind_some, if_pos rfl, if_pos rfl, sorted_f l hl k (by omega), Option.bind_some, same_f (isort nmL l) hlen k (by omega)]
    rfl
  · rw [nameF_not hr, if_neg (by decide)]
    rfl
def NamesPure : Prop := ∀ (m : ByteArray) (l : List Lb) (x : Int), m.size ≤ 140737488351232 → (∀ y ∈ l, y.f0.size ≤ 140737488351232 ∧ y.f1.size ≤ 140737488351232) → ∃ k, odometerlaw03_LabelNames.f k m l x = some true
theorem LabelNames : NamesPure := by
  intro m l x hm hl
  refine ⟨100000, ?_⟩
  unfold odometerlaw03_LabelNames.f
  have out : odometerlaw03_LabelNames.j0 100000 m l x true = some true := by
    rw [odometerlaw03_LabelNames.j0, if_pos rfl, known_ge 99999 (by omega)]
    rfl
  rcases much_f l hl 100000 (by omega) with h | ⟨h, h20, hsm⟩
  · rw [h, Option.bind_some, if_pos rfl, out]
  · rw [h, Option.bind_some, if_neg (by simp)]
    by_cases h3 : (m.size : Int) > 300
    · rw [decide_eq_true h3, out]
    · have ha : m.size ≤ 300 := by omega
      have hs : Small l := ⟨by omega, fun y hy => by have := hsm y hy; omega⟩
      rw [decide_eq_false h3, odometerlaw03_LabelNames.j0, if_neg (by simp), if_pos (by simp; omega), Option.bind_some, List.nil_append, labelName_f m (by omega) l hs 99999 (by omega), Option.bind_some, refName_f m (by omega) l hs 99999 (by omega), Option.bind_some, if_pos rfl, if_pos rfl,
        same_f l (by omega) 99999 (by omega), Option.bind_some, Bool.not_true, odometerlaw03_LabelNames.j1, if_neg (by simp)]
      have hj2 := j2_true m ha l hs 99997 (by omega)
      by_cases h0 : (l.length : Int) > 0
      · have ht := turn_of x l.length (by omega) (by omega)
        have e1 : IntKind.u64.wrap (l.length : Int) = (l.length : Int) := by rw [wrapU_eq]; omega
        generalize hT : wrap64 (Int.tmod (IntKind.u64.wrap x) (IntKind.u64.wrap (l.length : Int))) = T at *
        have hTn : T.toNat ≤ l.length := by omega
        have d1 : (l.drop T.toNat).length = l.length - T.toNat := List.length_drop
        have d2 : (l.take T.toNat).length = T.toNat := by rw [List.length_take]; omega
        have hp : (l.drop T.toNat ++ l.take T.toNat).Perm l := by
          have := List.perm_append_comm (l₁ := l.drop T.toNat) (l₂ := l.take T.toNat)
          rwa [List.take_append_drop] at this
        rw [if_pos h0, if_neg (by rw [e1]; omega), if_pos ht.1, if_pos ht.2]
        simp only [Option.bind_some, List.nil_append, List.length_nil]
        rw [if_pos (by omega), if_pos (by omega), labelName_f m (by omega) _ (small_perm hp hs) 99998 (by omega), Option.bind_some, nameF_perm m hp, if_pos rfl, if_pos rfl]
        exact hj2
      · rw [if_neg h0]
        exact hj2
end Go.Proofs.Ytapfpnfdpcgpaaa.PureLan
