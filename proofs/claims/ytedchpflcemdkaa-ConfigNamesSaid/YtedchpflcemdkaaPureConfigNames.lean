import Derived.Test.YtedchpflcemdkaaPureNmsName
/-! What the law of names computes is true. -/
namespace Go.Proofs.Ytedchpflcemdkaa.PureNms
open Go.RowKit Go.Proofs.Ytedchpflcemdkaa Go.Proofs.Ytedchpflcemdkaa.PNms Go.Proofs.YtedchpflcemdkaaW.PrintWords
set_option linter.unusedVariables false
set_option linter.unusedSimpArgs false
theorem known_40 : odometerlaw13_known.f 40 = some true := by kernel_rfl
theorem known_f : ∀ n, odometerlaw13_known.f (n + 40) = some true
  | 0 => known_40
  | n + 1 => odometerlaw13_known.mono (n + 40) _ (known_f n)
theorem known_ge (k : Nat) (h : 40 ≤ k) : odometerlaw13_known.f k = some true := by
  obtain ⟨n, rfl⟩ : ∃ n, k = n + 40 := ⟨k - 40, by omega⟩
  exact known_f n
def NamesPure : Prop := ∀ (m a b c : ByteArray) (I J : Int), m.size ≤ 140737488351232 → a.size ≤ 140737488351232 → b.size ≤ 140737488351232 → c.size ≤ 140737488351232 → ∃ k, odometerlaw13_ConfigNames.f k m a b c I J = some true
theorem ConfigNames : NamesPure := by
  intro m a b c I J hm ha hb hc
  unfold odometerlaw13_ConfigNames.f
  have hw : wrap64 (wrap64 ((m.size : Int) + (a.size : Int)) + (b.size : Int)) = (m.size : Int) + a.size + b.size := by
    rw [wrap_of ((m.size : Int) + a.size) (by omega) (by omega), wrap_of _ (by omega) (by omega)]
  rw [hw]
  by_cases hbig : (m.size : Int) + a.size + b.size > 3000
  · exact ⟨40, by rw [if_pos hbig, known_40]; rfl⟩
  · refine ⟨50000, ?_⟩
    have hs : ∀ l : List Lb, l = [(⟨(⟨#[105, 110, 115, 116, 97, 110, 99, 101]⟩ : ByteArray), b⟩ : Lb), ⟨(⟨#[106, 111, 98]⟩ : ByteArray), a⟩] ∨ l = [(⟨(⟨#[106, 111, 98]⟩ : ByteArray), a⟩ : Lb), ⟨(⟨#[105, 110, 115, 116, 97, 110, 99, 101]⟩ : ByteArray), b⟩] → Small l := by
      intro l h
      have z1 : (⟨#[105, 110, 115, 116, 97, 110, 99, 101]⟩ : ByteArray).size = 8 := rfl
      have z2 : (⟨#[106, 111, 98]⟩ : ByteArray).size = 3 := rfl
      rcases h with rfl | rfl
      · refine ⟨by simp, fun x hx => ?_⟩
        simp only [List.mem_cons, List.not_mem_nil, or_false] at hx
        rcases hx with rfl | rfl
        · exact ⟨by show (⟨#[105, 110, 115, 116, 97, 110, 99, 101]⟩ : ByteArray).size ≤ 10000; omega, by show b.size ≤ 10000; omega⟩
        · exact ⟨by show (⟨#[106, 111, 98]⟩ : ByteArray).size ≤ 10000; omega, by show a.size ≤ 10000; omega⟩
      · refine ⟨by simp, fun x hx => ?_⟩
        simp only [List.mem_cons, List.not_mem_nil, or_false] at hx
        rcases hx with rfl | rfl
        · exact ⟨by show (⟨#[106, 111, 98]⟩ : ByteArray).size ≤ 10000; omega, by show a.size ≤ 10000; omega⟩
        · exact ⟨by show (⟨#[105, 110, 115, 116, 97, 110, 99, 101]⟩ : ByteArray).size ≤ 10000; omega, by show b.size ≤ 10000; omega⟩
    have hN : config_Name.f 50000 m a b c I J = some (nameF m [(⟨(⟨#[105, 110, 115, 116, 97, 110, 99, 101]⟩ : ByteArray), b⟩ : Lb), ⟨(⟨#[106, 111, 98]⟩ : ByteArray), a⟩]).1 := by
      unfold config_Name.f config_Labels.f
      rw [Option.bind_some, labelName_f m (by omega) _ (hs _ (Or.inl rfl)) 50000 (by omega), Option.bind_some]
    have hR : odometerref13_Name.f 50000 m a b c I J = some (nameF m [(⟨(⟨#[105, 110, 115, 116, 97, 110, 99, 101]⟩ : ByteArray), b⟩ : Lb), ⟨(⟨#[106, 111, 98]⟩ : ByteArray), a⟩]).1 := by
      unfold odometerref13_Name.f
      rw [refName_f m (by omega) _ (hs _ (Or.inr rfl)) 50000 (by omega), Option.bind_some, nameF_perm m (List.Perm.swap _ _ _)]
    have hc1 : ((⟨#[105, 110, 115, 116, 97, 110, 99, 101]⟩ : ByteArray).toList == ([105, 110, 115, 116, 97, 110, 99, 101] : List UInt8)) = true := by rw [ByteArray.toList_eq]; rfl
    have hc2 : ((⟨#[106, 111, 98]⟩ : ByteArray).toList == ([106, 111, 98] : List UInt8)) = true := by rw [ByteArray.toList_eq]; rfl
    rw [if_neg hbig, hN, hR, known_ge 50000 (by omega)]
    unfold config_Labels.f
    simp only [Option.bind_some, List.length_cons, List.length_nil]
    rw [if_pos trivial, if_pos (by rfl), if_pos (by decide), if_pos (by
      show (((⟨#[105, 110, 115, 116, 97, 110, 99, 101]⟩ : ByteArray).toList == ([105, 110, 115, 116, 97, 110, 99, 101] : List UInt8)) && (b.toList == b.toList)) = true
      rw [hc1]; simp), if_pos (by decide), if_pos (by
      show (((⟨#[106, 111, 98]⟩ : ByteArray).toList == ([106, 111, 98] : List UInt8)) && (a.toList == a.toList)) = true
      rw [hc2]; simp)]
end Go.Proofs.Ytedchpflcemdkaa.PureNms
