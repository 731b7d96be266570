import Derived.Test.YtapfpnfdpcgpaaaPLabx4
import Derived.Test.YtapfpnfdpcgpaaaPureLabelWords
/-! What the escapes' law computes is true. -/
namespace Go.Proofs.Ytapfpnfdpcgpaaa.Pure
open Go.RowKit Go.Proofs.Ytapfpnfdpcgpaaa Go.Proofs.Ytapfpnfdpcgpaaa.PLab Go.Proofs.YtapfpnfdpcgpaaaW.PrintWords
set_option linter.unusedVariables false
set_option linter.unusedSimpArgs false
/-- The bytes as numbers. -/
def nb (l : List UInt8) : List Int := l.map fun b => (b.toNat : Int)
theorem nb_snoc (l : List UInt8) (c : UInt8) : nb l ++ [(c.toNat : Int)] = nb (l ++ [c]) := by simp [nb]
theorem nb_two (l : List UInt8) (c d : UInt8) : nb l ++ [(c.toNat : Int), (d.toNat : Int)] = nb (l ++ [c, d]) := by simp [nb]
theorem nb_length (l : List UInt8) : (nb l).length = l.length := by simp [nb]
theorem str_nb (l : List UInt8) : strOfNums (nb l) = ⟨l.toArray⟩ := by
  unfold strOfNums nb
  rw [List.map_map]
  congr 2
  conv => rhs; rw [← List.map_id l]
  apply List.map_congr_left
  intro b _
  simp
theorem byte_iff (c d : UInt8) : ((c.toNat : Int) = (d.toNat : Int)) = (c = d) := by
  apply propext
  rw [← UInt8.toNat_inj]
  omega
theorem bt_get (s : ByteArray) (i : Nat) (h : i < s.size) : bt s (i : Int) = ((s.data.toList[i]'(by simpa using h)).toNat : Int) := by
  rw [← bt_at s (i : Int) (by simpa using h)]
  rfl
/-- What stands so between quotes. -/
def unesc : List UInt8 → Option (List UInt8)
  | [] => some []
  | c :: r => if c = 34 ∨ c = 10 then none else if c = 92 then
      match r with
      | [] => none
      | d :: r' => if d = 110 then (unesc r').map (10 :: ·) else if d = 92 ∨ d = 34 then (unesc r').map (d :: ·) else none
    else (unesc r).map (c :: ·)
def unescR (bs l : List UInt8) : ByteArray × Bool := match unesc l with
  | some m => (⟨(bs ++ m).toArray⟩, true)
  | none => (⟨#[]⟩, false)
theorem unescR_nil (bs : List UInt8) : unescR bs [] = (⟨bs.toArray⟩, true) := by simp [unescR, unesc]
theorem unescR_bad (bs r : List UInt8) (c : UInt8) (h : c = 34 ∨ c = 10) : unescR bs (c :: r) = (⟨#[]⟩, false) := by
  rw [unescR, unesc.eq_def]
  simp only [if_pos h]
theorem unescR_one (bs r : List UInt8) (c : UInt8) (h : ¬ (c = 34 ∨ c = 10)) (h2 : ¬ c = 92) : unescR bs (c :: r) = unescR (bs ++ [c]) r := by
  rw [unescR, unesc.eq_def]
  simp only [if_neg h, if_neg h2]
  unfold unescR
  cases unesc r <;> simp
theorem unescR_end (bs : List UInt8) : unescR bs [92] = (⟨#[]⟩, false) := by simp [unescR, unesc]
theorem unescR_n (bs r : List UInt8) : unescR bs (92 :: 110 :: r) = unescR (bs ++ [10]) r := by
  unfold unescR
  rw [unesc]
  simp
  cases unesc r <;> simp
theorem unescR_two (bs r : List UInt8) (d : UInt8) (h1 : ¬ d = 110) (h2 : d = 92 ∨ d = 34) : unescR bs (92 :: d :: r) = unescR (bs ++ [d]) r := by
  unfold unescR
  rw [unesc]
  simp [h1, h2]
  cases unesc r <;> simp
theorem unescR_not (bs r : List UInt8) (d : UInt8) (h1 : ¬ d = 110) (h2 : ¬ (d = 92 ∨ d = 34)) : unescR bs (92 :: d :: r) = (⟨#[]⟩, false) := by
  unfold unescR
  rw [unesc]
  simp [h1]
  rw [if_neg h2]
theorem unescape_go (s : ByteArray) (hs : s.size ≤ 1099511627776) : ∀ (n k i : Nat) (bs : List UInt8), i + n = s.size → 2 * n < k → bs.length ≤ i →
    label_Unescape.l0 k s (nb bs) (i : Int) = some (unescR bs (s.data.toList.drop i)) := by
  intro n
  induction n using Nat.strongRecOn with
  | _ n ih =>
    intro k i bs h hk hb
    obtain ⟨k, rfl⟩ : ∃ j, k = j + 1 := ⟨k - 1, by omega⟩
    have hsz : s.data.toList.length = s.size := by simp
    rcases Nat.eq_zero_or_pos n with h0 | h0
    · obtain rfl : i = s.size := by omega
      rw [label_Unescape.l0, if_neg (by omega), List.drop_of_length_le (by omega), unescR_nil, str_nb]
    · obtain ⟨k, rfl⟩ : ∃ j, k = j + 1 := ⟨k - 1, by omega⟩
      have hi : i < s.size := by omega
      have hw : wrap64 ((i : Int) + 1) = ((i + 1 : Nat) : Int) := by rw [wrap_of] <;> omega
      have hw2 : wrap64 (((i + 1 : Nat) : Int) + 1) = ((i + 2 : Nat) : Int) := by rw [wrap_of] <;> omega
      have hlen : (nb bs).length < 140737488355328 := by rw [nb_length]; omega
      rw [label_Unescape.l0, if_pos (by omega), if_pos (by omega), List.drop_eq_getElem_cons (by omega), bt_get s i hi]
      generalize s.data.toList[i]'(by omega) = c
      have e34 : ((c.toNat : Int) = 34) = (c = 34) := byte_iff c 34
      have e10 : ((c.toNat : Int) = 10) = (c = 10) := byte_iff c 10
      have e92 : ((c.toNat : Int) = 92) = (c = 92) := byte_iff c 92
      have q10 : ((c.toNat : Int) == 10) = decide (c = 10) := by rw [← decide_eq_decide.2 (iff_of_eq e10)]; rfl
      simp only [e34, q10]
      by_cases h34 : c = 34
      · rw [if_pos h34, label_Unescape.j1, if_pos rfl, unescR_bad _ _ _ (Or.inl h34)]
      · rw [if_neg h34, label_Unescape.j1]
        by_cases h10 : c = 10
        · rw [if_pos (by simpa using h10), unescR_bad _ _ _ (Or.inr h10)]
        · rw [if_neg (by simpa using h10), hw, hw2]
          have hno : ¬ (c = 34 ∨ c = 10) := by simp [h34, h10]
          simp only [e92]
          by_cases h92 : c = 92
          · rw [if_pos h92]
            subst h92
            by_cases hend : i + 1 = s.size
            · rw [if_pos (by omega), List.drop_of_length_le (by omega), unescR_end]
            · rw [if_neg (by omega), if_pos (by omega), if_pos (by omega), List.drop_eq_getElem_cons (by omega), bt_get s (i + 1) (by omega)]
              generalize s.data.toList[i + 1]'(by omega) = d
              have f110 : ((d.toNat : Int) = 110) = (d = 110) := byte_iff d 110
              have f92 : ((d.toNat : Int) = 92) = (d = 92) := byte_iff d 92
              have f34 : ((d.toNat : Int) = 34) = (d = 34) := byte_iff d 34
              simp only [f110, f92, f34]
              by_cases d110 : d = 110
              · subst d110
                rw [if_pos rfl, if_pos hlen, unescR_n]
                have := ih (n - 2) (by omega) k (i + 2) (bs ++ [10]) (by omega) (by omega) (by simp; omega)
                rw [← nb_snoc] at this
                exact this
              · rw [if_neg d110]
                by_cases d92 : d = 92
                · rw [if_pos d92, if_pos hlen, unescR_two _ _ _ d110 (Or.inl d92), nb_snoc]
                  exact ih (n - 2) (by omega) k (i + 2) _ (by omega) (by omega) (by simp; omega)
                · rw [if_neg d92]
                  by_cases d34 : d = 34
                  · rw [if_pos d34, if_pos hlen, unescR_two _ _ _ d110 (Or.inr d34), nb_snoc]
                    exact ih (n - 2) (by omega) k (i + 2) _ (by omega) (by omega) (by simp; omega)
                  · rw [if_neg d34, unescR_not _ _ _ d110 (by simp [d92, d34])]
          · rw [if_neg h92, if_pos hlen, unescR_one _ _ _ hno h92, nb_snoc]
            exact ih (n - 1) (by omega) k (i + 1) _ (by omega) (by omega) (by simp; omega)
theorem refUnescape_go (s : ByteArray) (hs : s.size ≤ 1099511627776) : ∀ (n k i : Nat) (bs : List UInt8), i + n = s.size → n < k → bs.length ≤ i →
    odometerref03_Unescape.l0 k s (nb bs) (i : Int) = some (unescR bs (s.data.toList.drop i)) := by
  intro n
  induction n using Nat.strongRecOn with
  | _ n ih =>
    intro k i bs h hk hb
    obtain ⟨k, rfl⟩ : ∃ j, k = j + 1 := ⟨k - 1, by omega⟩
    have hsz : s.data.toList.length = s.size := by simp
    rcases Nat.eq_zero_or_pos n with h0 | h0
    · obtain rfl : i = s.size := by omega
      rw [odometerref03_Unescape.l0, if_neg (by omega), List.drop_of_length_le (by omega), unescR_nil, str_nb]
    · have hi : i < s.size := by omega
      have hw : wrap64 ((i : Int) + 1) = ((i + 1 : Nat) : Int) := by rw [wrap_of] <;> omega
      have hw2 : wrap64 (((i + 1 : Nat) : Int) + 1) = ((i + 2 : Nat) : Int) := by rw [wrap_of] <;> omega
      have hlen : (nb bs).length < 140737488355328 := by rw [nb_length]; omega
      rw [odometerref03_Unescape.l0, if_pos (by omega), if_pos (by omega), List.drop_eq_getElem_cons (by omega), bt_get s i hi, hw, hw2]
      generalize s.data.toList[i]'(by omega) = c
      have e34 : ((c.toNat : Int) = 34) = (c = 34) := byte_iff c 34
      have e10 : ((c.toNat : Int) = 10) = (c = 10) := byte_iff c 10
      have e92 : ((c.toNat : Int) = 92) = (c = 92) := byte_iff c 92
      simp only [e34, e10, e92]
      by_cases h92 : c = 92
      · rw [if_pos h92]
        subst h92
        by_cases hend : i + 1 = s.size
        · rw [if_pos (by omega), List.drop_of_length_le (by omega), unescR_end]
        · rw [if_neg (by omega), if_pos (by omega), if_pos (by omega), List.drop_eq_getElem_cons (by omega), bt_get s (i + 1) (by omega)]
          generalize s.data.toList[i + 1]'(by omega) = d
          have f110 : ((d.toNat : Int) = 110) = (d = 110) := byte_iff d 110
          have f92 : ((d.toNat : Int) = 92) = (d = 92) := byte_iff d 92
          have f34 : ((d.toNat : Int) = 34) = (d = 34) := byte_iff d 34
          simp only [f110, f92, f34]
          by_cases d110 : d = 110
          · subst d110
            rw [if_pos rfl, if_pos hlen, unescR_n]
            have := ih (n - 2) (by omega) k (i + 2) (bs ++ [10]) (by omega) (by omega) (by simp; omega)
            rw [← nb_snoc] at this
            exact this
          · rw [if_neg d110]
            by_cases d92 : d = 92
            · rw [if_pos d92, if_pos hlen, unescR_two _ _ _ d110 (Or.inl d92), nb_snoc]
              exact ih (n - 2) (by omega) k (i + 2) _ (by omega) (by omega) (by simp; omega)
            · rw [if_neg d92]
              by_cases d34 : d = 34
              · rw [if_pos d34, if_pos hlen, unescR_two _ _ _ d110 (Or.inr d34), nb_snoc]
                exact ih (n - 2) (by omega) k (i + 2) _ (by omega) (by omega) (by simp; omega)
              · rw [if_neg d34, unescR_not _ _ _ d110 (by simp [d92, d34])]
      · rw [if_neg h92]
        by_cases h34 : c = 34
        · rw [if_pos h34, unescR_bad _ _ _ (Or.inl h34)]
        · rw [if_neg h34]
          by_cases h10 : c = 10
          · rw [if_pos h10, unescR_bad _ _ _ (Or.inr h10)]
          · rw [if_neg h10, if_pos hlen, unescR_one _ _ _ (by simp [h34, h10]) h92, nb_snoc]
            exact ih (n - 1) (by omega) k (i + 1) _ (by omega) (by omega) (by simp; omega)
theorem refEscape_go (s : ByteArray) (hs : s.size ≤ 1099511627776) : ∀ (n k i : Nat) (bs : List UInt8), i + n = s.size → n < k → bs.length ≤ 2 * i →
    odometerref03_Escape.l0 k s (nb bs) (i : Int) = some ⟨(bs ++ (s.data.toList.drop i).flatMap escByte).toArray⟩
  | 0, k + 1, i, bs, h, hk, hb => by
    have hsz : s.data.toList.length = s.size := by simp
    obtain rfl : i = s.size := by omega
    rw [odometerref03_Escape.l0, if_neg (by omega), List.drop_of_length_le (by omega), str_nb]
    simp
  | n + 1, k + 1, i, bs, h, hk, hb => by
    have hsz : s.data.toList.length = s.size := by simp
    have hi : i < s.size := by omega
    have hw : wrap64 ((i : Int) + 1) = ((i + 1 : Nat) : Int) := by rw [wrap_of] <;> omega
    have hlen : (nb bs).length < 140737488355328 := by rw [nb_length]; omega
    rw [odometerref03_Escape.l0, if_pos (by omega), if_pos (by omega), List.drop_eq_getElem_cons (by omega), bt_get s i hi, hw]
    generalize s.data.toList[i]'(by omega) = c
    have e34 : ((c.toNat : Int) = 34) = (c = 34) := byte_iff c 34
    have e10 : ((c.toNat : Int) = 10) = (c = 10) := byte_iff c 10
    have e92 : ((c.toNat : Int) = 92) = (c = 92) := byte_iff c 92
    simp only [e34, e10, e92, Option.bind_some]
    have t1 : nb bs ++ [92, 110] = nb (bs ++ [92, 110]) := nb_two bs 92 110
    have t2 : nb bs ++ [92, (c.toNat : Int)] = nb (bs ++ [92, c]) := nb_two bs 92 c
    have hl2 : (nb bs).length + 2 < 140737488355328 := by rw [nb_length]; omega
    have hrec : ∀ m : List UInt8, m.length ≤ 2 → odometerref03_Escape.l0 k s (nb (bs ++ m)) ((i + 1 : Nat) : Int) = some ⟨((bs ++ m) ++ (s.data.toList.drop (i + 1)).flatMap escByte).toArray⟩ := fun m hm =>
      refEscape_go s hs n k (i + 1) (bs ++ m) (by omega) (by omega) (by simp; omega)
    rw [List.flatMap_cons, ← List.append_assoc]
    unfold escByte at *
    by_cases h10 : c = 10
    · rw [if_pos h10, if_pos (by simpa using hl2), t1, hrec _ (by simp)]
      subst h10
      rfl
    · rw [if_neg h10]
      by_cases h92 : c = 92
      · rw [if_pos h92, if_pos (by simpa using hl2), t2, hrec _ (by simp)]
        subst h92
        rfl
      · rw [if_neg h92]
        by_cases h34 : c = 34
        · rw [if_pos h34, if_pos (by simpa using hl2), t2, hrec _ (by simp)]
          subst h34
          rfl
        · rw [if_neg h34, if_pos hlen, nb_snoc, hrec _ (by simp)]
          simp [h10, h92, h34]
theorem unesc_esc : ∀ l : List UInt8, unesc (l.flatMap escByte) = some l
  | [] => rfl
  | c :: r => by
    rw [List.flatMap_cons]
    have ih := unesc_esc r
    by_cases h92 : c = 92
    · subst h92
      show unesc (92 :: 92 :: _) = _
      rw [unesc]
      simp [ih]
    · by_cases h34 : c = 34
      · subst h34
        show unesc (92 :: 34 :: _) = _
        rw [unesc]
        simp [ih]
      · by_cases h10 : c = 10
        · subst h10
          show unesc (92 :: 110 :: _) = _
          rw [unesc]
          simp [ih]
        · have e : escByte c = [c] := by simp [escByte, h92, h34, h10]
          rw [e]
          show unesc (c :: _) = _
          rw [unesc.eq_def]
          simp [h92, h34, h10, ih]
theorem esc_unesc (l : List UInt8) : ∀ m, unesc l = some m → m.flatMap escByte = l := by
  fun_induction unesc l with
  | case1 => intro m h; cases h; rfl
  | case2 => intro m h; cases h
  | case3 => intro m h; cases h
  | case4 =>
    rename_i ih
    intro m h
    obtain ⟨m', h', rfl⟩ := Option.map_eq_some_iff.1 h
    rw [List.flatMap_cons, ih m' h']
    simp_all [escByte]
  | case5 =>
    rename_i ih
    intro m h
    obtain ⟨m', h', rfl⟩ := Option.map_eq_some_iff.1 h
    rw [List.flatMap_cons, ih m' h']
    simp_all [escByte]
  | case6 => intro m h; cases h
  | case7 =>
    rename_i ih
    intro m h
    obtain ⟨m', h', rfl⟩ := Option.map_eq_some_iff.1 h
    rw [List.flatMap_cons, ih m' h']
    simp_all [escByte]
theorem unescape_f (k : Nat) (s : ByteArray) (hs : s.size ≤ 1099511627776) (hk : 2 * s.size + 1 ≤ k) : label_Unescape.f k s = some (unescR [] s.data.toList) :=
  unescape_go s hs s.size k 0 [] (by omega) (by omega) (by simp)
theorem refUnescape_f (k : Nat) (s : ByteArray) (hs : s.size ≤ 1099511627776) (hk : s.size + 1 ≤ k) : odometerref03_Unescape.f k s = some (unescR [] s.data.toList) :=
  refUnescape_go s hs s.size k 0 [] (by omega) (by omega) (by simp)
theorem refEscape_f (k : Nat) (s : ByteArray) (hs : s.size ≤ 1099511627776) (hk : s.size + 1 ≤ k) : odometerref03_Escape.f k s = some ⟨(s.data.toList.flatMap escByte).toArray⟩ := by
  have h := refEscape_go s hs s.size k 0 [] (by omega) (by omega) (by simp)
  rw [List.drop_zero, List.nil_append] at h
  exact h
theorem bytes_eta (s : ByteArray) : (⟨s.data.toList.toArray⟩ : ByteArray) = s := by cases s; simp
theorem unesc_le : ∀ (l m : List UInt8), unesc l = some m → m.length ≤ l.length := by
  intro l m h
  have h1 := esc_unesc l m h
  have h2 : m.length ≤ (m.flatMap escByte).length := by
    clear h h1
    induction m with
    | nil => simp
    | cons c r ih =>
      rw [List.flatMap_cons, List.length_append, List.length_cons]
      have : 1 ≤ (escByte c).length := by unfold escByte; split <;> (try split) <;> simp
      omega
  rw [h1] at h2
  exact h2
theorem escapes_true (a0 : ByteArray) (h0 : a0.size ≤ 1000) : odometerlaw03_LabelEscapes.f 5000 a0 = some true := by
  have hle : (a0.data.toList.flatMap escByte).length ≤ 2000 := by
    have := esc_le a0.data.toList
    have h2 : a0.data.toList.length = a0.size := by simp
    omega
  have hx : (⟨(a0.data.toList.flatMap escByte).toArray⟩ : ByteArray).size ≤ 2000 := by simpa [ByteArray.size] using hle
  unfold odometerlaw03_LabelEscapes.f
  rw [if_neg (by omega), show label_Escape.f a0 = some (⟨(a0.data.toList.flatMap escByte).toArray⟩ : ByteArray) from if_pos (by omega), Option.bind_some, unescape_f 5000 _ (by omega) (by omega), Option.bind_some, unescape_f 5000 a0 (by omega) (by omega), Option.bind_some, refUnescape_f 5000 a0 (by omega) (by omega), Option.bind_some, refEscape_f 5000 a0 (by omega) (by omega), Option.bind_some, if_pos rfl]
  have hu : unescR [] (⟨(a0.data.toList.flatMap escByte).toArray⟩ : ByteArray).data.toList = (a0, true) := by
    simp [unescR, unesc_esc, bytes_eta]
  rw [hu, if_pos rfl, if_pos rfl, if_pos rfl, if_pos (by simp), known_ge 5000 (by omega)]
  cases hm : unesc a0.data.toList with
  | none =>
    have hr : (unescR [] a0.data.toList).2 = false := by simp [unescR, hm]
    rw [if_neg (by rw [hr]; simp)]
    rfl
  | some m =>
    have hr : unescR [] a0.data.toList = (⟨m.toArray⟩, true) := by simp [unescR, hm]
    have hml : m.length ≤ 1000 := by
      have := unesc_le _ _ hm
      have h2 : a0.data.toList.length = a0.size := by simp
      omega
    have hms : (⟨m.toArray⟩ : ByteArray).size ≤ 1000 := by simpa [ByteArray.size] using hml
    rw [hr, if_pos rfl, show ((⟨m.toArray⟩ : ByteArray), true).1 = (⟨m.toArray⟩ : ByteArray) from rfl, refEscape_f 5000 _ (by omega) (by omega), Option.bind_some]
    have he : (⟨((⟨m.toArray⟩ : ByteArray).data.toList.flatMap escByte).toArray⟩ : ByteArray) = a0 := by
      simp only [List.toList_toArray, esc_unesc _ _ hm, bytes_eta]
    rw [he, if_pos rfl]
    rfl
theorem LabelEscapes : odometerlaw03_LabelEscapes.Pure := by
  intro a0 _
  by_cases h0 : a0.size ≤ 1000
  · exact ⟨5000, escapes_true a0 h0⟩
  · refine ⟨10, ?_⟩
    unfold odometerlaw03_LabelEscapes.f
    rw [if_pos (by omega), known_ge 10 (by omega)]
    rfl
end Go.Proofs.Ytapfpnfdpcgpaaa.Pure
