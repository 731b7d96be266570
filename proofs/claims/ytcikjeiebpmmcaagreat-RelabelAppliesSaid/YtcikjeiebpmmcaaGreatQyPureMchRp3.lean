/- A text of this claim, pruned by a program of the session (prune.py) to what the theorem rests on. -/
import Derived.Test.YtcikjeiebpmmcaaGreatQyPureMchRp1
namespace Go.Proofs.YtcikjeiebpmmcaaGreat.PureMch
open Go.RowKit Go.Proofs.YtcikjeiebpmmcaaGreat Go.Proofs.YtcikjeiebpmmcaaGreat.PMch Go.Proofs.YtcikjeiebpmmcaaGreatW.PrintWords
set_option linter.unusedVariables false
set_option linter.unusedSimpArgs false
theorem l2_scan (A B nm : List UInt8) (hno : (61 : UInt8) ∉ nm) (m : ByteArray) (l : List Lb) (fr : Int) (hl : (A ++ nm ++ 61 :: B).length ≤ 4000000) : ∀ (w d : List UInt8) (k : Nat), nm = d ++ w →
    odometerref03_Parse.l2 (k + w.length + 1) (ba (A ++ nm ++ 61 :: B)) ((A.length + d.length : Nat) : Int) m l fr = odometerref03_Parse.j4 k (ba (A ++ nm ++ 61 :: B)) ((A.length + nm.length : Nat) : Int) m l fr
  | [], d, k, h => by
    rw [List.append_nil] at h
    subst h
    have hb := bt_mid (A ++ nm) B 61 (A.length + nm.length) (by simp)
    have hz : (ba (A ++ nm ++ 61 :: B)).size = (A ++ nm ++ 61 :: B).length := size_ba _
    have hz2 : (A ++ nm ++ 61 :: B).length = A.length + nm.length + 1 + B.length := by simp; omega
    rw [List.length_nil, Nat.add_zero, odometerref03_Parse.l2, if_pos (by omega), if_pos (by omega), if_pos (by rw [hb]; rfl)]
  | c :: w, d, k, h => by
    have hc : c ≠ 61 := fun e => hno (by rw [h, e]; simp)
    have hsp : A ++ nm ++ 61 :: B = (A ++ d) ++ c :: (w ++ 61 :: B) := by rw [h]; simp
    have hb := bt_mid (A ++ d) (w ++ 61 :: B) c (A.length + d.length) (by simp)
    rw [← hsp] at hb
    have hz : (ba (A ++ nm ++ 61 :: B)).size = (A ++ nm ++ 61 :: B).length := size_ba _
    have hz2 : (A ++ nm ++ 61 :: B).length = A.length + d.length + 1 + (w.length + 1 + B.length) := by rw [hsp]; simp; omega
    have n61 : ¬ ((c.toNat : Int) = 61) := fun e => hc (by rw [← byte_iff c 61]; exact e)
    have ih := l2_scan A B nm hno m l fr hl w (d ++ [c]) k (by rw [h]; simp)
    rw [show A.length + (d ++ [c]).length = A.length + d.length + 1 by simp; omega] at ih
    rw [List.length_cons, show k + (w.length + 1) + 1 = (k + w.length + 1) + 1 by omega, odometerref03_Parse.l2, if_pos (by omega), if_pos (by omega), hb, if_neg n61, wrap_one _ (by omega)]
    exact ih
set_option maxHeartbeats 2000000 in
set_option maxRecDepth 20000 in
theorem l1_name (m : ByteArray) (hm : m.size ≤ 10000) (x0 : ByteArray) (l : List Lb) : ∀ (acc : List Lb) (pre : List UInt8) (sep : UInt8) (k : Nat), l ≠ [] → Small (acc ++ l) → (acc ++ l).length ≤ 16 → (∀ x ∈ l, namedB x.f0 95 = true) → nameF m (acc ++ l) = (x0, 0) →
    x0 = ba (pre ++ sep :: ltext l) → pre.length + (ltext l).length ≤ 1900000 → l.length * 20000 + 70000 ≤ k → odometerref03_Parse.l1 k x0 (pre.length : Int) m acc = some (m, acc ++ l, 0) := by
  induction l with
  | nil =>
    intro _ _ _ _ h
    exact absurd rfl h
  | cons x r ih =>
    intro acc pre sep k _ hs hl hn hF hx0 hlen hk
    have hx := hs.2 x (by simp)
    have hxn := word_no x.f0 (hn x (by simp))
    have hnm := named_size x.f0 95 (hn x (by simp))
    simp only [List.length_append, List.length_cons] at hl hk
    have hbx : (bl x.f1).length ≤ 10000 := by rw [bl_length]; exact hx.2
    have hex := esc_len (bl x.f1)
    have hn0 : (bl x.f0).length = x.f0.size := bl_length _
    obtain ⟨tail, he, hnx⟩ : ∃ tail, ltext (x :: r) = one x ++ tail ∧ ((r = [] ∧ tail = [125]) ∨ (∃ y r', r = y :: r' ∧ tail = 44 :: ltext r)) := by
      cases r with
      | nil => exact ⟨[125], rfl, Or.inl ⟨rfl, rfl⟩⟩
      | cons y r' => exact ⟨44 :: ltext (y :: r'), by rw [ltext]; simp, Or.inr ⟨y, r', rfl, rfl⟩⟩
    generalize hV : (bl x.f1).flatMap escByte = V at *
    have hone : one x = bl x.f0 ++ 61 :: 34 :: (V ++ [34]) := by simp [one, hV]
    have hL : pre ++ sep :: ltext (x :: r) = (pre ++ [sep]) ++ bl x.f0 ++ 61 :: (34 :: (V ++ 34 :: tail)) := by rw [he, hone]; simp
    have htl : (ltext (x :: r)).length = (bl x.f0).length + (V.length + 3) + tail.length := by
      rw [he, hone]
      simp
      omega
    rw [hL] at hx0
    have hzL : ((pre ++ [sep]) ++ bl x.f0 ++ 61 :: (34 :: (V ++ 34 :: tail))).length = pre.length + 1 + (bl x.f0).length + 3 + V.length + tail.length := by simp; omega
    have hz : x0.size = pre.length + 1 + (bl x.f0).length + 3 + V.length + tail.length := by rw [hx0, size_ba, hzL]
    obtain ⟨k, rfl⟩ : ∃ j, k = (j + (bl x.f0).length + 1) + 1 := ⟨k - (bl x.f0).length - 2, by omega⟩
    have hscan := l2_scan (pre ++ [sep]) (34 :: (V ++ 34 :: tail)) (bl x.f0) hxn m acc ((pre.length + 1 : Nat) : Int) (by omega) (bl x.f0) [] k rfl
    rw [← hx0, List.length_nil, Nat.add_zero, show (pre ++ [sep]).length = pre.length + 1 by simp] at hscan
    rw [odometerref03_Parse.l1, if_pos (by omega), wrap_one _ (by omega), hscan]
    generalize hq : pre.length + 1 + (bl x.f0).length = q at *
    obtain ⟨k, rfl⟩ : ∃ j, k = j + 3 := ⟨k - 3, by omega⟩
    have hkr : r.length * 20000 + 70000 ≤ k := Nat.not_lt.1 (fun hno => by omega)
    have hb34 : Aside0 (bt x0 ((q + 1 : Nat) : Int) = 34) := ⟨by
      have := bt_mid ((pre ++ [sep]) ++ bl x.f0 ++ [61]) (V ++ 34 :: tail) 34 (q + 1) (by simp; omega)
      rw [show ((pre ++ [sep]) ++ bl x.f0 ++ [61]) ++ 34 :: (V ++ 34 :: tail) = (pre ++ [sep]) ++ bl x.f0 ++ 61 :: (34 :: (V ++ 34 :: tail)) by simp, ← hx0] at this
      rw [this]
      rfl⟩
    have hd : ∀ (n : Nat) (A B : List UInt8), n = A.length → ba (A ++ B) = x0 → x0.extract n x0.size = ba B := by
      intro n A B h1 h2
      rw [← h2, extract_ba, size_ba, List.take_of_length_le (Nat.le_refl _), h1, List.drop_left]
    have hx1 : x0.extract (q + 1) x0.size = ba (34 :: (V ++ 34 :: tail)) := hd _ ((pre ++ [sep]) ++ bl x.f0 ++ [61]) _ (by simp; omega) (by rw [hx0]; congr 1; simp)
    have hx2 : x0.extract (q + 2) (q + 2 + V.length) = ba V := by
      rw [hx0, extract_ba]
      congr 1
      rw [show (pre ++ [sep]) ++ bl x.f0 ++ 61 :: (34 :: (V ++ 34 :: tail)) = ((pre ++ [sep]) ++ bl x.f0 ++ [61, 34]) ++ (V ++ 34 :: tail) by simp, List.take_append, List.drop_append]
      have e1 : ((pre ++ [sep]) ++ bl x.f0 ++ [61, 34]).length = q + 2 := by simp; omega
      rw [List.take_of_length_le (by omega), e1, List.drop_of_length_le (by omega), Nat.sub_self, List.drop_zero, show q + 2 + V.length - (q + 2) = V.length by omega, List.take_left, List.nil_append]
    have hx3 : x0.extract (pre.length + 1) q = x.f0 := by
      rw [hx0, extract_ba, List.append_assoc (pre ++ [sep]), List.take_append, List.drop_append]
      have e1 : (pre ++ [sep]).length = pre.length + 1 := by simp
      rw [List.take_of_length_le (by omega), e1, List.drop_of_length_le (by omega), Nat.sub_self, List.drop_zero, show q - (pre.length + 1) = (bl x.f0).length by omega, List.take_left, List.nil_append, ba_bl]
    have hQ : odometerref03_quoted.f (k + 1) (ba (34 :: (V ++ 34 :: tail))) = some ((1 + V.length : Nat) : Int) := by
      have := quoted_f (bl x.f1) tail hbx (by omega) (k + 1) (by omega)
      rwa [hV] at this
    have hU : odometerref03_Unescape.f (k + 1) (ba V) = some (x.f1, true) := by
      rw [refUnescape_f (k + 1) (ba V) (by rw [size_ba]; omega) (by rw [size_ba]; omega), show (ba V).data.toList = V from bl_ba V, ← hV]
      simp only [unescR, unesc_esc, List.nil_append]
      rw [show (⟨(bl x.f1).toArray⟩ : ByteArray) = x.f1 from ba_bl _]
    have hwq : Aside0 (wrap64 (((q + 1 : Nat) : Int) + ((1 + V.length : Nat) : Int)) = ((q + 2 + V.length : Nat) : Int)) := ⟨by
      rw [wrap_add (q + 1) (1 + V.length) (by omega)]
      congr 1
      omega⟩
    have eta : (⟨x.f0, x.f1⟩ : Lb) = x := rfl
    rw [odometerref03_Parse.j4, wrap_one q (by omega), if_neg (by omega), if_pos (by omega), if_pos (by omega), if_pos hb34.out, decide_eq_false (by omega), odometerref03_Parse.j5, if_neg (by simp), wrap_one q (by omega), wrap_plus2 q (by omega), if_pos (by omega), if_pos (by omega), Int.toNat_natCast, hx1, hQ, Option.bind_some,
      if_neg (by omega), if_pos (by omega), hwq.out, if_pos (by omega), if_pos (by omega), Int.toNat_natCast, Int.toNat_natCast, hx2, hU, Option.bind_some, if_pos rfl, if_pos (by omega), if_pos (by omega), if_pos (by omega), if_pos (by omega), Int.toNat_natCast, Int.toNat_natCast, hx3, Option.bind_some, wrap_one (q + 2 + V.length) (by omega), wrap_less x0.size (by omega) (by omega)]
    simp only [eta]
    rcases hnx with ⟨rfl, rfl⟩ | ⟨y, r', rfl, rfl⟩
    · have h125 : Aside0 (bt x0 ((q + 2 + V.length + 1 : Nat) : Int) = 125) := ⟨by
        have := bt_mid ((pre ++ [sep]) ++ bl x.f0 ++ 61 :: (34 :: (V ++ [34]))) [] 125 (q + 2 + V.length + 1) (by simp; omega)
        rw [show ((pre ++ [sep]) ++ bl x.f0 ++ 61 :: (34 :: (V ++ [34]))) ++ [125] = (pre ++ [sep]) ++ bl x.f0 ++ 61 :: (34 :: (V ++ 34 :: [125])) by simp, ← hx0] at this
        rw [this]
        rfl⟩
      simp only [List.length_cons, List.length_nil] at hz
      rw [if_pos (by omega), if_pos (by omega), if_pos (by omega), h125.out, show ((125 : Int) == 125) = true from rfl, odometerref03_Parse.j6, if_pos rfl, refName_f m hm (acc ++ [x]) hs k (by omega), Option.bind_some, hF, if_pos rfl, if_pos rfl]
    · have h44 : Aside0 (bt x0 ((q + 2 + V.length + 1 : Nat) : Int) = 44) := ⟨by
        have := bt_mid ((pre ++ [sep]) ++ bl x.f0 ++ 61 :: (34 :: (V ++ [34]))) (ltext (y :: r')) 44 (q + 2 + V.length + 1) (by simp; omega)
        rw [show ((pre ++ [sep]) ++ bl x.f0 ++ 61 :: (34 :: (V ++ [34]))) ++ 44 :: ltext (y :: r') = (pre ++ [sep]) ++ bl x.f0 ++ 61 :: (34 :: (V ++ 34 :: (44 :: ltext (y :: r')))) by simp, ← hx0] at this
        rw [this]
        rfl⟩
      have hne : 0 < (ltext (y :: r')).length := by rw [ltext_join]; simp
      simp only [List.length_cons] at hz htl hk hl
      rw [if_neg (by omega), odometerref03_Parse.j6, if_neg (by simp), if_neg (by omega), if_pos (by omega), if_pos (by omega), if_pos h44.out]
      have hpl : ((pre ++ [sep]) ++ bl x.f0 ++ 61 :: (34 :: (V ++ [34]))).length = q + 2 + V.length + 1 := by simp; omega
      have := ih (acc ++ [x]) ((pre ++ [sep]) ++ bl x.f0 ++ 61 :: (34 :: (V ++ [34]))) 44 k (by simp) (by simpa using hs) (by simp; omega) (fun z hz => hn z (by simp at hz ⊢; exact Or.inr hz)) (by simpa using hF)
        (by rw [hx0]; congr 1; simp) (by rw [hpl]; omega) hkr
      rw [hpl, List.append_assoc] at this
      exact this
end Go.Proofs.YtcikjeiebpmmcaaGreat.PureMch
