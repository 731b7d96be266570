import Derived.Test.YtdgmgbcjlmighaaDoorGParts
import Derived.Lib.SmallJoins
/-! fix.word, fix.signed, fix.Parse: of ASCII texts. -/
namespace Go.Proofs.YtdgmgbcjlmighaaDoor
open Go.RowKit Go.Proofs.YtdgmgbcjlmighaaDoorW.PrintWords Go.Proofs.YtdgmgbcjlmighaaDoorW.PrintMore
set_option linter.unusedVariables false
set_option linter.unusedSimpArgs false
theorem bytes_list (l : List UInt8) : (⟨l.toArray⟩ : ByteArray).toList = l := by rw [ByteArray.toList_eq]
theorem toList_inj {a b : ByteArray} (h : a.toList = b.toList) : a = b := by
  rw [ByteArray.toList_eq, ByteArray.toList_eq] at h
  apply ByteArray.ext
  exact Array.toList_inj.1 h
theorem tail_extract (c : UInt8) (r : List UInt8) : (⟨(c :: r).toArray⟩ : ByteArray).extract 1 (r.length + 1) = ⟨r.toArray⟩ := by
  apply ByteArray.ext
  rw [ByteArray.data_extract]
  apply Array.ext'
  simp
theorem unsign_no {c : UInt8} {r : List UInt8} (h : ¬ (c = 43 ∨ c = 45)) : unsign (c :: r) = c :: r := if_neg h
theorem unsign_yes {c : UInt8} {r : List UInt8} (h : c = 43 ∨ c = 45) : unsign (c :: r) = r := if_pos h
set_option maxHeartbeats 2000000 in
set_option maxRecDepth 100000 in
theorem word_calls (s : ByteArray) (w : World) (hs : s.size ≤ 1000000) (ha : ∀ (j : Nat) (b : UInt8), s.data.toList[j]? = some b → b.toNat < 128) :
    Calls Tryd.prog 20 #[.string s] w fun e w' => e = .returned (.bool (wordF s.data.toList)) ∧ Below w.heap.size w w' := by
  have hT := Tryd.strings_ToLower_ascii s w (by omega) ha
  have HF : Aside0 (wordF s.data.toList = wordL (unsign (Lib.toLowerA s.data.toList))) := ⟨rfl⟩
  generalize wordF s.data.toList = F at *
  generalize Lib.toLowerA s.data.toList = l at *
  clear ha
  go_enter Tryd.func20, Tryd.ntmps20
  go_wp2_with fail
  refine hT.mono ?_
  rintro e w1 ⟨rfl, hB⟩
  clear hT
  cases l with
  | nil =>
    go_wp2
    go_ret
    exact ⟨by rw [HF.out]; rfl, hB⟩
  | cons c r =>
    have hsz : (⟨(c :: r).toArray⟩ : ByteArray).size = r.length + 1 := by simp [ByteArray.size]
    by_cases hs : c = 43 ∨ c = 45
    · have hu := unsign_yes (r := r) hs
      have hx := tail_extract c r
      have hr := bytes_list r
      have hg : ((⟨(c :: r).toArray⟩ : ByteArray)[0]'(by rw [hsz]; omega)) = c := rfl
      have hc : ((c.toNat : Int) == 43) = true ∨ (((c.toNat : Int) == 43) = false ∧ ((c.toNat : Int) == 45) = true) := by rcases hs with rfl | rfl <;> decide
      clear hs
      rcases hc with hc | ⟨hc, hc5⟩
      all_goals
        by_cases h0 : r = [110, 97, 110]
        · have HW : Aside0 (F = true) := ⟨by rw [HF.out, hu, h0]; rfl⟩
          have q0 : (r == [110, 97, 110]) = true := by rw [h0]; rfl
          clear HF h0
          go_wp2
          all_goals
            go_ret
            exact ⟨by rw [HW.out]; rfl, hB⟩
        have q0 : (r == [110, 97, 110]) = false := by simpa using h0
        by_cases h1 : r = [105, 110, 102]
        · have HW : Aside0 (F = true) := ⟨by rw [HF.out, hu, h1]; rfl⟩
          have q1 : (r == [105, 110, 102]) = true := by rw [h1]; rfl
          clear HF h0 h1
          go_wp2
          all_goals
            go_ret
            exact ⟨by rw [HW.out]; rfl, hB⟩
        have q1 : (r == [105, 110, 102]) = false := by simpa using h1
        by_cases h2 : r = [105, 110, 102, 105, 110, 105, 116, 121]
        · have HW : Aside0 (F = true) := ⟨by rw [HF.out, hu, h2]; rfl⟩
          have q2 : (r == [105, 110, 102, 105, 110, 105, 116, 121]) = true := by rw [h2]; rfl
          clear HF h0 h1 h2
          go_wp2
          all_goals
            go_ret
            exact ⟨by rw [HW.out]; rfl, hB⟩
        have q2 : (r == [105, 110, 102, 105, 110, 105, 116, 121]) = false := by simpa using h2
        have HW : Aside0 (F = false) := ⟨by rw [HF.out, hu]; simp only [wordL, q0, q1, q2, Bool.or_false]⟩
        clear HF h0 h1 h2
        go_wp2
        all_goals
          go_ret
          exact ⟨by rw [HW.out]; rfl, hB⟩
    · have hu := unsign_no (r := r) hs
      have hg : ((⟨(c :: r).toArray⟩ : ByteArray)[0]'(by rw [hsz]; omega)) = c := rfl
      have hr := bytes_list (c :: r)
      have n43 : ((c.toNat : Int) == 43) = false := by
        rw [beq_eq_false_iff_ne]
        intro h
        exact hs (Or.inl (UInt8.toNat_inj.1 (by simpa using (by omega : c.toNat = 43))))
      have n45 : ((c.toNat : Int) == 45) = false := by
        rw [beq_eq_false_iff_ne]
        intro h
        exact hs (Or.inr (UInt8.toNat_inj.1 (by simpa using (by omega : c.toNat = 45))))
      clear hs
      by_cases h0 : (c :: r) = [110, 97, 110]
      · have HW : Aside0 (F = true) := ⟨by rw [HF.out, hu, h0]; rfl⟩
        have q0 : ((c :: r) == [110, 97, 110]) = true := by rw [h0]; rfl
        clear HF h0
        go_wp2
        all_goals
          go_ret
          exact ⟨by rw [HW.out]; rfl, hB⟩
      have q0 : ((c :: r) == [110, 97, 110]) = false := by simpa using h0
      by_cases h1 : (c :: r) = [105, 110, 102]
      · have HW : Aside0 (F = true) := ⟨by rw [HF.out, hu, h1]; rfl⟩
        have q1 : ((c :: r) == [105, 110, 102]) = true := by rw [h1]; rfl
        clear HF h0 h1
        go_wp2
        all_goals
          go_ret
          exact ⟨by rw [HW.out]; rfl, hB⟩
      have q1 : ((c :: r) == [105, 110, 102]) = false := by simpa using h1
      by_cases h2 : (c :: r) = [105, 110, 102, 105, 110, 105, 116, 121]
      · have HW : Aside0 (F = true) := ⟨by rw [HF.out, hu, h2]; rfl⟩
        have q2 : ((c :: r) == [105, 110, 102, 105, 110, 105, 116, 121]) = true := by rw [h2]; rfl
        clear HF h0 h1 h2
        go_wp2
        all_goals
          go_ret
          exact ⟨by rw [HW.out]; rfl, hB⟩
      have q2 : ((c :: r) == [105, 110, 102, 105, 110, 105, 116, 121]) = false := by simpa using h2
      have HW : Aside0 (F = false) := ⟨by rw [HF.out, hu]; simp only [wordL, q0, q1, q2, Bool.or_false]⟩
      clear HF h0 h1 h2
      go_wp2
      all_goals
        go_ret
        exact ⟨by rw [HW.out]; rfl, hB⟩
theorem ret_two {a b a' b' : Int} (h1 : a = a') (h2 : b = b') : Ending.returned (.tuple #[.int .i64 a, .int .i64 b]) = .returned (.tuple #[.int .i64 a', .int .i64 b']) := by rw [h1, h2]
set_option maxHeartbeats 2000000 in
theorem signed_calls (n : Nat) (neg : Bool) (w : World) (hn : n < 18446744073709551616) :
    Calls Tryd.prog 26 #[.int .u64 n, .bool neg] w fun e w' => e = .returned (.tuple #[.int .i64 (signedF n neg).1, .int .i64 (signedF n neg).2]) ∧ w' = w := by
  have HF : Aside0 (signedF n neg = if neg = true ∧ n ≤ 9223372036854775808 then (-(n : Int), 0) else if neg = false ∧ n ≤ 9223372036854775807 then ((n : Int), 0) else (0, 4)) := ⟨rfl⟩
  generalize signedF n neg = F at *
  cases neg with
  | true =>
    by_cases h : n ≤ 9223372036854775808
    · have h1 : (n : Int) ≤ 9223372036854775808 := by omega
      have h2 : decide ((n : Int) ≤ 9223372036854775808) = true := decide_eq_true h1
      have HR : Aside0 (F = (-(n : Int), 0)) := ⟨HF.out.trans (if_pos ⟨rfl, h⟩)⟩
      have HW : Aside0 (wrap64 (-wrap64 (n : Int)) = -(n : Int)) := ⟨by unfold wrap64; omega⟩
      clear HF
      go_enter Tryd.func26, Tryd.ntmps26
      go_wp2
      go_ret2
      rw [HR.out]
      exact ⟨ret_two (a := wrap64 (-wrap64 (n : Int))) (b := 0) HW.out rfl, rfl⟩
    · have h1 : ¬ (n : Int) ≤ 9223372036854775808 := by omega
      have h2 : decide ((n : Int) ≤ 9223372036854775808) = false := decide_eq_false h1
      have HR : Aside0 (F = (0, 4)) := ⟨HF.out.trans ((if_neg (by simp; omega)).trans (if_neg (by simp)))⟩
      clear HF
      go_enter Tryd.func26, Tryd.ntmps26
      go_wp2
      go_ret2
      rw [HR.out]
      exact ⟨rfl, rfl⟩
  | false =>
    by_cases h : n ≤ 9223372036854775807
    · have h1 : (n : Int) ≤ 9223372036854775807 := by omega
      have h2 : decide ((n : Int) ≤ 9223372036854775807) = true := decide_eq_true h1
      have HR : Aside0 (F = ((n : Int), 0)) := ⟨HF.out.trans ((if_neg (by simp)).trans (if_pos ⟨rfl, h⟩))⟩
      clear HF
      go_enter Tryd.func26, Tryd.ntmps26
      go_wp2
      go_ret2
      rw [HR.out]
      exact ⟨rfl, rfl⟩
    · have h1 : ¬ (n : Int) ≤ 9223372036854775807 := by omega
      have h2 : decide ((n : Int) ≤ 9223372036854775807) = false := decide_eq_false h1
      have HR : Aside0 (F = (0, 4)) := ⟨HF.out.trans ((if_neg (by simp)).trans (if_neg (by simp; omega)))⟩
      clear HF
      go_enter Tryd.func26, Tryd.ntmps26
      go_wp2
      go_ret2
      rw [HR.out]
      exact ⟨rfl, rfl⟩
theorem size_list (l : List UInt8) : (⟨l.toArray⟩ : ByteArray).size = l.length := by simp [ByteArray.size]
theorem data_list (l : List UInt8) : (⟨l.toArray⟩ : ByteArray).data.toList = l := by simp
theorem data_append (a b : List UInt8) : ((⟨a.toArray⟩ : ByteArray) ++ ⟨b.toArray⟩).data.toList = a ++ b := by rw [ByteArray.data_append]; simp
theorem trimL_len (l : List UInt8) (c : UInt8) : (Lib.trimLeftB l c).length ≤ l.length := (List.dropWhile_sublist _).length_le
theorem trimR_len (l : List UInt8) (c : UInt8) : (Lib.trimRightB l c).length ≤ l.length := by
  unfold Lib.trimRightB
  have := ((l.reverse).dropWhile_sublist (fun x => x == c)).length_le
  simpa using this
theorem trimL_mem {l : List UInt8} {c d : UInt8} (h : d ∈ Lib.trimLeftB l c) : d ∈ l := (List.dropWhile_sublist _).mem h
theorem trimR_mem {l : List UInt8} {c d : UInt8} (h : d ∈ Lib.trimRightB l c) : d ∈ l := by
  unfold Lib.trimRightB at h
  have := ((l.reverse).dropWhile_sublist (fun x => x == c)).mem (List.mem_reverse.1 h)
  exact List.mem_reverse.1 this
theorem all_of_drop (p : UInt8 → Bool) : ∀ l : List UInt8, l.dropWhile p = [] → ∀ c ∈ l, p c = true
  | [], _, c, hc => by cases hc
  | a :: r, h, c, hc => by
    rw [List.dropWhile_cons] at h
    split at h
    · rename_i ha
      rcases List.mem_cons.1 hc with rfl | hc
      · exact ha
      · exact all_of_drop p r h c hc
    · cases h
theorem trimR_ne {ds : List UInt8} (h : Lib.trimLeftB ds 48 ≠ []) : Lib.trimRightB (Lib.trimLeftB ds 48) 48 ≠ [] := by
  intro h2
  unfold Lib.trimRightB at h2
  have h3 := List.reverse_eq_nil_iff.1 h2
  have h4 := all_of_drop _ _ h3
  obtain ⟨c, r, hc⟩ : ∃ c r, Lib.trimLeftB ds 48 = c :: r := by
    cases e : Lib.trimLeftB ds 48 with
    | nil => exact absurd e h
    | cons c r => exact ⟨c, r, rfl⟩
  have h5 := h4 c (List.mem_reverse.2 (by rw [hc]; simp))
  have h6 := List.head_dropWhile_not (l := ds) (fun x => x == 48) (by rw [show List.dropWhile (fun x => x == 48) ds = c :: r from hc]; simp)
  have h7 : (List.dropWhile (fun x => x == 48) ds).head (by rw [show List.dropWhile (fun x => x == 48) ds = c :: r from hc]; simp) = c := by
    simp only [show List.dropWhile (fun x => x == 48) ds = c :: r from hc]
    rfl
  rw [h7] at h6
  rw [h5] at h6
  cases h6
theorem rep_mem {d : UInt8} : ∀ n, d ∈ Lib.repeatL [48] n → d = 48
  | 0, h => by cases h
  | n + 1, h => by
    rcases List.mem_append.1 h with h | h
    · exact List.mem_singleton.1 h
    · exact rep_mem n h
theorem numF_zero {neg : Bool} {ds : List UInt8} {e : Int} (h : Lib.trimLeftB ds 48 = []) : numF neg ds e = (0, 0) := if_pos h
theorem numF_range {neg : Bool} {ds : List UInt8} {e : Int} (h : Lib.trimLeftB ds 48 ≠ []) (h2 : zerosF ds e < 0 ∨ 19 < ((shortF ds).length : Int) + zerosF ds e) : numF neg ds e = (0, 4) := (if_neg h).trans (if_pos h2)
theorem numF_num {neg : Bool} {ds : List UInt8} {e : Int} (h : Lib.trimLeftB ds 48 ≠ []) (h2 : ¬ (zerosF ds e < 0 ∨ 19 < ((shortF ds).length : Int) + zerosF ds e)) : numF neg ds e = signedF (natOf (shortF ds ++ Lib.repeatL [48] (zerosF ds e).toNat)) neg := (if_neg h).trans (if_neg h2)
set_option maxHeartbeats 2000000 in
set_option maxRecDepth 100000 in
theorem parse_calls (s : ByteArray) (w : World) (hs : s.size ≤ 1000000) (ha : ∀ (j : Nat) (b : UInt8), s.data.toList[j]? = some b → b.toNat < 128) :
    Calls Tryd.prog 8 #[.string s] w fun e w' => e = .returned (.tuple #[.int .i64 (parseF s.data.toList).1, .int .i64 (parseF s.data.toList).2]) ∧ Below w.heap.size w w' := by
  have HF : Aside0 (parseF s.data.toList = if wordF s.data.toList = true then (0, 4) else match partsF s.data.toList with | none => (0, 3) | some (neg, ds, e) => numF neg ds e) := ⟨rfl⟩
  have hW := word_calls s w hs ha
  have HP := Aside0.mk (fun w => parts_calls s w hs ha)
  generalize parseF s.data.toList = F at *
  clear ha
  cases hwd : wordF s.data.toList with
  | true =>
    rw [hwd] at hW
    have HR : Aside0 (F = (0, 4)) := ⟨HF.out.trans (if_pos hwd)⟩
    clear HF HP hwd
    go_enter Tryd.func8, Tryd.ntmps8
    go_wp2_with fail
    refine hW.mono ?_
    rintro e w1 ⟨rfl, hB⟩
    go_wp2
    go_ret2
    rw [HR.out]
    exact ⟨rfl, hB⟩
  | false =>
    rw [hwd] at hW
    have HF2 : Aside0 (F = match partsF s.data.toList with | none => (0, 3) | some (neg, ds, e) => numF neg ds e) := ⟨HF.out.trans (if_neg (by rw [hwd]; simp))⟩
    clear HF hwd
    go_enter Tryd.func8, Tryd.ntmps8
    go_wp2_with fail
    refine hW.mono ?_
    rintro e w1 ⟨rfl, hB1⟩
    clear hW
    go_wp2_with fail
    refine (HP.out w1).mono ?_
    rintro e w2 hPE
    clear HP
    rcases hPE with ⟨neg, ds, x, hp, rfl, hB2⟩ | ⟨a, b, c, hp, rfl, hB2⟩
    · have hB := hB1.trans (hB2.mono hB1.size)
      have HR : Aside0 (F = numF neg ds x) := ⟨by rw [HF2.out, hp]⟩
      obtain ⟨hdig, hlen, hx1, hx2⟩ := parts_ok hp
      rw [show s.data.toList.length = s.size by simp] at hlen hx1
      have HD := Aside0.mk hdig
      clear HF2 hp hB1 hB2 hdig
      have hTL := Tryd.strings_TrimLeft_one ⟨ds.toArray⟩ 48 (by decide)
      have hl1 := trimL_len ds 48
      have hTR := Tryd.strings_TrimRight_one ⟨(Lib.trimLeftB ds 48).toArray⟩ 48 (by decide)
      have hl2 := trimR_len (Lib.trimLeftB ds 48) 48
      rw [data_list] at hTL hTR
      have HM : Aside0 (∀ c ∈ Lib.trimRightB (Lib.trimLeftB ds 48) 48, 48 ≤ c.toNat ∧ c.toNat ≤ 57) := ⟨fun c hc => HD.out c (trimL_mem (trimR_mem hc))⟩
      have hz0 := @numF_zero neg ds x
      have hz1 := @numF_range neg ds x
      have hz2 := @numF_num neg ds x
      unfold zerosF shortF at hz1 hz2
      have hne0 := @trimR_ne ds
      generalize numF neg ds x = N at *
      generalize Lib.trimLeftB ds 48 = D at *
      generalize Lib.trimRightB D 48 = Sh at *
      have hs1 := size_list D
      have hs2 := size_list Sh
      have HTL := Aside0.mk hTL
      have HTR := Aside0.mk hTR
      clear hTL hTR
      go_wp2_with fail
      refine (HTL.out _).mono ?_
      rintro e w3 ⟨rfl, rfl⟩
      by_cases hD : D = []
      · have HN := Aside0.mk (HR.out.trans (hz0 hD))
        subst hD
        clear hz0 hz1 hz2 HR HTL HTR hne0
        go_wp2
        go_ret2
        rw [HN.out]
        exact ⟨rfl, hB.alloc hB.size _⟩
      · have Hz1 := Aside0.mk (hz1 hD)
        have Hz2 := Aside0.mk (hz2 hD)
        have hne : (⟨D.toArray⟩ : ByteArray).toList = D := bytes_list D
        have hn2 : (D == []) = false := by simpa using hD
        have HSn := Aside0.mk (hne0 hD)
        clear hz0 hz1 hz2 HTL hne0
        go_wp2_with fail
        refine (HTR.out _ (by rw [hs1]; omega)).mono ?_
        rintro e w4 ⟨rfl, rfl⟩
        clear HTR
        have b1 : (-2000000000000 : Int) ≤ x := by omega
        have b2 : x ≤ 2000000000000 := by omega
        have b3 : D.length ≤ 1000000 := by omega
        have b4 : Sh.length ≤ 1000000 := by omega
        obtain ⟨Z, hZ⟩ : ∃ Z : Int, x + 6 + ((D.length : Int) - (Sh.length : Int)) = Z := ⟨_, rfl⟩
        rw [hZ] at Hz1 Hz2
        have b5 : (-3000000000000 : Int) ≤ Z := by omega
        have b6 : Z ≤ 3000000000000 := by omega
        by_cases hq : Z < 0
        · have HN := Aside0.mk (HR.out.trans (Hz1.out (Or.inl hq)))
          have hq2 : decide (Z < 0) = true := decide_eq_true hq
          clear Hz1 Hz2 HR
          go_wp2
          go_ret2
          rw [HN.out]
          exact ⟨rfl, hB.alloc hB.size _⟩
        · have hq2 : decide (Z < 0) = false := decide_eq_false hq
          by_cases hr : 19 < (Sh.length : Int) + Z
          · have HN := Aside0.mk (HR.out.trans (Hz1.out (Or.inr hr)))
            have hr2 : decide (19 < (Sh.length : Int) + Z) = true := decide_eq_true hr
            clear Hz1 Hz2 HR
            go_wp2
            go_ret2
            rw [HN.out]
            exact ⟨rfl, hB.alloc hB.size _⟩
          · have hr2 : decide (19 < (Sh.length : Int) + Z) = false := decide_eq_false hr
            have HN := Aside0.mk (HR.out.trans (Hz2.out (by omega)))
            clear Hz1 Hz2 HR
            obtain ⟨z, rfl⟩ : ∃ z : Nat, Z = z := ⟨Z.toNat, by omega⟩
            have hRp : ∀ w, Calls Tryd.prog 25 #[.string ⟨#[48]⟩, .int .i64 z] w fun e w' => e = .returned (.string ⟨(Lib.repeatL [48] z).toArray⟩) ∧ Below w.heap.size w w' :=
              fun w => Tryd.strings_Repeat ⟨#[48]⟩ z w (by omega) (by rw [show (⟨#[48]⟩ : ByteArray).size = 1 from rfl]; omega)
            have hRl := Lib.repeatL_length [48] z
            rw [List.length_singleton, Nat.mul_one] at hRl
            have HRm := Aside0.mk (fun d => @rep_mem d z)
            rw [Int.toNat_natCast] at HN
            generalize Lib.repeatL [48] z = R at *
            have HP := Aside0.mk (parseUint_ok (Sh ++ R) (fun c hc => by
              rcases List.mem_append.1 hc with hc | hc
              · exact HM.out c hc
              · rw [HRm.out c hc]; decide) (by simp [HSn.out]) (by rw [List.length_append]; omega))
            have hs3 := size_list R
            have HRp := Aside0.mk hRp
            have hsum : Sh.length + R.length ≤ 19 := by omega
            have HL := Aside0.mk hRl
            clear hRp hRl
            go_wp2_with fail
            refine (HRp.out _).mono ?_
            rintro e w5 ⟨rfl, hB5⟩
            have cn : w5.cell? ⟨w2.heap.size, 0, none⟩ = some (.bool neg) := by
              rw [hB5.cell (p := ⟨w2.heap.size, 0, none⟩) (by simp)]
              simp
            have hB6 := (hB.alloc hB.size _).trans (hB5.mono (by simp; have := hB.size; omega))
            have hlt : w2.heap.size < w5.heap.size := by have := hB5.size; simp at this; omega
            clear hB hB5
            go_wp2_with fail
            refine (Tryd.strconv_ParseUint_10_at64_ok _ (by rw [ByteArray.size_append, hs2, hs3]; omega) (natOf (Sh ++ R)) (by rw [data_append]; exact HP.out) w5).mono ?_
            rintro e w6 ⟨rfl, h6⟩
            have hB7 : Below w5.heap.size w5 w6 := by
              rcases h6 with rfl | rfl
              · exact Below.refl _ _
              · exact Joins.below_bytesWorld _ _ _ _ (Nat.le_refl _)
            have cm : w6.cell? ⟨w2.heap.size, 0, none⟩ = some (.bool neg) := (hB7.cell (p := ⟨w2.heap.size, 0, none⟩) hlt).trans cn
            have hB8 := hB6.trans (hB7.mono hB6.size)
            have hnat := natOf_lt (Sh ++ R) (by rw [List.length_append]; omega) (fun c hc => by
              rcases List.mem_append.1 hc with hc | hc
              · exact HM.out c hc
              · rw [HRm.out c hc]; decide)
            clear h6 hB7 hB6 cn
            generalize natOf (Sh ++ R) = n at *
            go_wp2_with fail
            refine (signed_calls n neg w6 hnat).mono ?_
            rintro e w7 ⟨rfl, rfl⟩
            go_wp2
            go_ret2
            rw [HN.out]
            exact ⟨rfl, hB8⟩
    · have hB := hB1.trans (hB2.mono hB1.size)
      have HR : Aside0 (F = (0, 3)) := ⟨by rw [HF2.out, hp]⟩
      clear HF2 hp hB1 hB2
      go_wp2
      go_ret2
      rw [HR.out]
      exact ⟨rfl, hB.alloc hB.size _⟩
end Go.Proofs.YtdgmgbcjlmighaaDoor
