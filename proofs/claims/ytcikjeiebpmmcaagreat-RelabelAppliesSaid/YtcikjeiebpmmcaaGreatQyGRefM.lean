/- Pruned. -/
import Derived.Test.YtcikjeiebpmmcaaGreatQyGFits
import Derived.Laws.OwnMore
import Derived.OwnWalk
import Derived.BigRegion
namespace Go.Proofs.YtcikjeiebpmmcaaGreat
open Go.RowKit Go.Proofs.YtcikjeiebpmmcaaGreatW.PrintWords Go.Proofs.YtcikjeiebpmmcaaGreatW.PrintLast Go.Proofs.YtcikjeiebpmmcaaGreatW.PrintMore Go.Sort Go.Shelf
set_option linter.unusedVariables false
set_option linter.unusedSimpArgs false
section
variable {β : Type} (st an : β → Bool) (ch : β → Int) (text : ByteArray)
def okM (x : β) (k : Nat) : Bool := an x || decide (ch x = bt text (k : Int))
def tokM (x : β) : Tok β := if st x then .star else .one x
def matchT (ls : List β) (ok : Bool) : List ByteArray × Bool :=
  if ok = false then ([], false) else if fitsF (okM an ch text) text.size (ls.map (tokM st)) 0 = true then (tookF (okM an ch text) text.size text (ls.map (tokM st)) 0, true) else ([], false)
variable (ls : List β)
def fitM (i k : Nat) : Bool := fitsF (okM an ch text) text.size ((ls.map (tokM st)).drop i) k
theorem toksM_at (i : Nat) (h : i < ls.length) : (ls.map (tokM st)).drop i = tokM st ls[i] :: (ls.map (tokM st)).drop (i + 1) := by
  rw [List.drop_eq_getElem_cons (by simpa using h), List.getElem_map]
theorem fitM_end (k : Nat) : fitM st an ch text ls ls.length k = ((k : Int) == (text.size : Int)) := by
  unfold fitM
  rw [List.drop_of_length_le (by simp), fitsF, Bool.eq_iff_iff, beq_iff_eq, decide_eq_true_eq]
  omega
theorem fitM_star (i k : Nat) (h : i < ls.length) (hs : st ls[i] = true) (hk : k ≤ text.size) : fitM st an ch text ls i k = (fitM st an ch text ls (i + 1) k || (decide (k < text.size) && fitM st an ch text ls i (k + 1))) := by
  unfold fitM
  rw [toksM_at st ls i h, show tokM st ls[i] = Tok.star from by unfold tokM; rw [if_pos hs]]
  exact fits_step _ _ _ k hk
theorem fitM_one (i k : Nat) (h : i < ls.length) (hs : st ls[i] = false) : fitM st an ch text ls i k = (decide (k < text.size) && ((an ls[i] || decide (ch ls[i] = bt text (k : Int))) && fitM st an ch text ls (i + 1) (k + 1))) := by
  unfold fitM
  rw [toksM_at st ls i h, show tokM st ls[i] = Tok.one ls[i] from by unfold tokM; rw [if_neg (by simp [hs])], fitsF]
  rfl
theorem fitM_some (i k : Nat) (h : i < ls.length) (hs : st ls[i] = true) (hf : fitM st an ch text ls i k = true) : ∃ k', k ≤ k' ∧ k' ≤ text.size ∧ fitM st an ch text ls (i + 1) k' = true := by
  unfold fitM at hf ⊢
  rw [toksM_at st ls i h, show tokM st ls[i] = Tok.star from by unfold tokM; rw [if_pos hs]] at hf
  exact (fits_star _ _ _ _).1 hf
theorem took_starM (i k : Nat) (h : i < ls.length) (hs : st ls[i] = true) : tookF (okM an ch text) text.size text ((ls.map (tokM st)).drop i) k = text.extract k (leastF (fitM st an ch text ls (i + 1)) (text.size + 1 - k) k) :: tookF (okM an ch text) text.size text ((ls.map (tokM st)).drop (i + 1)) (leastF (fitM st an ch text ls (i + 1)) (text.size + 1 - k) k) := by
  rw [toksM_at st ls i h, show tokM st ls[i] = Tok.star from by unfold tokM; rw [if_pos hs], tookF]
  rfl
theorem took_oneM (i k : Nat) (h : i < ls.length) (hs : st ls[i] = false) : tookF (okM an ch text) text.size text ((ls.map (tokM st)).drop i) k = tookF (okM an ch text) text.size text ((ls.map (tokM st)).drop (i + 1)) (k + 1) := by
  rw [toksM_at st ls i h, show tokM st ls[i] = Tok.one ls[i] from by unfold tokM; rw [if_neg (by simp [hs])], tookF]
end
theorem least_some (P : Nat → Bool) (m a k : Nat) (h1 : a ≤ k) (h2 : k < a + m) (h3 : P k = true) : a ≤ leastF P m a ∧ leastF P m a ≤ k ∧ P (leastF P m a) = true ∧ ∀ q, a ≤ q → q < leastF P m a → P q = false := by
  have g1 := least_ge P m a
  have h4 : leastF P m a ≤ k := by
    rcases Nat.lt_or_ge k (leastF P m a) with h | h
    · have := least_lt P m a k h1 h
      rw [h3] at this
      cases this
    · exact h
  exact ⟨g1.1, h4, least_at P m a (by omega), fun q => least_lt P m a q⟩
theorem byte_atM (s : ByteArray) (c : Nat) (h : c < s.size) : bt s (c : Int) = ((s[c]'h).toNat : Int) := by
  unfold bt
  simp [h]
def TabM (w : World) (base B L n : Nat) (fit : Nat → Nat → Bool) (i c : Nat) : Prop := ∃ (outs : List Value) (blk : Nat → Nat),
  w.ownsRow base 68 1 (.slice (some ⟨B, 0, none⟩) (L + 1) (L + 1)) (L + 1) outs ∧
  (∀ j, i ≤ j → j ≤ L → outs[j]? = some (.slice (some ⟨blk j, 0, none⟩) (n + 1) (n + 1)) ∧ blk j ≠ B ∧ ∃ row : List Value, w.ownsRow base 4 1 (.slice (some ⟨blk j, 0, none⟩) (n + 1) (n + 1)) (n + 1) row ∧ ∀ k, (i < j ∨ c ≤ k) → k ≤ n → row[k]? = some (.bool (fit j k))) ∧
  (∀ j j', i ≤ j → j < j' → j' ≤ L → blk j ≠ blk j')
section
variable {w : World} {base B L n : Nat} {fit : Nat → Nat → Bool} {i c : Nat}
theorem tab_grown {w' : World} (h : TabM w base B L n fit i c) (hg : w.grownBy w' none) : TabM w' base B L n fit i c := by
  obtain ⟨outs, blk, h1, h2, h3⟩ := h
  refine ⟨outs, blk, h1.kept hg (Or.inr (by simp [Value.ownBlock])), fun j a b => ?_, h3⟩
  obtain ⟨q1, q2, row, q3, q4⟩ := h2 j a b
  exact ⟨q1, q2, row, q3.kept hg (Or.inr (by simp [Value.ownBlock])), q4⟩
theorem tab_drew (h : TabM w base B L n fit i c) : TabM w.drew base B L n fit i c := tab_grown h ⟨rfl, rfl, rfl, Nat.le_refl _, fun _ _ _ => rfl⟩
theorem tab_start {outs : List Value} (h : w.ownsRow base 68 1 (.slice (some ⟨B, 0, none⟩) (L + 1) (L + 1)) (L + 1) outs) : TabM w base B L n fit (L + 1) 0 :=
  ⟨outs, fun _ => 0, h, fun j a b => absurd a (by omega), fun j j' a b c => absurd a (by omega)⟩
theorem tab_make {w' : World} {row : List Value} (h : TabM w base B L n fit (i + 1) 0) (hi : i ≤ L) (hg : w.grownBy w' none) (hr : w'.ownsRow base 4 1 (.slice (some ⟨w.heap.size, 0, none⟩) (n + 1) (n + 1)) (n + 1) row) :
    (∃ u, w'.cell? ⟨B, i, none⟩ = some u) ∧ w'.frozen? ⟨B, i, none⟩ = false ∧ base ≤ B ∧ TabM (w'.setCell ⟨B, i, none⟩ (.slice (some ⟨w.heap.size, 0, none⟩) (n + 1) (n + 1))) base B L n fit i (n + 1) := by
  obtain ⟨outs, blk, h1, h2, h3⟩ := h
  have hB := h1.lt B rfl
  have h1' := h1.kept hg (Or.inr (by simp [Value.ownBlock]))
  have hs := h1'.stored i (.slice (some ⟨w.heap.size, 0, none⟩) (n + 1) (n + 1))
  have hlen : outs.length = L + 1 := by have := h1.1; omega
  have hne : ∀ j, i + 1 ≤ j → j ≤ L → blk j < w.heap.size := fun j a b => by
    obtain ⟨_, _, row, q3, _⟩ := h2 j a b
    exact (q3.lt _ rfl).2
  refine ⟨⟨outs[i]'(by omega), ?_⟩, h1'.frozenAt i, hB.1, outs.set i (.slice (some ⟨w.heap.size, 0, none⟩) (n + 1) (n + 1)), fun j => if j = i then w.heap.size else blk j, hs.1, fun j a b => ?_, fun j j' a b d => ?_⟩
  · rw [h1'.cellAt i (by omega)]
    exact List.getElem?_eq_getElem _
  · rcases Nat.eq_or_lt_of_le a with rfl | hlt
    · dsimp only
      rw [if_pos rfl]
      refine ⟨by rw [List.getElem?_set_self (by omega)], by omega, row, hr.kept hs.2 (Or.inr (by simp [Value.ownBlock]; omega)), fun k hk1 hk2 => by omega⟩
    · obtain ⟨q1, q2, row', q3, q4⟩ := h2 j hlt b
      dsimp only
      rw [if_neg (by omega)]
      refine ⟨by rw [List.getElem?_set_ne (by omega)]; exact q1, q2, row', (q3.kept hg (Or.inr (by simp [Value.ownBlock]))).kept hs.2 (Or.inr (by simp [Value.ownBlock]; exact q2)), fun k _ hk2 => q4 k (Or.inr (Nat.zero_le _)) hk2⟩
  · dsimp only
    rw [if_neg (show ¬ j' = i by omega)]
    by_cases hj : j = i
    · rw [if_pos hj]
      have := hne j' (by omega) d
      omega
    · rw [if_neg hj]
      exact h3 j j' (by omega) b d
theorem tab_up (h : TabM w base B L n fit i c) (j : Nat) (hj : i ≤ j) (hL : j ≤ L) : ∃ b, w.cell? ⟨B, j, none⟩ = some (.slice (some ⟨b, 0, none⟩) (n + 1) (n + 1)) ∧ B < w.heap.size ∧ b < w.heap.size ∧ ∀ k, (i < j ∨ c ≤ k) → k ≤ n → w.cell? ⟨b, k, none⟩ = some (.bool (fit j k)) := by
  obtain ⟨outs, blk, h1, h2, h3⟩ := h
  obtain ⟨q1, q2, row, q3, q4⟩ := h2 j hj hL
  exact ⟨blk j, by rw [h1.cellAt j (by omega)]; exact q1, (h1.lt B rfl).2, (q3.lt _ rfl).2, fun k a b => by rw [q3.cellAt k (by omega)]; exact q4 k a b⟩
theorem tab_at (h : TabM w base B L n fit i (c + 1)) (hi : i ≤ L) (hc : c ≤ n) : ∃ b, w.cell? ⟨B, i, none⟩ = some (.slice (some ⟨b, 0, none⟩) (n + 1) (n + 1)) ∧ (∃ u, w.cell? ⟨b, c, none⟩ = some u) ∧ w.frozen? ⟨b, c, none⟩ = false ∧ (c + 1 ≤ n → w.cell? ⟨b, c + 1, none⟩ = some (.bool (fit i (c + 1)))) ∧ base ≤ b ∧
    TabM (w.setCell ⟨b, c, none⟩ (.bool (fit i c))) base B L n fit i c := by
  obtain ⟨outs, blk, h1, h2, h3⟩ := h
  obtain ⟨q1, q2, row, q3, q4⟩ := h2 i (Nat.le_refl _) hi
  have hs := q3.stored c (.bool (fit i c))
  have hlen : row.length = n + 1 := by have := q3.1; omega
  refine ⟨blk i, by rw [h1.cellAt i (by omega)]; exact q1, ⟨row[c]'(by omega), ?_⟩, q3.frozenAt c, fun hc1 => ?_, (q3.lt _ rfl).1, outs, blk, h1.kept hs.2 (Or.inr (by simp [Value.ownBlock]; exact fun e => q2 e.symm)), fun j a b => ?_, h3⟩
  · rw [q3.cellAt c (by omega)]
    exact List.getElem?_eq_getElem _
  · rw [q3.cellAt (c + 1) (by omega)]
    exact q4 (c + 1) (Or.inr (Nat.le_refl _)) hc1
  · rcases Nat.eq_or_lt_of_le a with rfl | hlt
    · refine ⟨q1, q2, row.set c (.bool (fit i c)), hs.1, fun k hk1 hk2 => ?_⟩
      have hk : c ≤ k := by omega
      rcases Nat.eq_or_lt_of_le hk with rfl | hlt
      · rw [List.getElem?_set_self (by omega)]
      · rw [List.getElem?_set_ne (by omega)]
        exact q4 k (Or.inr hlt) hk2
    · obtain ⟨r1, r2, row', r3, r4⟩ := h2 j a b
      have := h3 i j (Nat.le_refl _) hlt b
      exact ⟨r1, r2, row', r3.kept hs.2 (Or.inr (by simp [Value.ownBlock]; exact fun e => this e.symm)), fun k hk1 hk2 => r4 k (Or.inl hlt) hk2⟩
end
theorem info_rows : (Tryz.prog.info? 68).map (fun i => (i.zero, i.size, i.bytes)) = some (some (.slice none 0 0), 1, 24) := by kernel_rfl
theorem info_bool : (Tryz.prog.info? 4).map (fun i => (i.zero, i.size, i.bytes)) = some (some (.bool false), 1, 1) := by kernel_rfl
set_option maxHeartbeats 4000000 in
set_option maxRecDepth 100000 in
theorem refmatch_calls {β : Type} (kp : Kd β) (st an : β → Bool) (ch : β → Int) (hz : kp.sz = 3) (hK : ∀ {w x c}, kp.K w x c → c = [.bool (st x), .bool (an x), .int .u8 (ch x)])
    (pat text : ByteArray) (ls : List β) (ok : Bool) (w : World)
    (hP : ∀ W, Calls Tryz.prog 29 #[.string pat] W fun e w' => ∃ A c, e = .returned (.tuple #[.slice A ls.length c, .bool ok]) ∧ ls.length ≤ c ∧ kp.C w' A ls.length ls ∧ Below W.heap.size W w')
    (hts : text.size ≤ 1000000) (hl : ls.length ≤ 1000000) :
    Calls Tryz.prog 12 #[.string pat, .string text] w fun e w' => ∃ v, e = .returned (.tuple #[v, .bool (matchT st an ch text ls ok).2]) ∧ Kd.R Kd.string 9 w' w.heap.size (fun _ => True) v (matchT st an ch text ls ok).1 ∧ Below w.heap.size w w' := by
  have HP := hP w
  clear hP
  cases ok with
  | false =>
    go_enter Tryz.func12, Tryz.ntmps12
    go_wp2_with fail
    refine HP.mono ?_
    rintro e w1 ⟨A, c, rfl, _, _, hB⟩
    go_wp2
    go_ret2
    exact ⟨_, rfl, Kd.R_nil _ _ _ _ _, hB⟩
  | true =>
    have HR : Aside0 (matchT st an ch text ls true = if fitM st an ch text ls 0 0 = true then (tookF (okM an ch text) text.size text ((ls.map (tokM st)).drop 0) 0, true) else ([], false)) := ⟨rfl⟩
    obtain ⟨fend⟩ : Aside0 (∀ k, fitM st an ch text ls ls.length k = ((k : Int) == (text.size : Int))) := ⟨fitM_end st an ch text ls⟩
    have FEND := Aside0.mk fend
    have FSTAR := Aside0.mk (fitM_star st an ch text ls)
    have FONE := Aside0.mk (fitM_one st an ch text ls)
    have TSTAR := Aside0.mk (took_starM st an ch text ls)
    have TONE := Aside0.mk (took_oneM st an ch text ls)
    have FSOME := Aside0.mk (fitM_some st an ch text ls)
    clear fend
    generalize fitM st an ch text ls = fit at *
    generalize matchT st an ch text ls true = R at *
    obtain ⟨i0, hi0, hz0, hs0, hb0⟩ := info_parts info_rows
    obtain ⟨i1, hi1, hz1, hs1, hb1⟩ := info_parts info_bool
    go_enter Tryz.func12, Tryz.ntmps12
    go_wp2_with fail
    refine HP.mono ?_
    rintro e w1 ⟨A, c, rfl, hc, hC, hB⟩
    have HC := Aside0.mk hC
    have HCC := Aside0.mk hc
    have hbs := hB.size
    have HB := Aside0.mk hB
    clear HP hC hB hc
    go_wp2_with (at_make; refine wpList_make_full _ rfl _ _ 67 rfl w1.heap.size 68 i0 (.slice none 0 0) 1 Tryz.underlying67 hi0 hz0 hs0 .i64 .i64 _ _ (ls.length + 1) rfl rfl (by omega) (by omega) (by rw [hb0]; omega) (by unfold maxLen; omega) (Nat.le_refl _) ?_; intro w2 hown2 hgrow2)
    have HT := Aside0.mk (tab_start (n := text.size) (fit := fit) hown2)
    have HB2 := Aside0.mk (show Below w1.heap.size w1 w2 from (Below.refl _ w1).grown hgrow2 (Nat.le_refl _) (by simp))
    clear hown2 hgrow2
    go_loopw [9] (fun v9 wr => ∃ (i : Nat) (x : Int), i ≤ ls.length + 1 ∧ x = (i : Int) - 1 ∧ v9 = .int .i64 x ∧ Aside0 (TabM wr w1.heap.size w1.heap.size ls.length text.size fit i 0) ∧ Aside0 (Below w1.heap.size w1 wr)) (fun v9 _ => (intOf v9 + 1).toNat)
    case atStart => exact ⟨ls.length + 1, _, Nat.le_refl _, by omega, rfl, HT, HB2⟩
    case round =>
      clear HT HB2
      obtain ⟨i, x, hi, hx, rfl, HT, HB2⟩ := hrel
      obtain ⟨wo, rfl⟩ : ∃ wo : World, wo = wr := ⟨_, rfl⟩
      rcases i with _ | i
      · obtain rfl : x = -1 := by omega
        clear hx
        obtain ⟨b0, p0, pB, pb, pk⟩ := tab_up HT.out 0 (Nat.le_refl _) (Nat.zero_le _)
        have p1 := pk 0 (Or.inr (Nat.le_refl _)) (Nat.zero_le _)
        clear pk
        cases hq : fit 0 0 with
        | false =>
          rw [hq] at p1
          have hR := HR.out
          rw [hq, if_neg (by simp)] at hR
          subst hR
          clear hq
          go_wp2
          go_ret2
          exact ⟨_, rfl, Kd.R_nil _ _ _ _ _, HB.out.trans (HB2.out.mono hbs)⟩
        | true =>
          rw [hq] at p1
          have hR := HR.out
          rw [hq, if_pos rfl] at hR
          have HR2 := Aside0.mk hR
          have HQ := Aside0.mk hq
          clear hq hR HR
          have hbo := HB2.out.size
          have HBo := Aside0.mk (HB.out.trans (HB2.out.mono hbs))
          go_wp2
          go_loopw [11, 12, 13] (fun v11 v12 v13 wr => ∃ (i k : Nat) (took : List ByteArray), i ≤ ls.length ∧ k ≤ text.size ∧ v12 = .int .i64 k ∧ v13 = .int .i64 i ∧ took.length ≤ i ∧ Aside0 (fit i k = true) ∧ Aside0 (Kd.R Kd.string 9 wr wo.heap.size (fun _ => True) v11 took) ∧ Aside0 (Below wo.heap.size wo wr) ∧ Aside0 (R = (took ++ tookF (okM an ch text) text.size text ((ls.map (tokM st)).drop i) k, true))) (fun _ _ v13 _ => ls.length - (intOf v13).toNat)
          case atStart => exact ⟨0, 0, [], Nat.zero_le _, Nat.zero_le _, rfl, rfl, Nat.le_refl _, HQ, ⟨Kd.R_nil _ _ _ _ _⟩, ⟨Below.refl _ _⟩, HR2⟩
          case round =>
            clear HQ HR2 p0 p1
            obtain ⟨i, k, took, hi2, hk, rfl, rfl, hti, HQ, HRR, HB3, HE⟩ := hrel
            by_cases hlt : i < ls.length
            · have hlti : (i : Int) < (ls.length : Int) := by omega
              obtain ⟨g, off, rfl, hg, hce⟩ := C_at HC.out (by omega) (by omega)
              obtain ⟨cs, _, hKK, hcell⟩ := hce i ls[i] (List.getElem?_eq_getElem hlt)
              rw [hz, hK hKK] at hcell
              have g0 : wr.cell? ⟨g, off + i * 3, none⟩ = some (.bool (st ls[i])) := (HB3.out.cell (p := ⟨g, off + i * 3, none⟩) (by show g < _; omega)).trans ((HB2.out.cell (p := ⟨g, off + i * 3, none⟩) hg).trans (by simpa using hcell 0 _ rfl))
              clear hcell hce
              cases hst : st ls[i] with
              | false =>
                rw [hst] at g0
                have h1 := FONE.out i k hlt hst
                rw [HQ.out] at h1
                have h2 := TONE.out i k hlt hst
                have hR := HE.out
                rw [h2] at hR
                have HE2 := Aside0.mk hR
                have h3 : k < text.size ∧ fit (i + 1) (k + 1) = true := by
                  have h4 := h1.symm
                  rw [Bool.and_eq_true, Bool.and_eq_true, decide_eq_true_eq] at h4
                  exact ⟨h4.1, h4.2.2⟩
                obtain ⟨h3, h4⟩ := h3
                have HQ2 := Aside0.mk h4
                clear h1 h2 hR HE h4 HQ hst
                go_wp2
                go_roundw
                case rel => exact ⟨i + 1, k + 1, took, by omega, by omega, by go_num, by go_num, by omega, HQ2, HRR, HB3, HE2⟩
                case measure => simp [intOf]; omega
              | true =>
                rw [hst] at g0
                obtain ⟨bu, r0, rB, rb, rk⟩ := tab_up HT.out (i + 1) (Nat.zero_le _) hlt
                have r1 := (HB3.out.cell (p := ⟨w1.heap.size, i + 1, none⟩) rB).trans r0
                have RK : ∀ q, Aside0 (q ≤ text.size → wr.cell? ⟨bu, q, none⟩ = some (.bool (fit (i + 1) q))) := fun q => ⟨fun hq => (HB3.out.cell (p := ⟨bu, q, none⟩) rb).trans (rk q (Or.inr (Nat.zero_le _)) hq)⟩
                have h2 := TSTAR.out i k hlt hst
                have hR := HE.out
                rw [h2] at hR
                obtain ⟨k', a1, a2, a3⟩ := FSOME.out i k hlt hst HQ.out
                obtain ⟨m1, m2, m3, m4⟩ := least_some (fit (i + 1)) (text.size + 1 - k) k k' a1 (by omega) a3
                generalize leastF (fit (i + 1)) (text.size + 1 - k) k = m at *
                have HE2 := Aside0.mk hR
                have HM3 := Aside0.mk m3
                have HM4 := Aside0.mk m4
                have hmn : m ≤ text.size := by omega
                clear r0 rk h2 hR HE HQ hst a1 a2 a3 m2 m3 m4 k'
                go_wp2
                go_loop [12] (fun v12 => ∃ q : Nat, k ≤ q ∧ q ≤ m ∧ v12 = .int .i64 q) (fun v12 => m - (intOf v12).toNat)
                case atStart => exact ⟨k, Nat.le_refl _, m1, rfl⟩
                case round =>
                  obtain ⟨q, hkq, hqm, rfl⟩ := hrel
                  have rq := (RK q).out (by omega)
                  by_cases hlq : q < m
                  · have h5 := HM4.out q hkq hlq
                    rw [h5] at rq
                    clear h5
                    go_wp2
                    go_round
                    case rel => exact ⟨q + 1, by omega, by omega, by go_num⟩
                    case measure => simp [intOf]; omega
                  · obtain rfl : q = m := by omega
                    rw [HM3.out] at rq
                    go_wp2_with (at_builtin; refine Kd.R_append Kd.string (w0 := wo) wo.heap.size rfl (.tmp 165) (.tmp 170) 23 9 (.string ⟨#[]⟩) 16 rfl Tryz.underlying23 info_text rfl (by decide) (by omega) u11 took (text.extract k q) [.string (text.extract k q)] (fun _ => True) (fun _ => False) rfl rfl ?aP (fun _ hk => hk.elim) ?aF ?aO ?aB ?aS ?aL ?_; (case aP => exact rfl); (case aF => exact (fun _ _ => trivial)); (case aO => exact HRR.out); (case aB => exact HB3.out); (case aS => exact HB3.out.size); (case aL => omega); intro v4 w4 ho hb hg4 hat; simp only [Act.put, List.setIfInBounds_toArray, List.set_cons_zero, List.set_cons_succ])
                    have HR4 := Aside0.mk ho
                    have HB4 := Aside0.mk hb
                    clear ho hb hg4 hat
                    go_wp2
                    go_roundw
                    case rel => exact ⟨i + 1, q, took ++ [text.extract k q], by omega, by omega, rfl, by go_num, by simp; omega, HM3, HR4, HB4, ⟨by rw [HE2.out]; simp⟩⟩
                    case measure => simp [intOf]; omega
            · obtain rfl : i = ls.length := by omega
              have hlti : ¬ (ls.length : Int) < (ls.length : Int) := by omega
              have hR := HE.out
              rw [List.drop_of_length_le (by simp), tookF, List.append_nil] at hR
              subst hR
              go_wp2
              go_ret2
              exact ⟨_, rfl, Kd.R_lower HRR.out HBo.out.size, HBo.out.trans (HB3.out.mono HBo.out.size)⟩
      · obtain rfl : x = (i : Int) := by omega
        clear hx
        go_wp2_with (at_make; refine wpList_make_full _ rfl _ _ 68 rfl w1.heap.size 4 i1 (.bool false) 1 Tryz.underlying68 hi1 hz1 hs1 .i64 .i64 _ _ (text.size + 1) rfl rfl (by omega) (by omega) (by rw [hb1]; omega) (by unfold maxLen; omega) (by have := HB2.out.size; omega) ?_; intro w3 hown3 hgrow3; obtain ⟨⟨u3, hu3⟩, hf3, hbB, hT3⟩ := tab_make HT.out (by omega) hgrow3 hown3; have HT3 := Aside0.mk hT3; have HB3 := Aside0.mk (show Below w1.heap.size w1 w3 from HB2.out.grown hgrow3 HB2.out.size (by simp)); clear hown3 hgrow3 hT3)
        have HB4 := Aside0.mk (show Below w1.heap.size w1 (w3.setCell ⟨w1.heap.size, i, none⟩ (.slice (some ⟨wo.heap.size, 0, none⟩) (text.size + 1) (text.size + 1))) from HB3.out.setCell (Nat.le_refl _) _)
        have hib : i ≤ ls.length := by omega
        clear HT HB2 HB3 hu3 hf3
        go_loopw [10] (fun v10 wr => ∃ (c : Nat) (y : Int), c ≤ text.size + 1 ∧ y = (c : Int) - 1 ∧ v10 = .int .i64 y ∧ Aside0 (TabM wr w1.heap.size w1.heap.size ls.length text.size fit i c) ∧ Aside0 (Below w1.heap.size w1 wr)) (fun v10 _ => (intOf v10 + 1).toNat)
        case atStart => exact ⟨text.size + 1, _, Nat.le_refl _, by omega, rfl, HT3, HB4⟩
        case round =>
          clear HT3 HB4
          obtain ⟨c, y, hcn, hy, rfl, HT, HB4⟩ := hrel
          rcases c with _ | c
          · obtain rfl : y = -1 := by omega
            clear hy
            go_wp2
            go_roundw
            case rel => exact ⟨i, _, by omega, rfl, rfl, HT, HB4⟩
            case measure => simp [intOf]; try omega
          · obtain rfl : y = (c : Int) := by omega
            clear hy
            obtain ⟨b, hb0, ⟨u, hu⟩, hf, hn1, hbase, hTc⟩ := tab_at HT.out hib (by omega)
            have HBB : ∀ x, Aside0 (Below w1.heap.size w1 (wr.setCell ⟨b, c, none⟩ x)) := fun x => ⟨HB4.out.setCell hbase _⟩
            have HN1 := Aside0.mk hn1
            have HTC := Aside0.mk hTc
            clear hn1 hTc
            rcases Nat.eq_or_lt_of_le hib with rfl | hlt
            · have hTc := HTC.out
              rw [FEND.out c] at hTc
              have HTC := Aside0.mk hTc
              clear hTc
              go_wp2
              go_roundw
              case rel => exact ⟨c, _, by omega, rfl, rfl, HTC, HBB _⟩
              case measure => simp [intOf]; try omega
            · have h48 : ((i : Int) == (ls.length : Int)) = false := by rw [beq_eq_false_iff_ne]; omega
              obtain ⟨g, off, rfl, hg, hce⟩ := C_at HC.out (by omega) (by omega)
              obtain ⟨cs, _, hKK, hcell⟩ := hce i ls[i] (List.getElem?_eq_getElem hlt)
              rw [hz, hK hKK] at hcell
              have g0 : wr.cell? ⟨g, off + i * 3, none⟩ = some (.bool (st ls[i])) := (HB4.out.cell (p := ⟨g, off + i * 3, none⟩) hg).trans (by simpa using hcell 0 _ rfl)
              have g1 : wr.cell? ⟨g, off + i * 3 + 1, none⟩ = some (.bool (an ls[i])) := (HB4.out.cell (p := ⟨g, off + i * 3 + 1, none⟩) hg).trans (by simpa using hcell 1 _ rfl)
              have g2 : wr.cell? ⟨g, off + i * 3 + 2, none⟩ = some (.int .u8 (ch ls[i])) := (HB4.out.cell (p := ⟨g, off + i * 3 + 2, none⟩) hg).trans (by simpa using hcell 2 _ rfl)
              obtain ⟨b2, k0, _, _, hk⟩ := tab_up HT.out (i + 1) (by omega) hlt
              clear hcell hce
              cases hst : st ls[i] with
              | true =>
                rw [hst] at g0
                have HS := Aside0.mk (FSTAR.out i c hlt hst (by omega))
                have m0 := hk c (Or.inl (by omega)) (by omega)
                clear hst hk
                cases hq : fit (i + 1) c with
                | true =>
                  rw [hq] at m0
                  have e1 : fit i c = true := by rw [HS.out, hq]; rfl
                  clear hq HS
                  have hTc := HTC.out
                  rw [e1] at hTc
                  have HTC := Aside0.mk (tab_drew hTc)
                  have HB5 := Aside0.mk (Below.drew (HBB (.bool true)).out)
                  clear hTc e1
                  go_wp2
                  go_region
                  go_wp2
                  go_roundw
                  case rel => exact ⟨c, _, by omega, rfl, rfl, HTC, HB5⟩
                  case measure => simp [intOf]; try omega
                | false =>
                  rw [hq] at m0
                  by_cases hcl : c < text.size
                  · have hcli : (c : Int) < (text.size : Int) := by omega
                    have n1 := HN1.out (by omega)
                    obtain ⟨q, hqq⟩ : ∃ q, fit i (c + 1) = q := ⟨_, rfl⟩
                    rw [hqq] at n1
                    have e1 : fit i c = q := by rw [HS.out, hq, hqq, decide_eq_true hcl]; rfl
                    clear hq HS hqq
                    have hTc := HTC.out
                    rw [e1] at hTc
                    have HTC := Aside0.mk (tab_drew hTc)
                    have HB5 := Aside0.mk (Below.drew (HBB (.bool q)).out)
                    clear hTc e1
                    go_wp2
                    go_region
                    go_wp2
                    go_roundw
                    case rel => exact ⟨c, _, by omega, rfl, rfl, HTC, HB5⟩
                    case measure => simp [intOf]; try omega
                  · have hcli : decide ((c : Int) < (text.size : Int)) = false := decide_eq_false (by omega)
                    have e1 : fit i c = false := by rw [HS.out, hq, decide_eq_false hcl]; rfl
                    clear hq HS
                    have hTc := HTC.out
                    rw [e1] at hTc
                    have HTC := Aside0.mk (tab_drew hTc)
                    have HB5 := Aside0.mk (Below.drew (HBB (.bool false)).out)
                    clear hTc e1
                    go_wp2
                    go_region
                    go_wp2
                    go_roundw
                    case rel => exact ⟨c, _, by omega, rfl, rfl, HTC, HB5⟩
                    case measure => simp [intOf]; try omega
              | false =>
                rw [hst] at g0
                have HS := Aside0.mk (FONE.out i c hlt hst)
                clear hst
                by_cases hcl : c < text.size
                · have hcli : (c : Int) < (text.size : Int) := by omega
                  have m1 := hk (c + 1) (Or.inl (by omega)) (by omega)
                  obtain ⟨q, hqq⟩ : ∃ q, fit (i + 1) (c + 1) = q := ⟨_, rfl⟩
                  rw [hqq] at m1
                  have hS := HS.out
                  rw [hqq, decide_eq_true hcl, Bool.true_and, byte_atM text c hcl] at hS
                  clear hk HS hqq
                  cases han : an ls[i] with
                  | true =>
                    rw [han] at g1
                    have e1 : fit i c = q := by rw [hS, han]; rfl
                    clear hS han
                    have hTc := HTC.out
                    rw [e1] at hTc
                    have HTC := Aside0.mk (tab_drew hTc)
                    have HB5 := Aside0.mk (Below.drew (HBB (.bool q)).out)
                    clear hTc e1
                    go_wp2
                    go_region
                    go_wp2
                    go_roundw
                    case rel => exact ⟨c, _, by omega, rfl, rfl, HTC, HB5⟩
                    case measure => simp [intOf]; try omega
                  | false =>
                    rw [han] at g1
                    by_cases hch : ch ls[i] = ((text[c]'hcl).toNat : Int)
                    · have h118 : (ch ls[i] == ((text[c]'hcl).toNat : Int)) = true := beq_iff_eq.2 hch
                      have e1 : fit i c = q := by rw [hS, han, decide_eq_true hch]; rfl
                      clear hS han hch
                      generalize ch ls[i] = chv at *
                      have hTc := HTC.out
                      rw [e1] at hTc
                      have HTC := Aside0.mk (tab_drew hTc)
                      have HB5 := Aside0.mk (Below.drew (HBB (.bool q)).out)
                      clear hTc e1
                      go_wp2
                      go_region
                      go_wp2
                      go_roundw
                      case rel => exact ⟨c, _, by omega, rfl, rfl, HTC, HB5⟩
                      case measure => simp [intOf]; try omega
                    · have h118 : (ch ls[i] == ((text[c]'hcl).toNat : Int)) = false := beq_eq_false_iff_ne.2 hch
                      have e1 : fit i c = false := by rw [hS, han, decide_eq_false hch]; rfl
                      clear hS han hch
                      generalize ch ls[i] = chv at *
                      have hTc := HTC.out
                      rw [e1] at hTc
                      have HTC := Aside0.mk (tab_drew hTc)
                      have HB5 := Aside0.mk (Below.drew (HBB (.bool false)).out)
                      clear hTc e1
                      go_wp2
                      go_region
                      go_wp2
                      go_roundw
                      case rel => exact ⟨c, _, by omega, rfl, rfl, HTC, HB5⟩
                      case measure => simp [intOf]; try omega
                · have hcli : decide ((c : Int) < (text.size : Int)) = false := decide_eq_false (by omega)
                  have e1 : fit i c = false := by rw [HS.out, decide_eq_false hcl]; rfl
                  clear hk HS
                  have hTc := HTC.out
                  rw [e1] at hTc
                  have HTC := Aside0.mk (tab_drew hTc)
                  have HB5 := Aside0.mk (Below.drew (HBB (.bool false)).out)
                  clear hTc e1
                  go_wp2
                  go_region
                  go_wp2
                  go_roundw
                  case rel => exact ⟨c, _, by omega, rfl, rfl, HTC, HB5⟩
                  case measure => simp [intOf]; try omega
end Go.Proofs.YtcikjeiebpmmcaaGreat
