/- A text of this claim, pruned by a program of the session (prune.py) to what the theorem rests on. -/
import Derived.Test.YtneodhhoejjncaaQcGStM
namespace Go.Proofs.Ytneodhhoejjncaa
open Go.RowKit Go.Proofs.YtneodhhoejjncaaW.PrintWords
set_option linter.unusedVariables false
set_option linter.unusedSimpArgs false
def aN : ByteArray := ⟨#[97]⟩
def aS (t : Int) : Smp := ⟨⟨#[97]⟩, t, t, false⟩
theorem one_sample (most owner : Int) (st : StS × Nat) (x : Smp) : samplesP most owner [x] st = ([(oneP most owner st x).1], (oneP most owner st x).2) := rfl
theorem among_self (x : Smp) : among [x] x.nm = true := by simp [among]
theorem out_self (owner : Int) (x : Smp) (S : StS) : outS owner [x] S x.nm = S x.nm := by
  unfold outS
  rw [among_self]
  simp
theorem aok : sK.ok aN := by show (1 : Nat) ≤ maxLen; decide
theorem put_a (B mb : Nat) (f : StF) (cnt : Nat) (g c : Nat) (t : Int) (w : World) (h : StAt w B mb 5 f cnt) (hg : w.heap[g]? = some (.cells #[.string ⟨#[97]⟩, .int .i64 t, .int .i64 t, .bool false] 34 (0, 0))) (hc : cnt ≤ 100) :
    Calls Try.prog 10 #[.pointer (some ⟨B, 0, none⟩), .int .i64 1, .slice (some ⟨g, 0, none⟩) 1 c] w fun e w' => ∃ b cap, e = .returned (.slice (some ⟨b, 0, none⟩) 1 cap) ∧ w.heap.size ≤ b ∧
      (∀ j u, (snL (oneP 5 1 (er f, cnt) (aS t)).1)[j]? = some u → w'.cell? ⟨b, j, none⟩ = some u) ∧ ∃ f', er f' aN = (oneP 5 1 (er f, cnt) (aS t)).2.1 aN ∧ Left w w' B mb 5 f f' (oneP 5 1 (er f, cnt) (aS t)).2.2 := by
  have hr : ReadsS (foot B mb f) w (some ⟨g, 0, none⟩) [aS t] := Or.inr ⟨g, 0, rfl, blk_lt hg, foot_not_cells h hg (by decide) (by decide), fun i x hi j v hv => by
    match i, hi with
    | 0, hi =>
      obtain rfl : aS t = x := by simpa using hi
      have h2 : #[Value.string ⟨#[97]⟩, .int .i64 t, .int .i64 t, .bool false][j]? = some v := by
        rw [← Array.getElem?_toList]
        exact hv
      have := (blk_cell hg j).trans h2
      simpa using this
    | i + 1, hi => simp at hi⟩
  refine (put_calls B mb 5 1 f cnt (some ⟨g, 0, none⟩) c [aS t] w h hr (fun x hx => by rw [List.mem_singleton.1 hx]; exact aok) (by show cnt + 1 ≤ _; omega)).mono ?_
  rintro e w' ⟨v, rfl, hrow, f', he, hL⟩
  obtain ⟨b, cap, rfl, _, hb, _, hcell⟩ := own_cells hrow (Nat.succ_pos 0)
  refine ⟨b, cap, rfl, hb, fun j u hj => hcell j u (by rw [one_sample]; unfold snF; rw [List.flatMap_singleton]; exact hj), f', ?_, hL⟩
  rw [he, one_sample]
  exact out_self 1 (aS t) _
theorem put_no (B mb : Nat) (f : StF) (cnt : Nat) (w : World) (h : StAt w B mb 5 f cnt) (hc : cnt ≤ 100) :
    Calls Try.prog 10 #[.pointer (some ⟨B, 0, none⟩), .int .i64 1, .slice none 0 0] w fun e w' => ∃ v, e = .returned v ∧ ∃ f', er f' = outS 1 [] (er f) ∧ Left w w' B mb 5 f f' cnt := by
  refine (put_calls B mb 5 1 f cnt none 0 [] w h (Or.inl rfl) (by simp) (by show cnt + 0 ≤ _; omega)).mono ?_
  rintro e w' ⟨v, rfl, hrow, f', he, hL⟩
  exact ⟨v, rfl, f', he, hL⟩
def knS : Nat → Option Lst × Nat
  | 0 => (none, 0)
  | 1 => (some ⟨aS 5, true, 1⟩, 1)
  | 2 => (some ⟨aS 5, true, 1⟩, 1)
  | 3 => (some ⟨aS 5, true, 1⟩, 1)
  | _ => (some ⟨aS 9, true, 1⟩, 1)
def knT : Nat → Int
  | 2 => 3
  | 3 => 9
  | _ => 5
def knW : Nat → Int
  | 1 => 3
  | 2 => 2
  | _ => 1
theorem kn_step (S : StS) (j : Nat) (hj : j < 4) (h : S aN = (knS j).1) : (oneP 5 1 (S, (knS j).2) (aS (knT j))).1 = ⟨aS (knT j), knW j, decide (j = 3), if j = 3 then 5 else 0⟩ ∧ (oneP 5 1 (S, (knS j).2) (aS (knT j))).2.1 aN = (knS (j + 1)).1 ∧ (oneP 5 1 (S, (knS j).2) (aS (knT j))).2.2 = (knS (j + 1)).2 := by
  have h' : ∀ t, S (aS t).nm = (knS j).1 := fun t => h
  unfold oneP
  simp only [h']
  match j, hj with
  | 0, _ => simp [knS, knT, knW, updS, aS, aN]
  | 1, _ => simp [knS, knT, knW, aS, h]
  | 2, _ => simp [knS, knT, knW, aS, h]
  | 3, _ => simp [knS, knT, knW, updS, aS, aN]
theorem kn_put (j : Nat) (hj : j < 4) (B mb : Nat) (f : StF) (g c : Nat) (w : World) (h : StAt w B mb 5 f (knS j).2) (hS : er f aN = (knS j).1) (hg : w.heap[g]? = some (.cells #[.string ⟨#[97]⟩, .int .i64 (knT j), .int .i64 (knT j), .bool false] 34 (0, 0))) :
    Calls Try.prog 10 #[.pointer (some ⟨B, 0, none⟩), .int .i64 1, .slice (some ⟨g, 0, none⟩) 1 c] w fun e w' => ∃ b cap, e = .returned (.slice (some ⟨b, 0, none⟩) 1 cap) ∧ w.heap.size ≤ b ∧
      (w'.cell? ⟨b, 4, none⟩ = some (.int .i64 (knW j)) ∧ w'.cell? ⟨b, 5, none⟩ = some (.bool (decide (j = 3))) ∧ w'.cell? ⟨b, 6, none⟩ = some (.int .i64 (if j = 3 then 5 else 0))) ∧ ∃ f', er f' aN = (knS (j + 1)).1 ∧ Left w w' B mb 5 f f' (knS (j + 1)).2 := by
  obtain ⟨k1, k2, k3⟩ := kn_step (er f) j hj hS
  refine (put_a B mb f (knS j).2 g c (knT j) w h hg (by match j, hj with | 0, _ | 1, _ | 2, _ | 3, _ => decide)).mono ?_
  rintro e w' ⟨b, cap, rfl, hb, hcell, f', he, hL⟩
  rw [k1] at hcell
  rw [k2] at he
  rw [k3] at hL
  exact ⟨b, cap, rfl, hb, ⟨hcell 4 _ rfl, hcell 5 _ rfl, hcell 6 _ rfl⟩, f', he, hL⟩
theorem Left.drewN {w W : World} {B mb : Nat} {most : Int} {f f' : StF} {c : Nat} (h : Left w W B mb most f f' c) (n : Nat) : Left w (W.drewN n) B mb most f f' c := h.grown (row := none) ⟨rfl, rfl, rfl, Nat.le_refl _, fun _ _ _ => rfl⟩ (by simp)
theorem last_step (S : StS) (h : S aN = some ⟨aS 5, false, 1⟩) : (oneP 5 1 (S, 1) (aS 9)).1 = ⟨aS 9, 1, false, 0⟩ := by
  have h' : S (aS 9).nm = some ⟨aS 5, false, 1⟩ := h
  unfold oneP
  simp only [h']
  simp [aS]
theorem out_five (S : StS) (h : S aN = some ⟨aS 5, true, 1⟩) : outS 1 [] S aN = some ⟨aS 5, false, 1⟩ := by
  unfold outS due
  simp only [h]
  rfl
set_option maxRecDepth 100000 in
set_option maxHeartbeats 4000000 in
theorem known_calls (w : World) : Calls Try.prog 8 #[] w fun e w' => e = .returned (.bool true) ∧ Below w.heap.size w w' := by
  go_enter Try.func8, Try.ntmps8
  go_wp2_with fail
  refine (new_calls 5 _).mono ?_
  rintro e w1 ⟨B1, m1, rfl, hB1, hm1, h1, hb1⟩
  have hlt1 := h1.lt (Or.inl rfl)
  have hlm1 := h1.lt (Or.inr (Or.inl rfl))
  rw [if_neg (by decide)] at h1
  have H1 := Aside0.mk h1
  have HB1 := Aside0.mk hb1
  clear h1 hb1
  go_wp2_with fail
  refine (new_calls 5 _).mono ?_
  rintro e w2 ⟨B2, m2, rfl, hB2, hm2, h2, hb2⟩
  rw [if_neg (by decide)] at h2
  have hlt2 := h2.lt (Or.inl rfl)
  have hlm2 := h2.lt (Or.inr (Or.inl rfl))
  have H2 := Aside0.mk h2
  have HB2 := Aside0.mk hb2
  clear h2 hb2
  go_wp2_with fail
  generalize hW0 : (w2.alloc (.cells #[.int .i64 5, .int .i64 5, .int .i64 3, .int .i64 9] 2)).alloc (.cells #[.int .i64 1, .int .i64 3, .int .i64 2, .int .i64 1] 35) = W0
  have ht0 : W0.heap[w2.heap.size]? = some (.cells #[.int .i64 5, .int .i64 5, .int .i64 3, .int .i64 9] 2 (0, 0)) := by rw [← hW0]; exact blk_alloc (blk_new _ _) _
  have hw0 : W0.heap[w2.heap.size + 1]? = some (.cells #[.int .i64 1, .int .i64 3, .int .i64 2, .int .i64 1] 35 (0, 0)) := by
    have := blk_new (w2.alloc (.cells #[.int .i64 5, .int .i64 5, .int .i64 3, .int .i64 9] 2)) (.cells #[.int .i64 1, .int .i64 3, .int .i64 2, .int .i64 1] 35)
    rw [size_push, hW0] at this
    exact this
  have hb20 : Below w2.heap.size w2 W0 := by rw [← hW0]; exact ((Below.refl _ w2).alloc (Nat.le_refl _) _).alloc (by simp) _
  have hsz0 : W0.heap.size = w2.heap.size + 1 + 1 := by rw [← hW0, size_push, size_push]
  have h10 : Left W0 W0 B1 m1 5 (fun _ => none) (fun _ => none) 0 := Left.same ((H1.out.below HB2.out).below hb20) (Below.refl _ _)
  have h20 : StAt W0 B2 m2 5 (fun _ => none) 0 := H2.out.below hb20
  have hwW : Below w.heap.size w W0 := (HB1.out.trans (HB2.out.mono HB1.out.size)).trans (hb20.mono (Nat.le_trans HB1.out.size HB2.out.size))
  have hle1 := HB2.out.size
  have H10 := Aside0.mk h10
  have H20 := Aside0.mk h20
  have HT0 := Aside0.mk ht0
  have HW0 := Aside0.mk hw0
  have HWW := Aside0.mk hwW
  have HSZ0 := Aside0.mk hsz0
  have HKEEP : Aside0 (∀ (wr : World) f1 c, Left W0 wr B1 m1 5 (fun _ => none) f1 c → ∀ k, k < W0.heap.size → k ≠ B1 → k ≠ m1 → wr.heap[k]? = W0.heap[k]?) := ⟨fun wr f1 c hL k hk h1 h2 => hL.kept.block k hk (by rintro (e | e | ⟨s, x, _, e⟩); exact h1 e; exact h2 e; cases e)⟩
  have nB : w2.heap.size ≠ B1 := by omega
  have nM : w2.heap.size ≠ m1 := by omega
  have nB' : w2.heap.size + 1 ≠ B1 := by omega
  have nM' : w2.heap.size + 1 ≠ m1 := by omega
  clear h10 h20 ht0 hw0 hwW hsz0 hb20 hW0
  go_loopw [6] (fun v wr => ∃ (j : Nat) (f1 : StF), j ≤ 4 ∧ v = .int .i64 j ∧ Aside0 (er f1 aN = (knS j).1 ∧ Left W0 wr B1 m1 5 (fun _ => none) f1 (knS j).2)) (fun v _ => 4 - (intOf v).toNat)
  case atStart => exact ⟨0, fun _ => none, by omega, by go_num, ⟨rfl, H10.out⟩⟩
  case round =>
    obtain ⟨j, f1, hj, rfl, HR⟩ := hrel
    have hkt := (HKEEP.out wr f1 _ HR.out.2 w2.heap.size (by rw [HSZ0.out]; omega) nB nM).trans HT0.out
    have hT : ∀ k : Nat, wr.cell? ⟨w2.heap.size, k, none⟩ = #[Value.int .i64 5, .int .i64 5, .int .i64 3, .int .i64 9][k]? := fun k => blk_cell hkt k
    by_cases hlt : j < 4
    · have hlti : (j : Int) < 4 := by omega
      have hTj : wr.cell? ⟨w2.heap.size, j, none⟩ = some (.int .i64 (knT j)) := (hT j).trans (by match j, hlt with | 0, _ | 1, _ | 2, _ | 3, _ => rfl)
      have hj0 : (0 : Int) ≤ (j : Int) := by omega
      clear hkt hT
      go_wp2_with fail
      refine (knowns_calls _ _).mono ?_
      rintro e w3 ⟨rfl, hb3⟩
      have hst3 := (HR.out.2.st.below hb3).alloc (.cells #[.string ⟨#[97]⟩, .int .i64 (knT j), .int .i64 (knT j), .bool false] 34)
      have hput := kn_put j hlt B1 m1 f1 w3.heap.size 1 _ hst3 HR.out.1 (blk_new w3 _)
      have HB3 := Aside0.mk hb3
      clear hb3 hst3
      go_wp2_with fail
      refine hput.mono ?_
      rintro e w4 ⟨b, cap, rfl, hbl, ⟨e4, e5, e6⟩, f2, he2, hL2⟩
      have hL4 : Left W0 w4 B1 m1 5 (fun _ => none) f2 (knS (j + 1)).2 := ((HR.out.2.grown (row := none) ⟨HB3.out.os, HB3.out.tape, HB3.out.output, HB3.out.size, fun i hi _ => HB3.out.block i hi⟩ (by simp)).alloc _).trans hL2
      have hkw := (HKEEP.out w4 f2 _ hL4 (w2.heap.size + 1) (by rw [HSZ0.out]; omega) nB' nM').trans HW0.out
      have hWj : w4.cell? ⟨w2.heap.size + 1, j, none⟩ = some (.int .i64 (knW j)) := (blk_cell hkw j).trans (by match j, hlt with | 0, _ | 1, _ | 2, _ | 3, _ => rfl)
      have HX := Aside0.mk (And.intro he2 hL4)
      clear hput hTj hL2 he2 hL4 hkw HR HB3
      by_cases h3 : j = 3
      · subst h3
        rw [decide_eq_true rfl] at e5
        rw [if_pos rfl] at e6
        go_wp2_with fail
        go_quiet (fail)
        go_wp2_with fail
        go_roundw
        case rel => exact ⟨4, f2, by omega, by go_num, ⟨HX.out.1, HX.out.2.drewN _⟩⟩
        case measure => simp [intOf]
      · rw [decide_eq_false h3] at e5
        rw [if_neg h3] at e6
        have hj3 : ((j : Int) == 3) = false := by rw [beq_eq_false_iff_ne]; omega
        clear h3
        go_wp2_with fail
        go_quiet (fail)
        go_wp2_with fail
        go_roundw
        case rel => exact ⟨j + 1, f2, by omega, by go_num, ⟨HX.out.1, HX.out.2.drewN _⟩⟩
        case measure => simp [intOf]; omega
    · obtain rfl : j = 4 := by omega
      generalize hw5 : wr = w5 at *
      clear hw5 hkt hT
      have h25 : StAt w5 B2 m2 5 (fun _ => none) 0 := H20.out.kept fun k hk => HKEEP.out w5 f1 _ HR.out.2 k (H20.out.lt hk) (by rcases hk with e | e | ⟨s, x, _, e⟩; omega; omega; cases e) (by rcases hk with e | e | ⟨s, x, _, e⟩; omega; omega; cases e)
      have hw5 : Below w.heap.size w w5 := HWW.out.trans (HR.out.2.kept.toBelow (by have := HWW.out.size; omega) (by rintro k (e | e | ⟨s, x, _, e⟩); omega; omega; cases e))
      have H25 := Aside0.mk h25
      have HW5 := Aside0.mk hw5
      clear h25 hw5 HR HKEEP HT0 HW0 H10 H20 HWW
      go_wp2_with fail
      refine (knowns_calls _ _).mono ?_
      rintro e w6 ⟨rfl, hb6⟩
      have hp1 := kn_put 0 (by omega) B2 m2 (fun _ => none) w6.heap.size 1 _ ((H25.out.below hb6).alloc (.cells #[.string ⟨#[97]⟩, .int .i64 (knT 0), .int .i64 (knT 0), .bool false] 34)) rfl (blk_new w6 _)
      rw [show knT 0 = 5 from rfl] at hp1
      have HB6 := Aside0.mk hb6
      clear hb6
      go_wp2_with fail
      refine hp1.mono ?_
      rintro e w7 ⟨b7, cap7, rfl, _, _, f7, he7, hL7⟩
      have hp2 := put_no B2 m2 f7 1 w7 hL7.st (by omega)
      have HE7 := Aside0.mk he7
      have HL7 := Aside0.mk hL7
      clear hp1 he7 hL7
      go_wp2_with fail
      refine hp2.mono ?_
      rintro e w8 ⟨v8, rfl, f8, he8, hL8⟩
      have HE8 : Aside0 (er f8 aN = some ⟨aS 5, false, 1⟩) := ⟨by rw [he8]; exact out_five _ HE7.out⟩
      have HL8 := Aside0.mk hL8
      clear hp2 he8 hL8
      go_wp2_with fail
      refine (knowns_calls _ _).mono ?_
      rintro e w9 ⟨rfl, hb9⟩
      have hp3 := put_a B2 m2 f8 1 w9.heap.size 1 9 _ ((HL8.out.st.below hb9).alloc (.cells #[.string ⟨#[97]⟩, .int .i64 9, .int .i64 9, .bool false] 34)) (blk_new w9 _) (by omega)
      rw [last_step _ HE8.out] at hp3
      have HB9 := Aside0.mk hb9
      clear hb9
      go_wp2_with fail
      refine hp3.mono ?_
      rintro e w10 ⟨b10, cap10, rfl, _, hc10, f10, _, hL10⟩
      have e4 : w10.cell? ⟨b10, 4, none⟩ = some (.int .i64 1) := hc10 4 _ rfl
      have e5 : w10.cell? ⟨b10, 5, none⟩ = some (.bool false) := hc10 5 _ rfl
      have HFIN : Aside0 (Below w.heap.size w w10) := by
        have hsz5 := HW5.out.size
        have hb := HB6.out.size
        have h1 : KeptOff (fun k => w.heap.size ≤ k) w w5 := (Kept_below HW5.out)
        have k6 : KeptOff (fun k => w.heap.size ≤ k) w w6 := h1.below HB6.out
        have g0 : ∀ k, foot B2 m2 (fun _ => none) k → w.heap.size ≤ k := by rintro k (e | e | ⟨s, x, _, e⟩); omega; omega; cases e
        have z6 := k6.size
        have g7 : ∀ k, foot B2 m2 f7 k → w.heap.size ≤ k := fun k hk => by
          rcases HL7.out.grows k hk with e | e
          · exact g0 k e
          · rw [size_push] at e; omega
        have k7 := (k6.alloc (.cells #[.string ⟨#[97]⟩, .int .i64 5, .int .i64 5, .bool false] 34)).trans HL7.out.kept (fun k hk => Or.inr (g0 k hk))
        have z7 := k7.size
        have g8 : ∀ k, foot B2 m2 f8 k → w.heap.size ≤ k := fun k hk => by
          rcases HL8.out.grows k hk with e | e
          · exact g7 k e
          · omega
        have k8 := k7.trans HL8.out.kept (fun k hk => Or.inr (g7 k hk))
        have k9 := k8.below HB9.out
        have k10 := (k9.alloc (.cells #[.string ⟨#[97]⟩, .int .i64 9, .int .i64 9, .bool false] 34)).trans hL10.kept (fun k hk => Or.inr (g8 k hk))
        exact ⟨k10.toBelow (Nat.le_refl _) (fun k hk => hk)⟩
      clear hp3 hc10 hL10 HB6 HL7 HE7 HE8 HL8 HB9 H25 HW5
      go_wp2_with fail
      go_ret
      exact ⟨rfl, HFIN.out⟩
end Go.Proofs.Ytneodhhoejjncaa
