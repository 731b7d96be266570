/- A text of this claim, pruned by a program of the session (prune.py) to what the theorem rests on. -/
import Derived.Test.YtneodhhoejjncaaQcGTurns
namespace Go.Proofs.Ytneodhhoejjncaa
open Go.RowKit Go.Shelf Go.Proofs.YtneodhhoejjncaaW.PrintWords
set_option linter.unusedVariables false
set_option linter.unusedSimpArgs false
attribute [local go_sem] Oper.semAt_some
theorem fin_same {w W : World} {R D1 D2 : Nat} {leave : Int} {T : Array Value} (hS : SB w W R leave) (h1 : W.heap[D1]? = some (.deferred (some []))) (h2 : W.heap[D2]? = some (.deferred (some []))) (hne : D1 ≠ D2) (hD1 : w.heap.size ≤ D1) (hD2 : w.heap.size ≤ D2) (h6 : T[6]?.getD undef = .pointer (some ⟨w.heap.size + 1 + 1, 0, none⟩)) :
    bodyPostM Fence.wide 12 Try.prog Try.f13 (fun e w' => e = .returned (.bool true) ∧ Below w.heap.size w w') .ret { tmps := T, defers := [{ target := .collected D2, args := #[] }, { target := .collected D1, args := #[] }] } (W.setCell ⟨w.heap.size + 1 + 1, 0, none⟩ (.bool true)) := by
  have c1 := hS.res.cell
  have k2 := (KeepsOthers.setCell W ⟨w.heap.size + 1 + 1, 0, none⟩ (.bool true)).same D2 _ h2 rfl
  have k1 := (KeepsOthers.setCell W ⟨w.heap.size + 1 + 1, 0, none⟩ (.bool true)).same D1 _ h1 rfl
  have hg2 := grownBy_putObj' (W.setCell ⟨w.heap.size + 1 + 1, 0, none⟩ (.bool true)) D2 (.deferred none)
  have k1' := (hg2.block D1 (Array.getElem?_eq_some_iff.1 k1).1 (fun e => hne (Option.some.inj e))).trans k1
  have hg1 := grownBy_putObj' ((W.setCell ⟨w.heap.size + 1 + 1, 0, none⟩ (.bool true)).putObj D2 (.deferred none)) D1 (.deferred none)
  have hc5 := cell_kept (World.cell?_setCell_same' W ⟨w.heap.size + 1 + 1, 0, none⟩ (.bool true) (by rw [c1]; rfl)) hg2 (fun r e => by cases e; exact ⟨_, k2, rfl⟩)
  have hc6 := cell_kept hc5 hg1 (fun r e => by cases e; exact ⟨_, k1', rfl⟩)
  refine ⟨by simp, .inl ⟨_, _, rfl, run_takeDeferred k2, ⟨by simp, .inl ⟨_, _, rfl, run_takeDeferred k1', ?_⟩⟩⟩⟩
  refine ⟨.bool true, ?_, rfl, ?_⟩
  · simp [results, Try.f13, go_sem, h6, hc6]
  · exact ((hS.below.setCell (p := ⟨w.heap.size + 1 + 1, 0, none⟩) (by show w.heap.size ≤ w.heap.size + 1 + 1; omega) _).trans (belowK_b (w := w) (Nat.le_refl _) _ D2 _ _ hD2 k2 rfl rfl)).trans (belowK_b (w := w) (Nat.le_refl _) _ D1 _ _ hD1 k1' rfl rfl)
set_option maxRecDepth 100000 in
set_option maxHeartbeats 4000000 in
theorem same_calls (B mb : Nat) (most : Int) (f : StF) (cnt : Nat) (base R : Nat) (most' : Int) (xs : List Sr) (v : Value) (leave : Int) (w : World) (h : StAt w B mb most f cnt) (hr : RefAt w base R most' xs v) (hL : Listed (er f) xs) (hm : 0 ≤ most) (hc : cnt ≤ 4398046511104) (hxc : xs.length = cnt)
    (hno : sK.ok ⟨#[110, 111, 32, 115, 117, 99, 104, 32, 110, 97, 109, 101]⟩) (hcx : xs.length ≤ 1099511627776) :
    Calls Try.prog 13 #[.pointer (some ⟨B, 0, none⟩), .pointer (some ⟨R, 0, none⟩), .int .i64 leave] w fun e w' => e = .returned (.bool true) ∧ Below w.heap.size w w' := by
  obtain ⟨A, c, rfl, hcap, hrd⟩ := hr.reads
  have H := Aside0.mk h
  have HR := Aside0.mk hr
  have HL := Aside0.mk hL
  have HRD := Aside0.mk hrd
  have hRl : R < w.heap.size := blk_lt hr.blk
  have HNO := Aside0.mk hno
  have HM := Aside0.mk hm
  have HC := Aside0.mk hc
  have HXC := Aside0.mk hxc
  clear h hr hL hrd hno hm hc hxc
  refine (callsIn_wide (n := 12)).1 ?_
  refine callsIn_of_wp_marks Try.func13 rfl trivial ?_ rfl
  simp only [Try.ntmps13, List.size_toArray, List.length_cons, List.length_nil, Nat.reduceAdd, Nat.reduceSub, Array.replicate_succ, Array.replicate_zero, List.push_toArray, List.append_toArray, List.nil_append, List.cons_append]
  refine wpIn_wide.2 ?_
  go_wp2_with fail
  have HS1 := Aside0.mk (sb_new w R leave)
  refine wp_at (fun W => SB w W R leave) HS1.out ?_
  intro w1 hS1
  clear HS1
  have HS1 := Aside0.mk hS1
  clear hS1
  go_loopw [8, 7] (fun v0 v1 wr => ∃ i : Nat, i ≤ xs.length ∧ v0 = .int .i64 i ∧ v1 = .int .i64 (liveN (xs.take i) : Nat) ∧ Aside0 (SB w wr R leave)) (fun v0 _ _ => xs.length - (intOf v0).toNat)
  case atStart => exact ⟨0, Nat.zero_le _, by go_num, rfl, HS1⟩
  case round =>
    obtain ⟨i, hi, rfl, rfl, hS⟩ := hrel
    have hRr := HR.out.below hS.out.below
    have p0 := hS.out.ref.cell
    have c0 : wr.cell? ⟨R, 0, none⟩ = some (.slice A xs.length c) := (blk_cell hRr.blk 0).trans rfl
    by_cases hlt : i < xs.length
    · have hlti : (i : Int) < (xs.length : Int) := by omega
      obtain ⟨g, rfl, _, _, _, _, _⟩ := HRD.out.resolve_left (fun e => by obtain ⟨_, _, rfl⟩ := e; simp at hlt)
      have hga : xs[i]? = some xs[i] := List.getElem?_eq_getElem hlt
      have htk : xs.take (i + 1) = xs.take i ++ [xs[i]] := List.take_succ_eq_append_getElem hlt
      have hmem : xs[i] ∈ xs := List.getElem_mem hlt
      generalize xs[i] = a at *
      have hcell := ref_cell hRr i a hga rfl
      have n0 : wr.cell? ⟨g, i * 7, none⟩ = some (.string a.1) := hcell 0 _ rfl
      have n1 : wr.cell? ⟨g, i * 7 + 1, none⟩ = some (.string a.2.x.nm) := hcell 1 _ rfl
      have n2 : wr.cell? ⟨g, i * 7 + 1 + 1, none⟩ = some (.int .i64 a.2.x.val) := hcell 2 _ rfl
      have n3 : wr.cell? ⟨g, i * 7 + 1 + 2, none⟩ = some (.int .i64 a.2.x.time) := hcell 3 _ rfl
      have n4 : wr.cell? ⟨g, i * 7 + 1 + 3, none⟩ = some (.bool a.2.x.counts) := hcell 4 _ rfl
      have n5 : wr.cell? ⟨g, i * 7 + 1 + 4, none⟩ = some (.bool a.2.live) := hcell 5 _ rfl
      have n6 : wr.cell? ⟨g, i * 7 + 1 + 5, none⟩ = some (.int .i64 a.2.owner) := hcell 6 _ rfl
      obtain ⟨hok, hfa⟩ := (HL.out.2 a.1 a.2).1 hmem
      have hget := get_calls B mb most f cnt a.1 wr (H.out.below hS.out.below) hok
      have hgv : getV (er f) a.1 = .tuple #[.agg (lstL a.2).toArray, .bool true] := by
        unfold getV
        rw [hfa]
      rw [hgv] at hget
      unfold lstL at hget
      have HTK := Aside0.mk htk
      have HG := Aside0.mk hga
      clear hcell hfa hgv htk hga hmem hok
      go_wp2_with fail
      refine hget.mono ?_
      rintro e w2 ⟨rfl, hb2⟩
      have HB2 := Aside0.mk hb2
      have HS2 := Aside0.mk (hS.out.step hb2)
      have gl : g < wr.heap.size := World.block_lt_of_cell? _ _ n0
      have m0 := pw_cell_below hb2 n0
      have m1 := pw_cell_below hb2 n1
      have m2 := pw_cell_below hb2 n2
      have m3 := pw_cell_below hb2 n3
      have m4 := pw_cell_below hb2 n4
      have m5 := pw_cell_below hb2 n5
      have m6 := pw_cell_below hb2 n6
      have q0 := HS2.out.ref.cell
      have d0 := pw_cell_below hb2 c0
      have hsz := hb2.size
      have g2 : g < w2.heap.size := by omega
      have g3 : g ≠ w2.heap.size := by omega
      have r2 : R < w2.heap.size := by have := HS2.out.below.size; omega
      have r3 : R ≠ w2.heap.size := by omega
      have k2 : w.heap.size < w2.heap.size := HS2.out.ref.lt
      have k3 : w.heap.size ≠ w2.heap.size := by omega
      clear hget hb2 n0 n1 n2 n3 n4 n5 n6 p0 c0
      have hls := liveN_snoc (xs.take i) a
      have hle := liveN_le (xs.take i)
      have hln : (xs.take i).length = i := List.length_take_of_le (by omega)
      cases hlv : a.2.live with
      | true =>
        rw [hlv] at m5
        rw [hlv, if_pos rfl] at hls
        have hw : wrap64 ((liveN (xs.take i) : Nat) + 1) = ((liveN (xs.take (i + 1)) : Nat) : Int) := by
          rw [HTK.out, hls]
          unfold wrap64
          simp
          omega
        have HW := Aside0.mk hw
        clear hls hle hln hlv hw
        go_wp2_with fail
        go_quiet (fail)
        go_wp2_with fail
        exact ⟨⟨i + 1, by omega, by go_num, by rw [HW.out], ⟨HS2.out.step (pw_below_drewN (below_alloc (Below.refl _ _) _) _)⟩⟩, by simp [intOf]; omega⟩
      | false =>
        rw [hlv] at m5
        rw [hlv, if_neg (by decide), Nat.add_zero] at hls
        have HW : Aside0 (liveN (xs.take (i + 1)) = liveN (xs.take i)) := ⟨by rw [HTK.out, hls]⟩
        clear hls hle hln hlv
        go_wp2_with fail
        go_quiet (fail)
        go_wp2_with fail
        exact ⟨⟨i + 1, by omega, by go_num, by rw [HW.out], ⟨HS2.out.step (pw_below_drewN (below_alloc (Below.refl _ _) _) _)⟩⟩, by simp [intOf]; omega⟩
    · have hie : i = xs.length := by omega
      have hlti : ¬ (i : Int) < (xs.length : Int) := by omega
      have HIE := Aside0.mk hie
      clear hie
      have hlive : liveN (xs.take i) = liveN xs := by rw [HIE.out, List.take_length]
      go_wp2_with fail
      have hS2 := hS.out
      have HS2 := Aside0.mk hS2
      generalize wr = w2 at *
      clear hlive hS2 hS hlti c0 p0 hRr
      have hget := get_calls B mb most f cnt ⟨#[110, 111, 32, 115, 117, 99, 104, 32, 110, 97, 109, 101]⟩ w2 (H.out.below HS2.out.below) HNO.out
      obtain ⟨gx, gb, hgv, hgs⟩ : ∃ (x : Lst) (b : Bool), getV (er f) ⟨#[110, 111, 32, 115, 117, 99, 104, 32, 110, 97, 109, 101]⟩ = .tuple #[.agg (lstL x).toArray, .bool b] ∧ (b = true ↔ ∃ a ∈ xs, a.1 = ⟨#[110, 111, 32, 115, 117, 99, 104, 32, 110, 97, 109, 101]⟩) := by
        unfold getV
        cases hq : er f ⟨#[110, 111, 32, 115, 117, 99, 104, 32, 110, 97, 109, 101]⟩ with
        | some y => exact ⟨y, true, rfl, fun _ => ⟨_, (HL.out.2 _ y).2 ⟨HNO.out, hq⟩, rfl⟩, fun _ => rfl⟩
        | none => exact ⟨⟨⟨⟨#[]⟩, 0, 0, false⟩, false, 0⟩, false, rfl, ⟨fun e => (by cases e), fun ⟨a, ha, e⟩ => (by
            have h9 := ((HL.out.2 a.1 a.2).1 ha).2
            rw [e, hq] at h9
            cases h9)⟩⟩
      rw [hgv] at hget
      unfold lstL at hget
      have HGS := Aside0.mk hgs
      clear hgv hgs
      refine hget.mono ?_
      rintro e w3 ⟨rfl, hb3⟩
      have HS3 := Aside0.mk (HS2.out.step hb3)
      have hof := rof_calls base R most' xs (.slice A xs.length c) ⟨#[110, 111, 32, 115, 117, 99, 104, 32, 110, 97, 109, 101]⟩
      have HS4 : Aside0 (∀ o, SB w (w3.alloc o) R leave) := ⟨fun o => HS3.out.step (below_alloc (Below.refl _ _) _)⟩
      have p3 := HS3.out.ref.cell
      have l3 := HS3.out.ref.lt
      have l4 : w.heap.size ≠ w3.heap.size := by omega
      have HB3 := Aside0.mk hb3
      clear hget hb3
      go_wp2_with fail
      refine (hof _ (HR.out.below (HS4.out _).below) hcx).mono ?_
      rintro e w4 ⟨oi, rfl, hoi, hb4⟩
      have HS5 := Aside0.mk ((HS4.out _).step hb4)
      have hge : (decide (0 ≤ oi)) = gb := by
        cases gb with
        | true =>
          obtain ⟨a, ha, e⟩ := HGS.out.1 rfl
          rcases hoi with ⟨_, hn⟩ | ⟨k, _, rfl, _, _⟩
          · exact absurd e (hn a ha)
          · simp
        | false =>
          rcases hoi with ⟨rfl, _⟩ | ⟨k, b, rfl, hk, hb⟩
          · rfl
          · exact absurd (HGS.out.2 ⟨b, List.mem_of_getElem? hk, hb⟩) (by simp)
      have hge2 : (!gb == decide (0 ≤ oi)) = false := by rw [hge]; cases gb <;> rfl
      clear hof hoi hge hb4 p3 l3 l4 HS3 HS4
      go_wp2_with fail
      clear hge2
      refine (all_calls B mb most f cnt w4 (H.out.below HS5.out.below) HM.out HC.out xs HL.out).mono ?_
      rintro e w5 ⟨g0, rfl, hb5, B5, rfl, hst⟩
      have HS6 := Aside0.mk (HS5.out.step hb5)
      have HST := Aside0.mk hst
      have HSZ := Aside0.mk hb5.size
      have heq : ∀ (W : World), (binOp .eql 58 (.func (.func 29) #[] #[.pointer (some ⟨B5, 0, none⟩)]) .nilFunc).run Try.prog W = .ok (.bool false) W := fun W => by kernel_rfl
      have hlen : ∀ W, Below w5.heap.size w5 W → Calls Try.prog 11 #[.pointer (some ⟨B, 0, none⟩)] W fun e w' => e = .returned (.int .i64 xs.length) ∧ w' = W := fun W hb => by
        rw [HXC.out]
        exact (len_calls B mb most f cnt W (H.out.below (HS6.out.below.trans (hb.mono HS6.out.below.size)))).mono fun e w' ⟨h1, h2⟩ => ⟨h1, h2.symm⟩
      have hlv : ∀ W, Below w5.heap.size w5 W → Calls Try.prog 22 #[.pointer (some ⟨B, 0, none⟩)] W fun e w' => e = .returned (.int .i64 (liveN xs)) ∧ Below W.heap.size W w' := fun W hb =>
        live_st B mb most f cnt W (H.out.below (HS6.out.below.trans (hb.mono HS6.out.below.size))) HM.out HC.out xs HL.out (by unfold maxLen; omega)
      have HLEN := Aside0.mk hlen
      have HLV := Aside0.mk hlv
      have p5 := HS6.out.ref.cell
      have c5 : w5.cell? ⟨R, 0, none⟩ = some (.slice A xs.length c) := (blk_cell (HR.out.below HS6.out.below).blk 0).trans rfl
      have hS0 : w5.drew.cell? ⟨w.heap.size, 0, none⟩ = some (.pointer (some ⟨R, 0, none⟩)) ∧ w5.drew.cell? ⟨R, 0, none⟩ = some (.slice A xs.length c) ∧ Below w5.heap.size w5 w5.drew := ⟨p5, c5, below_drew (Below.refl _ _)⟩
      have HK : Aside0 (∀ W W', (W.cell? ⟨w.heap.size, 0, none⟩ = some (.pointer (some ⟨R, 0, none⟩)) ∧ W.cell? ⟨R, 0, none⟩ = some (.slice A xs.length c) ∧ Below w5.heap.size w5 W) → Below W.heap.size W W' → (W'.cell? ⟨w.heap.size, 0, none⟩ = some (.pointer (some ⟨R, 0, none⟩)) ∧ W'.cell? ⟨R, 0, none⟩ = some (.slice A xs.length c) ∧ Below w5.heap.size w5 W')) := ⟨fun W W' h1 h2 => ⟨pw_cell_below h2 h1.1, pw_cell_below h2 h1.2.1, h1.2.2.trans (h2.mono h1.2.2.size)⟩⟩
      clear hst hb5 hlen hlv HS5 p5 c5
      go_wp2_with fail
      go_region_held3 (fun w' => w'.cell? ⟨w.heap.size, 0, none⟩ = some (.pointer (some ⟨R, 0, none⟩)) ∧ w'.cell? ⟨R, 0, none⟩ = some (.slice A xs.length c) ∧ Below w5.heap.size w5 w') (first | assumption) (first
        | (go_at_call 11; refine (HLEN.out _ (And.right (And.right (by assumption)))).mono ?_; rintro e w6 ⟨rfl, rfl⟩)
        | (go_at_call 22; refine (HLV.out _ (And.right (And.right (by assumption)))).mono ?_; rintro e w6 ⟨rfl, hb6⟩; have hS6 := HK.out _ _ (by assumption) hb6))
      have HS7 := Aside0.mk (HS6.out.step hS6.2.2)
      have HB7 := Aside0.mk hS6.2.2
      clear hS6 hS0 heq hb6
      go_wp2_with fail
      refine wp_loop_rounds 3 ?_
      rw [rounds_succ]
      go_wp2_with fail
      have hwb1 := HB7.out
      refine turn_calls w w5 w6 _ R B5 base w4.heap.size leave most' xs A c HR.out hcx HST.out HB7.out HS7.out (Boxed.new _ _ _) (below_alloc (Below.refl _ _) _) [] _ ?_
      intro D1 kv1 W1 hD1 hDK1 hk1 hkk1 hbW1
      have HS81 := Aside0.mk (HS7.out.step hbW1)
      have p8 := HS81.out.ref.cell
      have v8 := HS81.out.lv.cell
      have k8 := hk1.cell
      have c8 : W1.cell? ⟨R, 0, none⟩ = some (.slice A xs.length c) := (blk_cell (HR.out.below HS81.out.below).blk 0).trans rfl
      have HB81 : Aside0 (Below w5.heap.size w5 W1) := ⟨HB7.out.trans (hbW1.mono HB7.out.size)⟩
      have HD1 := Aside0.mk hDK1
      have HDW1 := Aside0.mk hD1
      have HBW1 := Aside0.mk hbW1
      have hkx : (kv1 != (xs.length : Int)) = false ∨ (kv1 != (xs.length : Int)) = true ∧ (kv1 != leave) = false := by
        rcases hkk1 with rfl | rfl
        · exact Or.inl (by simp)
        · by_cases e : kv1 = (xs.length : Int)
          · exact Or.inl (by simp [e])
          · exact Or.inr ⟨by simpa using e, by simp⟩
      clear hbW1 hD1 hDK1 hkk1 hk1
      rcases hkx with hkx | ⟨hkx, hkx2⟩
      all_goals go_wp2_with fail
      all_goals go_quiet (fail)
      all_goals go_wp2_with fail
      all_goals refine at_world (G := fun W => Code.rounds _ _ _ _ _ W) (fun W => Below W1.heap.size W1 W) (pw_below_drewN (Below.refl _ _) _) ?_
      all_goals (
        intro Wx hWx
        have HWX := Aside0.mk hWx
        clear hWx p8 v8 k8 c8
        rw [rounds_succ]
        go_wp2_with fail
        refine turn_calls w w5 Wx _ R B5 base w4.heap.size leave most' xs A c HR.out hcx HST.out (HB81.out.trans (HWX.out.mono HB81.out.size)) (HS81.out.step HWX.out) (Boxed.new _ _ _) (below_alloc (Below.refl _ _) _) _ _ ?_
        intro D2 kv2 W2 hD2 hDK2 hk2 hkk2 hbW2
        have HS9 := Aside0.mk ((HS81.out.step HWX.out).step hbW2)
        have p8 := HS9.out.ref.cell
        have v8 := HS9.out.lv.cell
        have e8 := HS9.out.res.cell
        have f8 := HS9.out.res.frozen
        have k8 := hk2.cell
        have c8 : W2.cell? ⟨R, 0, none⟩ = some (.slice A xs.length c) := (blk_cell (HR.out.below HS9.out.below).blk 0).trans rfl
        have hlx : D1 < Wx.heap.size := Nat.lt_of_lt_of_le (Array.getElem?_eq_some_iff.1 HD1.out).1 HWX.out.size
        have HE1 : Aside0 (W2.heap[D1]? = some (.deferred (some []))) := ⟨(hbW2.block D1 hlx).trans ((HWX.out.block D1 (Array.getElem?_eq_some_iff.1 HD1.out).1).trans HD1.out)⟩
        have HE2 := Aside0.mk hDK2
        have hlt1 : D1 < W1.heap.size := (Array.getElem?_eq_some_iff.1 HD1.out).1
        have hlz : Wx.heap.size + 1 ≤ D2 := by rw [size_push] at hD2; exact hD2
        have HNE : Aside0 (D1 ≠ D2) := ⟨by omega⟩
        have hsz1 := HS81.out.below.size
        have HL1 : Aside0 (w.heap.size ≤ D1) := ⟨by have h9 := HDW1.out; rw [size_push] at h9; have := HS7.out.below.size; omega⟩
        have HL2 : Aside0 (w.heap.size ≤ D2) := ⟨by have := HWX.out.size; omega⟩
        have hkx : (kv2 != (xs.length : Int)) = false ∨ (kv2 != (xs.length : Int)) = true ∧ (kv2 != leave) = false := by
          rcases hkk2 with rfl | rfl
          · exact Or.inl (by simp)
          · by_cases e : kv2 = (xs.length : Int)
            · exact Or.inl (by simp [e])
            · exact Or.inr ⟨by simpa using e, by simp⟩
        clear hbW2 hD2 hDK2 hkk2 hk2 hlt1 hsz1 HD1 HDW1 HBW1 hlx hlz
        rcases hkx with hkx | ⟨hkx, hkx2⟩
        all_goals go_wp2_with fail
        all_goals go_quiet (fail)
        all_goals go_wp2_with fail
        all_goals rw [rounds_succ]
        all_goals go_wp2_with fail
        all_goals exact fin_same (W := W2.drewN nq) (HS9.out.step (pw_below_drewN (Below.refl _ _) nq)) HE1.out HE2.out HNE.out HL1.out HL2.out rfl)
end Go.Proofs.Ytneodhhoejjncaa
