/- A text of this claim, pruned by a program of the session (prune.py) to what the theorem rests on. -/
import Derived.Test.YtneodhhoejjncaaQcGPair
namespace Go.Proofs.Ytneodhhoejjncaa
open Go.RowKit Go.Proofs.YtneodhhoejjncaaW.PrintWords Go.Proofs.YtneodhhoejjncaaW.PrintMore Go.Proofs.Ytneodhhoejjncaa.PFew
set_option linter.unusedVariables false
set_option linter.unusedSimpArgs false
set_option maxRecDepth 100000 in
set_option maxHeartbeats 8000000 in
theorem copies_few (most : Int) (A1 A2 A3 : Option Addr) (c1 c2 c3 : Nat) (l a b : List S31) (w : World) (hrl : Kd.C k31 w A1 l.length l) (hra : Kd.C k31 w A2 a.length a) (hrb : Kd.C k31 w A3 b.length b) (hc1 : l.length ≤ c1) (hc2 : a.length ≤ c2) (hc3 : b.length ≤ c3)
    (hnl : ∀ p ∈ l, ∀ x ∈ p.f1, x.f0.size ≤ 140737488351232) (hna : ∀ p ∈ a, ∀ x ∈ p.f1, x.f0.size ≤ 140737488351232) (hnb : ∀ p ∈ b, ∀ x ∈ p.f1, x.f0.size ≤ 140737488351232) (hfl : odometerlaw16_few.f 32 l 10 = some true) (hfa : odometerlaw16_few.f 32 a 10 = some true) (hfb : odometerlaw16_few.f 32 b 10 = some true)
    (hl10 : l.length ≤ 10) (ha10 : a.length ≤ 10) (hb10 : b.length ≤ 10) (h2l : ∀ p ∈ l, p.f1.length ≤ 200) (h2a : ∀ p ∈ a, p.f1.length ≤ 200) (h2b : ∀ p ∈ b, p.f1.length ≤ 200) :
    Calls Try.prog 5 #[.int .i64 most, .slice A1 l.length c1, .slice A2 a.length c2, .slice A3 b.length c3] w fun e w' => e = .returned (.bool true) ∧ Below w.heap.size w w' := by
  have hfewl := fun W (hb : Below w.heap.size w W) => odometerlaw16_few.calls 32 A1 c1 l 10 true W (hrl.imp_ hb (fun _ _ h => Kd.K_below _ hb h)) hc1 hfl
  have hfewa := fun W (hb : Below w.heap.size w W) => odometerlaw16_few.calls 32 A2 c2 a 10 true W (hra.imp_ hb (fun _ _ h => Kd.K_below _ hb h)) hc2 hfa
  have hfewb := fun W (hb : Below w.heap.size w W) => odometerlaw16_few.calls 32 A3 c3 b 10 true W (hrb.imp_ hb (fun _ _ h => Kd.K_below _ hb h)) hc3 hfb
  obtain ⟨m, hm⟩ : ∃ m, m = (if most < 0 then 0 else most) := ⟨_, rfl⟩
  have hm0 : 0 ≤ m := by rw [hm]; split <;> omega
  have hmax : ∀ W, (Builtin.max_ #[3, 3] 3 #[.int .i64 most, .int .i64 0]).run Try.prog W = .ok (.int .i64 m) W := fun W => by
    rw [hm, max_two, max2_int]
    rfl
  have hnew := fun W => new_calls most W
  rw [← hm] at hnew
  have hrnew := fun W => rnew_calls most m w.heap.size hmax W
  have hno : sK.ok ⟨#[110, 111, 32, 115, 117, 99, 104, 32, 110, 97, 109, 101]⟩ := by
    show (12 : Nat) ≤ maxLen
    unfold maxLen
    omega
  have HSAME := Aside0.mk (fun W (i : Nat) (hi : i ≤ 30) B mb R f cnt xs v (hP : Played w W B mb R m i f cnt xs v) => same_calls B mb m f cnt w.heap.size R m xs v 0 W hP.st hP.rf hP.ls hm0 (by have := hP.few; omega) hP.len hno (by have := hP.few; have := hP.len; omega))
  have HRl := Aside0.mk hrl
  have HRa := Aside0.mk hra
  have HRb := Aside0.mk hrb
  have HNl := Aside0.mk hnl
  have HNa := Aside0.mk hna
  have HNb := Aside0.mk hnb
  have H2l := Aside0.mk h2l
  have H2a := Aside0.mk h2a
  have H2b := Aside0.mk h2b
  have HM0 := Aside0.mk hm0
  have HFa := Aside0.mk hfewa
  have HFb := Aside0.mk hfewb
  clear hm hrl hra hrb hnl hna hnb h2l h2a h2b hfl hfa hfb hno hfewa hfewb hm0
  go_enter Try.func5, Try.ntmps5
  go_wp2_with fail
  refine (hfewl w (Below.refl _ _)).mono ?_
  rintro e w1 ⟨rfl, hd⟩
  have HB1 := Aside0.mk hd.below
  clear hd hfewl
  go_wp2_with fail
  refine (HFa.out w1 HB1.out).mono ?_
  rintro e w2 ⟨rfl, hd⟩
  have HB2 := Aside0.mk (HB1.out.trans (hd.below.mono HB1.out.size))
  clear hd
  go_wp2_with fail
  refine (HFb.out w2 HB2.out).mono ?_
  rintro e w3 ⟨rfl, hd⟩
  have HB3 := Aside0.mk (HB2.out.trans (hd.below.mono HB2.out.size))
  clear hd HFa HFb HB1 HB2 hmax
  go_wp2_with fail
  refine (hnew w3).mono ?_
  rintro e w4 ⟨B, mb, rfl, hB, hmb, hst, hb4⟩
  go_wp2_with fail
  refine (hrnew w4).mono ?_
  rintro e w5 ⟨R, rfl, hRl, hrf, hb5⟩
  have hz3 := HB3.out.size
  have hz4 := hb4.size
  have HO : Aside0 (Played w w5 B mb R m 0 (fun _ => none) 0 [] (.slice none 0 0)) := ⟨⟨hst.below hb5, hrf, ⟨List.Pairwise.nil, fun s x => ⟨fun h => (by cases h), fun h => (by cases h.2)⟩⟩, rfl, Nat.le_refl _, HB3.out.trans ((hb4.mono hz3).trans (hb5.mono (by omega))), (by
      rintro k (e | e | ⟨s, x, _, e⟩)
      · omega
      · omega
      · cases e), (by
      rintro k (e | e)
      · omega
      · cases e)⟩⟩
  clear hst hb4 hnew hrnew hrf hb5 hB hmb hRl hz3 hz4 HB3
  go_wp2_with fail
  go_loopw [11] (fun v0 wr => ∃ (i : Nat) (f : StF) (cnt : Nat) (xs : List Sr) (v : Value), i ≤ l.length ∧ v0 = .int .i64 i ∧ Aside0 (Played w wr B mb R m i f cnt xs v)) (fun v _ => l.length - (intOf v).toNat)
  case atStart => exact ⟨0, _, 0, [], _, Nat.zero_le _, by go_num, HO⟩
  case round =>
    clear HO
    obtain ⟨i, f, cnt, xs, v, hi, rfl, HO⟩ := hrel
    by_cases hlt : i < l.length
    · have hlti : (i : Int) < (l.length : Int) := by omega
      obtain ⟨g, off, rfl, hg, hcc⟩ := C_at HRl.out (by omega) (show 0 < k31.sz by decide)
      obtain ⟨cs, _, hK, hcell⟩ := hcc i l[i] (List.getElem?_eq_getElem hlt)
      obtain ⟨Ai, ci, rfl, hci, hCi⟩ := k31_open hK
      have g0 : wr.cell? ⟨g, off + i * 2, none⟩ = some (.int .i64 l[i].f0) := (HO.out.below.cell (p := ⟨g, off + i * 2, none⟩) hg).trans (hcell 0 _ rfl)
      have g1 : wr.cell? ⟨g, off + i * 2 + 1, none⟩ = some (.slice Ai l[i].f1.length ci) := (HO.out.below.cell (p := ⟨g, off + i * 2 + 1, none⟩) hg).trans (hcell 1 _ rfl)
      have hlen := H2l.out l[i] (List.getElem_mem hlt)
      have hnm := HNl.out l[i] (List.getElem_mem hlt)
      clear hcc hcell hK
      generalize l[i] = P at *
      have hlm : (P.f1.map smpOf).length = P.f1.length := List.length_map _
      have hlk : ∀ x ∈ P.f1.map smpOf, sK.ok x.nm := fun x hx => by
        obtain ⟨y, hy, rfl⟩ := List.mem_map.1 hx
        have := hnm y hy
        show y.f0.size ≤ maxLen
        unfold maxLen
        omega
      have HRD0 : Aside0 (ReadsS (fun k => w.heap.size ≤ k) wr Ai (P.f1.map smpOf)) := ⟨(reads_of hCi (F := fun k => w.heap.size ≤ k) (fun k hk => by omega)).kept (Kept_below HO.out.below)⟩
      have HLM := Aside0.mk hlm
      have HLK := Aside0.mk hlk
      clear hlm hlk hnm hCi
      generalize hLi : P.f1.map smpOf = Li at *
      generalize hnP : P.f1.length = n at *
      generalize hoP : P.f0 = ow at *
      clear hLi hnP hoP
      have hgl : g < wr.heap.size := World.block_lt_of_cell? _ _ g0
      have hwz := HO.out.below.size
      have HO4 := Aside0.mk (HO.out.step (below_drew (Below.refl _ _)))
      have hread1 : ReadsS (foot B mb f) wr.drew Ai Li := (HRD0.out.kept (Kept_below (below_drew (Below.refl _ _)))).wide fun k hk hn hf => hn (HO4.out.foot k hf)
      have hput1 : Calls Try.prog 10 #[.pointer (some ⟨B, 0, none⟩), .int .i64 ow, .slice Ai n ci] wr.drew fun e w' => ∃ As cs5, e = .returned (.slice As n cs5) ∧ (w'.cell? ⟨g, off + i * 2, none⟩ = some (.int .i64 ow) ∧ w'.cell? ⟨g, off + i * 2 + 1, none⟩ = some (.slice Ai n ci)) ∧ Aside0 (∃ f5, er f5 = outS ow Li (samplesP m ow Li (er f, cnt)).2.1 ∧ Left wr.drew w' B mb m f f5 (samplesP m ow Li (er f, cnt)).2.2) := by
        have h9 := put_calls B mb m ow f cnt Ai ci Li wr.drew HO4.out.st hread1 HLK.out (by have := HO.out.few; have := HLM.out; omega)
        rw [HLM.out] at h9
        refine h9.mono ?_
        rintro e w' ⟨vs, rfl, hrow5, f5, he5, hL5⟩
        obtain ⟨As, cs5, rfl⟩ := own_slice hrow5
        have hgw := fun o => cell_blk o (hL5.kept.block g hgl (fun hk => by have := HO4.out.foot g hk; omega))
        exact ⟨As, cs5, rfl, ⟨(hgw _).trans g0, (hgw _).trans g1⟩, ⟨f5, he5, hL5⟩⟩
      clear hread1
      go_wp2_with fail
      go_region_held3 (fun w' => w'.cell? ⟨g, off + i * 2, none⟩ = some (.int .i64 ow) ∧ w'.cell? ⟨g, off + i * 2 + 1, none⟩ = some (.slice Ai n ci)) (first | go_keep)
        (first
          | (go_at_call 10; refine hput1.mono ?_; rintro e w5 ⟨As, cs5, rfl, ⟨k2, k3⟩, HP5⟩))
      obtain ⟨f5, he5, hL5⟩ := HP5.out
      have HL5 := Aside0.mk hL5
      have HE5 := Aside0.mk he5
      have hz5 : wr.heap.size ≤ w5.heap.size := hL5.kept.size
      have hrf5 : RefAt w5 w.heap.size R m xs v := HO4.out.rf.off hL5.kept fun k hk => rfoot_not HO4.out.st HO4.out.rf hk
      have hrd5 : ReadsS (rfoot R v) w5.drew Ai Li := (((HRD0.out.kept (Kept_below (below_drew (Below.refl _ _)))).kept (hL5.kept.mono HO4.out.foot)).kept (Kept_below (below_drew (Below.refl _ _)))).wide fun k hk hn hf => hn (HO4.out.rfoot k hf)
      have hput2 : Calls Try.prog 15 #[.pointer (some ⟨R, 0, none⟩), .int .i64 ow, .slice Ai n ci] w5.drew fun e w' => ∃ Ar cr, e = .returned (.slice Ar n cr) ∧ (w'.cell? ⟨g, off + i * 2, none⟩ = some (.int .i64 ow) ∧ w'.cell? ⟨g, off + i * 2 + 1, none⟩ = some (.slice Ai n ci)) ∧ Aside0 (∃ v6, RLeft w5 w' w.heap.size R m v v6 (outL ow Li (samplesL m ow Li (er f, xs)).2)) := by
        have h9 := rput_calls w.heap.size R m ow xs v (er f) Ai ci Li w5.drew (hrf5.below (below_drew (Below.refl _ _))) (by show w.heap.size ≤ w5.heap.size; omega) HO4.out.ls hrd5 HLK.out (by have := HO.out.few; have := HO.out.len; have := HLM.out; omega)
        rw [HLM.out] at h9
        refine h9.mono ?_
        rintro e w' ⟨vr, rfl, hrow, v6, hR6⟩
        obtain ⟨Ar, cr, rfl⟩ := own_slice hrow
        have hR7 : RLeft w5 w' w.heap.size R m v v6 (outL ow Li (samplesL m ow Li (er f, xs)).2) := (RLeft.same hrf5 (below_drew (Below.refl _ _))).trans hR6
        have hgw6 := fun o => cell_blk o (hR7.kept.block g (by omega) (fun hk => by have := HO4.out.rfoot g hk; omega))
        exact ⟨Ar, cr, rfl, ⟨(hgw6 _).trans k2, (hgw6 _).trans k3⟩, ⟨v6, hR7⟩⟩
      clear he5 hL5 hrf5 hrd5 hput1 g0 g1
      go_wp2_with fail
      go_region_held3 (fun w' => w'.cell? ⟨g, off + i * 2, none⟩ = some (.int .i64 ow) ∧ w'.cell? ⟨g, off + i * 2 + 1, none⟩ = some (.slice Ai n ci)) (first | go_keep)
        (first
          | (go_at_call 15; refine hput2.mono ?_; rintro e w6 ⟨Ar, cr, rfl, ⟨k4, k5⟩, HQ⟩))
      obtain ⟨v6, hR6⟩ := HQ.out
      have HP6 := Aside0.mk (played_put HO4.out HLK.out HLM.out hlen HE5.out HL5.out hR6)
      clear hR6 HQ hput2 k2 k3 k4 k5 HL5 HE5 HO4 HRD0 HP5
      go_wp2_with fail
      exact ⟨⟨i + 1, _, _, _, _, by omega, by go_num, HP6⟩, by simp [intOf]; omega⟩
    · have hie : i = l.length := by omega
      have hlti : ¬ (i : Int) < (l.length : Int) := by omega
      have hi10 : i ≤ 10 := by omega
      clear hie hi hlt
      generalize hw0 : wr = w6 at *
      clear hw0
      go_wp2_with fail
      refine (copy_calls B mb m f cnt w6 HO.out.st HM0.out (by have := HO.out.few; unfold maxLen; omega)).mono ?_
      rintro e w7 ⟨B2, mb2, f2, rfl, hst2, her2, hft2, hb7⟩
      have HO7 := Aside0.mk (HO.out.step hb7)
      have hxl : xs.length ≤ 1099511627776 := by have := HO.out.few; have := HO.out.len; omega
      go_wp2_with fail
      refine (rcopy_calls w.heap.size R m xs v w7 HO7.out.rf hxl).mono ?_
      rintro e w8 ⟨R2, v2, rfl, hrf2, hR2, hb8⟩
      have hz6 := HO.out.below.size
      have hz7 := hb7.size
      have HP8 : Aside0 (Pair w w8 m B mb R i f cnt xs v B2 mb2 R2 i f2 cnt xs v2) := ⟨⟨HO7.out.step hb8, ⟨hst2.below hb8, ⟨hrf2.blk, own_weaken hrf2.row (by omega)⟩, by rw [her2]; exact HO.out.ls, HO.out.len, HO.out.few, HO7.out.below.trans (hb8.mono HO7.out.below.size), fun k hk => (by have := hft2 k hk; omega), (by
          rintro k (rfl | hk)
          · omega
          · have := own_base hrf2.row k hk
            omega)⟩, (by
        rintro k hk1 hk2
        have h1 : k < w6.heap.size := by
          rcases hk1 with hk1 | hk1
          · exact HO.out.st.lt hk1
          · exact HO.out.rf.lt hk1
        rcases hk2 with hk2 | rfl | hk2
        · have := hft2 k hk2; omega
        · omega
        · have := own_base hrf2.row k hk2; omega)⟩⟩
      have HW : Aside0 (Within f f2 ∧ Within f2 f) := ⟨⟨fun s x _ hx => by rw [her2]; exact hx, fun s x _ hx => by rw [her2] at hx; exact hx⟩⟩
      clear hst2 her2 hft2 hb7 hrf2 hR2 hb8 hz6 hz7 HO7 HO hxl
      go_wp2_with fail
      refine (same_st B mb B2 mb2 m f f2 cnt cnt w8 HP8.out.p1.st HP8.out.p2.st).mono ?_
      rintro e w9 ⟨s1, rfl, hs1, hb9⟩
      obtain rfl : s1 = true := hs1.2 ⟨rfl, HW.out.1⟩
      have HP9 := Aside0.mk (HP8.out.step hb9)
      clear hs1 hb9 HP8
      go_wp2_with fail
      refine (same_st B2 mb2 B mb m f2 f cnt cnt w9 HP9.out.p2.st HP9.out.p1.st).mono ?_
      rintro e w10 ⟨s2, rfl, hs2, hb10⟩
      obtain rfl : s2 = true := hs2.2 ⟨rfl, HW.out.2⟩
      obtain ⟨cnt2, xs2, HP⟩ : ∃ cnt2 xs2, Aside0 (Pair w w10 m B mb R i f cnt xs v B2 mb2 R2 i f2 cnt2 xs2 v2) := ⟨cnt, xs, ⟨HP9.out.step hb10⟩⟩
      clear hs2 hb10 HP9 HW
      generalize i = i0 at *
      generalize hf0 : f = f0 at *
      generalize hc0 : cnt = cnt0 at *
      generalize hx0 : xs = xs0 at *
      generalize hv0 : v = vv0 at *
      clear hf0 hc0 hx0 hv0
      go_wp2_with fail
      go_loopw [14] (fun v0 wr => ∃ (i : Nat) (f : StF) (cnt : Nat) (xs : List Sr) (v : Value), i ≤ a.length ∧ v0 = .int .i64 i ∧ Aside0 (Pair w wr m B mb R (i0 + i) f cnt xs v B2 mb2 R2 i0 f2 cnt2 xs2 v2)) (fun v _ => a.length - (intOf v).toNat)
      case atStart => exact ⟨0, _, _, _, _, Nat.zero_le _, by go_num, HP⟩
      case round =>
        clear HP
        obtain ⟨i, f, cnt, xs, v, hi, rfl, HO⟩ := hrel
        by_cases hlt : i < a.length
        · have hlti : (i : Int) < (a.length : Int) := by omega
          obtain ⟨g, off, rfl, hg, hcc⟩ := C_at HRa.out (by omega) (show 0 < k31.sz by decide)
          obtain ⟨cs, _, hK, hcell⟩ := hcc i a[i] (List.getElem?_eq_getElem hlt)
          obtain ⟨Ai, ci, rfl, hci, hCi⟩ := k31_open hK
          have g0 : wr.cell? ⟨g, off + i * 2, none⟩ = some (.int .i64 a[i].f0) := (HO.out.p1.below.cell (p := ⟨g, off + i * 2, none⟩) hg).trans (hcell 0 _ rfl)
          have g1 : wr.cell? ⟨g, off + i * 2 + 1, none⟩ = some (.slice Ai a[i].f1.length ci) := (HO.out.p1.below.cell (p := ⟨g, off + i * 2 + 1, none⟩) hg).trans (hcell 1 _ rfl)
          have hlen := H2a.out a[i] (List.getElem_mem hlt)
          have hnm := HNa.out a[i] (List.getElem_mem hlt)
          clear hcc hcell hK
          generalize a[i] = P at *
          have hlm : (P.f1.map smpOf).length = P.f1.length := List.length_map _
          have hlk : ∀ x ∈ P.f1.map smpOf, sK.ok x.nm := fun x hx => by
            obtain ⟨y, hy, rfl⟩ := List.mem_map.1 hx
            have := hnm y hy
            show y.f0.size ≤ maxLen
            unfold maxLen
            omega
          have HRD0 : Aside0 (ReadsS (fun k => w.heap.size ≤ k) wr Ai (P.f1.map smpOf)) := ⟨(reads_of hCi (F := fun k => w.heap.size ≤ k) (fun k hk => by omega)).kept (Kept_below HO.out.p1.below)⟩
          have HLM := Aside0.mk hlm
          have HLK := Aside0.mk hlk
          clear hlm hlk hnm hCi
          generalize hLi : P.f1.map smpOf = Li at *
          generalize hnP : P.f1.length = n at *
          generalize hoP : P.f0 = ow at *
          clear hLi hnP hoP
          have hgl : g < wr.heap.size := World.block_lt_of_cell? _ _ g0
          have hwz := HO.out.p1.below.size
          have HO4 := Aside0.mk (HO.out.step (below_drew (Below.refl _ _)))
          have hread1 : ReadsS (foot B mb f) wr.drew Ai Li := (HRD0.out.kept (Kept_below (below_drew (Below.refl _ _)))).wide fun k hk hn hf => hn (HO4.out.p1.foot k hf)
          have hput1 : Calls Try.prog 10 #[.pointer (some ⟨B, 0, none⟩), .int .i64 ow, .slice Ai n ci] wr.drew fun e w' => ∃ As cs5, e = .returned (.slice As n cs5) ∧ (w'.cell? ⟨g, off + i * 2, none⟩ = some (.int .i64 ow) ∧ w'.cell? ⟨g, off + i * 2 + 1, none⟩ = some (.slice Ai n ci)) ∧ Aside0 (∃ f5, er f5 = outS ow Li (samplesP m ow Li (er f, cnt)).2.1 ∧ Left wr.drew w' B mb m f f5 (samplesP m ow Li (er f, cnt)).2.2) := by
            have h9 := put_calls B mb m ow f cnt Ai ci Li wr.drew HO4.out.p1.st hread1 HLK.out (by have := HO.out.p1.few; have := HLM.out; omega)
            rw [HLM.out] at h9
            refine h9.mono ?_
            rintro e w' ⟨vs, rfl, hrow5, f5, he5, hL5⟩
            obtain ⟨As, cs5, rfl⟩ := own_slice hrow5
            have hgw := fun o => cell_blk o (hL5.kept.block g hgl (fun hk => by have := HO4.out.p1.foot g hk; omega))
            exact ⟨As, cs5, rfl, ⟨(hgw _).trans g0, (hgw _).trans g1⟩, ⟨f5, he5, hL5⟩⟩
          clear hread1
          go_wp2_with fail
          go_region_held3 (fun w' => w'.cell? ⟨g, off + i * 2, none⟩ = some (.int .i64 ow) ∧ w'.cell? ⟨g, off + i * 2 + 1, none⟩ = some (.slice Ai n ci)) (first | go_keep)
            (first
              | (go_at_call 10; refine hput1.mono ?_; rintro e w5 ⟨As, cs5, rfl, ⟨k2, k3⟩, HP5⟩))
          obtain ⟨f5, he5, hL5⟩ := HP5.out
          have HL5 := Aside0.mk hL5
          have HE5 := Aside0.mk he5
          have hz5 : wr.heap.size ≤ w5.heap.size := hL5.kept.size
          have hrf5 : RefAt w5 w.heap.size R m xs v := HO4.out.p1.rf.off hL5.kept fun k hk => rfoot_not HO4.out.p1.st HO4.out.p1.rf hk
          have hrd5 : ReadsS (rfoot R v) w5.drew Ai Li := (((HRD0.out.kept (Kept_below (below_drew (Below.refl _ _)))).kept (hL5.kept.mono HO4.out.p1.foot)).kept (Kept_below (below_drew (Below.refl _ _)))).wide fun k hk hn hf => hn (HO4.out.p1.rfoot k hf)
          have hput2 : Calls Try.prog 15 #[.pointer (some ⟨R, 0, none⟩), .int .i64 ow, .slice Ai n ci] w5.drew fun e w' => ∃ Ar cr, e = .returned (.slice Ar n cr) ∧ (w'.cell? ⟨g, off + i * 2, none⟩ = some (.int .i64 ow) ∧ w'.cell? ⟨g, off + i * 2 + 1, none⟩ = some (.slice Ai n ci)) ∧ Aside0 (∃ v6, RLeft w5 w' w.heap.size R m v v6 (outL ow Li (samplesL m ow Li (er f, xs)).2)) := by
            have h9 := rput_calls w.heap.size R m ow xs v (er f) Ai ci Li w5.drew (hrf5.below (below_drew (Below.refl _ _))) (by show w.heap.size ≤ w5.heap.size; omega) HO4.out.p1.ls hrd5 HLK.out (by have := HO.out.p1.few; have := HO.out.p1.len; have := HLM.out; omega)
            rw [HLM.out] at h9
            refine h9.mono ?_
            rintro e w' ⟨vr, rfl, hrow, v6, hR6⟩
            obtain ⟨Ar, cr, rfl⟩ := own_slice hrow
            have hR7 : RLeft w5 w' w.heap.size R m v v6 (outL ow Li (samplesL m ow Li (er f, xs)).2) := (RLeft.same hrf5 (below_drew (Below.refl _ _))).trans hR6
            have hgw6 := fun o => cell_blk o (hR7.kept.block g (by omega) (fun hk => by have := HO4.out.p1.rfoot g hk; omega))
            exact ⟨Ar, cr, rfl, ⟨(hgw6 _).trans k2, (hgw6 _).trans k3⟩, ⟨v6, hR7⟩⟩
          clear he5 hL5 hrf5 hrd5 hput1 g0 g1
          go_wp2_with fail
          go_region_held3 (fun w' => w'.cell? ⟨g, off + i * 2, none⟩ = some (.int .i64 ow) ∧ w'.cell? ⟨g, off + i * 2 + 1, none⟩ = some (.slice Ai n ci)) (first | go_keep)
            (first
              | (go_at_call 15; refine hput2.mono ?_; rintro e w6 ⟨Ar, cr, rfl, ⟨k4, k5⟩, HQ⟩))
          obtain ⟨v6, hR6⟩ := HQ.out
          have HP6 := Aside0.mk (pair_put HO4.out HLK.out HLM.out hlen HE5.out HL5.out hR6)
          clear hR6 HQ hput2 k2 k3 k4 k5 HL5 HE5 HO4 HRD0 HP5
          go_wp2_with fail
          exact ⟨⟨i + 1, _, _, _, _, by omega, by go_num, HP6⟩, by simp [intOf]; omega⟩
        · have hie : i = a.length := by omega
          have hlti : ¬ (i : Int) < (a.length : Int) := by omega
          have hi20 : i0 + i ≤ 20 := by omega
          have HPs := Aside0.mk HO.out.swap
          clear hie hi hlt HO
          generalize hw0 : wr = w11 at *
          clear hw0
          generalize i0 + i = i1 at *
          generalize hf0 : f = f1 at *
          generalize hc0 : cnt = cnt1 at *
          generalize hx0 : xs = xs1 at *
          generalize hv0 : v = vv1 at *
          clear hf0 hc0 hx0 hv0
          go_wp2_with fail
          go_loopw [15] (fun v0 wr => ∃ (i : Nat) (f : StF) (cnt : Nat) (xs : List Sr) (v : Value), i ≤ b.length ∧ v0 = .int .i64 i ∧ Aside0 (Pair w wr m B2 mb2 R2 (i0 + i) f cnt xs v B mb R i1 f1 cnt1 xs1 vv1)) (fun v _ => b.length - (intOf v).toNat)
          case atStart => exact ⟨0, _, _, _, _, Nat.zero_le _, by go_num, HPs⟩
          case round =>
            clear HPs
            obtain ⟨i, f, cnt, xs, v, hi, rfl, HO⟩ := hrel
            by_cases hlt : i < b.length
            · have hlti : (i : Int) < (b.length : Int) := by omega
              obtain ⟨g, off, rfl, hg, hcc⟩ := C_at HRb.out (by omega) (show 0 < k31.sz by decide)
              obtain ⟨cs, _, hK, hcell⟩ := hcc i b[i] (List.getElem?_eq_getElem hlt)
              obtain ⟨Ai, ci, rfl, hci, hCi⟩ := k31_open hK
              have g0 : wr.cell? ⟨g, off + i * 2, none⟩ = some (.int .i64 b[i].f0) := (HO.out.p1.below.cell (p := ⟨g, off + i * 2, none⟩) hg).trans (hcell 0 _ rfl)
              have g1 : wr.cell? ⟨g, off + i * 2 + 1, none⟩ = some (.slice Ai b[i].f1.length ci) := (HO.out.p1.below.cell (p := ⟨g, off + i * 2 + 1, none⟩) hg).trans (hcell 1 _ rfl)
              have hlen := H2b.out b[i] (List.getElem_mem hlt)
              have hnm := HNb.out b[i] (List.getElem_mem hlt)
              clear hcc hcell hK
              generalize b[i] = P at *
              have hlm : (P.f1.map smpOf).length = P.f1.length := List.length_map _
              have hlk : ∀ x ∈ P.f1.map smpOf, sK.ok x.nm := fun x hx => by
                obtain ⟨y, hy, rfl⟩ := List.mem_map.1 hx
                have := hnm y hy
                show y.f0.size ≤ maxLen
                unfold maxLen
                omega
              have HRD0 : Aside0 (ReadsS (fun k => w.heap.size ≤ k) wr Ai (P.f1.map smpOf)) := ⟨(reads_of hCi (F := fun k => w.heap.size ≤ k) (fun k hk => by omega)).kept (Kept_below HO.out.p1.below)⟩
              have HLM := Aside0.mk hlm
              have HLK := Aside0.mk hlk
              clear hlm hlk hnm hCi
              generalize hLi : P.f1.map smpOf = Li at *
              generalize hnP : P.f1.length = n at *
              generalize hoP : P.f0 = ow at *
              clear hLi hnP hoP
              have hgl : g < wr.heap.size := World.block_lt_of_cell? _ _ g0
              have hwz := HO.out.p1.below.size
              have HO4 := Aside0.mk (HO.out.step (below_drew (Below.refl _ _)))
              have hread1 : ReadsS (foot B2 mb2 f) wr.drew Ai Li := (HRD0.out.kept (Kept_below (below_drew (Below.refl _ _)))).wide fun k hk hn hf => hn (HO4.out.p1.foot k hf)
              have hput1 : Calls Try.prog 10 #[.pointer (some ⟨B2, 0, none⟩), .int .i64 ow, .slice Ai n ci] wr.drew fun e w' => ∃ As cs5, e = .returned (.slice As n cs5) ∧ (w'.cell? ⟨g, off + i * 2, none⟩ = some (.int .i64 ow) ∧ w'.cell? ⟨g, off + i * 2 + 1, none⟩ = some (.slice Ai n ci)) ∧ Aside0 (∃ f5, er f5 = outS ow Li (samplesP m ow Li (er f, cnt)).2.1 ∧ Left wr.drew w' B2 mb2 m f f5 (samplesP m ow Li (er f, cnt)).2.2) := by
                have h9 := put_calls B2 mb2 m ow f cnt Ai ci Li wr.drew HO4.out.p1.st hread1 HLK.out (by have := HO.out.p1.few; have := HLM.out; omega)
                rw [HLM.out] at h9
                refine h9.mono ?_
                rintro e w' ⟨vs, rfl, hrow5, f5, he5, hL5⟩
                obtain ⟨As, cs5, rfl⟩ := own_slice hrow5
                have hgw := fun o => cell_blk o (hL5.kept.block g hgl (fun hk => by have := HO4.out.p1.foot g hk; omega))
                exact ⟨As, cs5, rfl, ⟨(hgw _).trans g0, (hgw _).trans g1⟩, ⟨f5, he5, hL5⟩⟩
              clear hread1
              go_wp2_with fail
              go_region_held3 (fun w' => w'.cell? ⟨g, off + i * 2, none⟩ = some (.int .i64 ow) ∧ w'.cell? ⟨g, off + i * 2 + 1, none⟩ = some (.slice Ai n ci)) (first | go_keep)
                (first
                  | (go_at_call 10; refine hput1.mono ?_; rintro e w5 ⟨As, cs5, rfl, ⟨k2, k3⟩, HP5⟩))
              obtain ⟨f5, he5, hL5⟩ := HP5.out
              have HL5 := Aside0.mk hL5
              have HE5 := Aside0.mk he5
              have hz5 : wr.heap.size ≤ w5.heap.size := hL5.kept.size
              have hrf5 : RefAt w5 w.heap.size R2 m xs v := HO4.out.p1.rf.off hL5.kept fun k hk => rfoot_not HO4.out.p1.st HO4.out.p1.rf hk
              have hrd5 : ReadsS (rfoot R2 v) w5.drew Ai Li := (((HRD0.out.kept (Kept_below (below_drew (Below.refl _ _)))).kept (hL5.kept.mono HO4.out.p1.foot)).kept (Kept_below (below_drew (Below.refl _ _)))).wide fun k hk hn hf => hn (HO4.out.p1.rfoot k hf)
              have hput2 : Calls Try.prog 15 #[.pointer (some ⟨R2, 0, none⟩), .int .i64 ow, .slice Ai n ci] w5.drew fun e w' => ∃ Ar cr, e = .returned (.slice Ar n cr) ∧ (w'.cell? ⟨g, off + i * 2, none⟩ = some (.int .i64 ow) ∧ w'.cell? ⟨g, off + i * 2 + 1, none⟩ = some (.slice Ai n ci)) ∧ Aside0 (∃ v6, RLeft w5 w' w.heap.size R2 m v v6 (outL ow Li (samplesL m ow Li (er f, xs)).2)) := by
                have h9 := rput_calls w.heap.size R2 m ow xs v (er f) Ai ci Li w5.drew (hrf5.below (below_drew (Below.refl _ _))) (by show w.heap.size ≤ w5.heap.size; omega) HO4.out.p1.ls hrd5 HLK.out (by have := HO.out.p1.few; have := HO.out.p1.len; have := HLM.out; omega)
                rw [HLM.out] at h9
                refine h9.mono ?_
                rintro e w' ⟨vr, rfl, hrow, v6, hR6⟩
                obtain ⟨Ar, cr, rfl⟩ := own_slice hrow
                have hR7 : RLeft w5 w' w.heap.size R2 m v v6 (outL ow Li (samplesL m ow Li (er f, xs)).2) := (RLeft.same hrf5 (below_drew (Below.refl _ _))).trans hR6
                have hgw6 := fun o => cell_blk o (hR7.kept.block g (by omega) (fun hk => by have := HO4.out.p1.rfoot g hk; omega))
                exact ⟨Ar, cr, rfl, ⟨(hgw6 _).trans k2, (hgw6 _).trans k3⟩, ⟨v6, hR7⟩⟩
              clear he5 hL5 hrf5 hrd5 hput1 g0 g1
              go_wp2_with fail
              go_region_held3 (fun w' => w'.cell? ⟨g, off + i * 2, none⟩ = some (.int .i64 ow) ∧ w'.cell? ⟨g, off + i * 2 + 1, none⟩ = some (.slice Ai n ci)) (first | go_keep)
                (first
                  | (go_at_call 15; refine hput2.mono ?_; rintro e w6 ⟨Ar, cr, rfl, ⟨k4, k5⟩, HQ⟩))
              obtain ⟨v6, hR6⟩ := HQ.out
              have HP6 := Aside0.mk (pair_put HO4.out HLK.out HLM.out hlen HE5.out HL5.out hR6)
              clear hR6 HQ hput2 k2 k3 k4 k5 HL5 HE5 HO4 HRD0 HP5
              go_wp2_with fail
              exact ⟨⟨i + 1, _, _, _, _, by omega, by go_num, HP6⟩, by simp [intOf]; omega⟩
            · have hie : i = b.length := by omega
              have hlti : ¬ (i : Int) < (b.length : Int) := by omega
              have hi30 : i0 + i ≤ 30 := by omega
              have HPx := Aside0.mk HO.out.swap
              clear hie hi hlt HO
              have hxl : xs1.length ≤ 1099511627776 := by have := HPx.out.p1.few; have := HPx.out.p1.len; omega
              go_wp2_with fail
              refine (alike_calls w.heap.size w.heap.size R R2 m xs1 xs vv1 v wr HPx.out.p1.rf HPx.out.p2.rf hxl).mono ?_
              rintro e w12 ⟨rfl, hb12⟩
              have HP12 := Aside0.mk (HPx.out.step hb12)
              clear hb12 HPx
              go_wp2_with fail
              refine (HSAME.out w12 i1 (by omega) B mb R _ _ _ _ HP12.out.p1).mono ?_
              rintro e w13 ⟨rfl, hb13⟩
              have HP13 := Aside0.mk (HP12.out.step hb13)
              clear hb13 HP12
              go_wp2_with fail
              refine (HSAME.out w13 (i0 + i) (by omega) B2 mb2 R2 _ _ _ _ HP13.out.p2).mono ?_
              rintro e w14 ⟨rfl, hb14⟩
              have HP14 := Aside0.mk (HP13.out.step hb14)
              clear hb14 HP13
              go_wp2_with fail
              refine (same_st B mb B2 mb2 m f1 f cnt1 cnt w14 HP14.out.p1.st HP14.out.p2.st).mono ?_
              rintro e w15 ⟨s1, rfl, hs1, hb15⟩
              have HP15 := Aside0.mk (HP14.out.step hb15)
              obtain rfl : s1 = decide (xs1 = xs) := by
                have h9 := hs1.trans (within_iff HP15.out.p1.ls HP15.out.p2.ls HP15.out.p1.len HP15.out.p2.len)
                by_cases e9 : xs1 = xs
                · rw [decide_eq_true e9]; exact h9.2 e9
                · rw [decide_eq_false e9, Bool.eq_false_iff]; exact fun e8 => e9 (h9.1 e8)
              clear hs1 hb15 HP14
              go_wp2_with fail
              refine (same_st B2 mb2 B mb m f f1 cnt cnt1 w15 HP15.out.p2.st HP15.out.p1.st).mono ?_
              rintro e w16 ⟨s2, rfl, hs2, hb16⟩
              have HP16 := Aside0.mk (HP15.out.step hb16)
              obtain rfl : s2 = decide (xs1 = xs) := by
                have h9 := hs2.trans (within_iff HP15.out.p2.ls HP15.out.p1.ls HP15.out.p2.len HP15.out.p1.len)
                by_cases e9 : xs1 = xs
                · rw [decide_eq_true e9]; exact h9.2 e9.symm
                · rw [decide_eq_false e9, Bool.eq_false_iff]; exact fun e8 => e9 (h9.1 e8).symm
              clear hs2 hb16 HP15
              go_wp2_with fail
              refine (known_calls w16).mono ?_
              rintro e w17 ⟨rfl, hb17⟩
              go_wp2_with fail
              go_ret
              exact ⟨rfl, HP16.out.p1.below.trans (hb17.mono HP16.out.p1.below.size)⟩
set_option maxRecDepth 100000 in
set_option maxHeartbeats 2000000 in
theorem copies_else (most : Int) (A1 A2 A3 : Option Addr) (c1 c2 c3 : Nat) (l a b : List S31) (w : World) (hrl : Kd.C k31 w A1 l.length l) (hra : Kd.C k31 w A2 a.length a) (hrb : Kd.C k31 w A3 b.length b) (hc1 : l.length ≤ c1) (hc2 : a.length ≤ c2) (hc3 : b.length ≤ c3)
    (bl ba bb : Bool) (hfl : odometerlaw16_few.f 32 l 10 = some bl) (hfa : odometerlaw16_few.f 32 a 10 = some ba) (hfb : odometerlaw16_few.f 32 b 10 = some bb) (hn : ¬ (bl = true ∧ ba = true ∧ bb = true)) :
    Calls Try.prog 5 #[.int .i64 most, .slice A1 l.length c1, .slice A2 a.length c2, .slice A3 b.length c3] w fun e w' => e = .returned (.bool true) ∧ Below w.heap.size w w' := by
  have hfewl := fun W (hb : Below w.heap.size w W) => odometerlaw16_few.calls 32 A1 c1 l 10 bl W (hrl.imp_ hb (fun _ _ h => Kd.K_below _ hb h)) hc1 hfl
  have hfewa := fun W (hb : Below w.heap.size w W) => odometerlaw16_few.calls 32 A2 c2 a 10 ba W (hra.imp_ hb (fun _ _ h => Kd.K_below _ hb h)) hc2 hfa
  have hfewb := fun W (hb : Below w.heap.size w W) => odometerlaw16_few.calls 32 A3 c3 b 10 bb W (hrb.imp_ hb (fun _ _ h => Kd.K_below _ hb h)) hc3 hfb
  have HFa := Aside0.mk hfewa
  have HFb := Aside0.mk hfewb
  clear hrl hra hrb hfl hfa hfb hfewa hfewb
  cases bl with
  | false =>
    go_enter Try.func5, Try.ntmps5
    go_wp2_with fail
    refine (hfewl w (Below.refl _ _)).mono ?_
    rintro e w1 ⟨rfl, hd⟩
    have HB1 := Aside0.mk hd.below
    clear hd hfewl
    go_wp2_with fail
    refine (known_calls w1).mono ?_
    rintro e w5 ⟨rfl, hb5⟩
    go_wp2_with fail
    go_ret
    exact ⟨rfl, HB1.out.trans (hb5.mono HB1.out.size)⟩
  | true =>
    cases ba with
    | false =>
      go_enter Try.func5, Try.ntmps5
      go_wp2_with fail
      refine (hfewl w (Below.refl _ _)).mono ?_
      rintro e w1 ⟨rfl, hd⟩
      have HB1 := Aside0.mk hd.below
      clear hd hfewl
      go_wp2_with fail
      refine (HFa.out w1 HB1.out).mono ?_
      rintro e w2 ⟨rfl, hd⟩
      have HB2 := Aside0.mk (HB1.out.trans (hd.below.mono HB1.out.size))
      clear hd
      go_wp2_with fail
      refine (known_calls w2).mono ?_
      rintro e w5 ⟨rfl, hb5⟩
      go_wp2_with fail
      go_ret
      exact ⟨rfl, HB2.out.trans (hb5.mono HB2.out.size)⟩
    | true =>
      have hbb : bb = false := by
        cases bb with
        | false => rfl
        | true => exact absurd ⟨rfl, rfl, rfl⟩ hn
      subst hbb
      clear hn
      go_enter Try.func5, Try.ntmps5
      go_wp2_with fail
      refine (hfewl w (Below.refl _ _)).mono ?_
      rintro e w1 ⟨rfl, hd⟩
      have HB1 := Aside0.mk hd.below
      clear hd hfewl
      go_wp2_with fail
      refine (HFa.out w1 HB1.out).mono ?_
      rintro e w2 ⟨rfl, hd⟩
      have HB2 := Aside0.mk (HB1.out.trans (hd.below.mono HB1.out.size))
      clear hd
      go_wp2_with fail
      refine (HFb.out w2 HB2.out).mono ?_
      rintro e w3 ⟨rfl, hd⟩
      have HB3 := Aside0.mk (HB2.out.trans (hd.below.mono HB2.out.size))
      clear hd
      go_wp2_with fail
      refine (known_calls w3).mono ?_
      rintro e w5 ⟨rfl, hb5⟩
      go_wp2_with fail
      go_ret
      exact ⟨rfl, HB3.out.trans (hb5.mono HB3.out.size)⟩
theorem copies_calls (most : Int) (A1 A2 A3 : Option Addr) (c1 c2 c3 : Nat) (l a b : List S31) (w : World) (hrl : Kd.C k31 w A1 l.length l) (hra : Kd.C k31 w A2 a.length a) (hrb : Kd.C k31 w A3 b.length b) (hc1 : l.length ≤ c1) (hc2 : a.length ≤ c2) (hc3 : b.length ≤ c3)
    (hol : ∀ p ∈ l, PutOk p) (hoa : ∀ p ∈ a, PutOk p) (hob : ∀ p ∈ b, PutOk p) :
    Calls Try.prog 5 #[.int .i64 most, .slice A1 l.length c1, .slice A2 a.length c2, .slice A3 b.length c3] w fun e w' => e = .returned (.bool true) ∧ Below w.heap.size w w' := by
  obtain ⟨bl, hbl, htl⟩ := few_f10 l fun p hp => (hol p hp).1
  obtain ⟨ba, hba, hta⟩ := few_f10 a fun p hp => (hoa p hp).1
  obtain ⟨bb, hbb, htb⟩ := few_f10 b fun p hp => (hob p hp).1
  by_cases h : bl = true ∧ ba = true ∧ bb = true
  · obtain ⟨rfl, rfl, rfl⟩ := h
    exact copies_few most A1 A2 A3 c1 c2 c3 l a b w hrl hra hrb hc1 hc2 hc3 (fun p hp => (hol p hp).2) (fun p hp => (hoa p hp).2) (fun p hp => (hob p hp).2) hbl hba hbb (htl rfl).1 (hta rfl).1 (htb rfl).1 (htl rfl).2 (hta rfl).2 (htb rfl).2
  · exact copies_else most A1 A2 A3 c1 c2 c3 l a b w hrl hra hrb hc1 hc2 hc3 bl ba bb hbl hba hbb h
open Classical in
noncomputable def odometerlaw16_StoreCopies.f (_ : Nat) (_ : Int) (l a b : List S31) : Option Bool := if (∀ p ∈ l, PutOk p) ∧ (∀ p ∈ a, PutOk p) ∧ (∀ p ∈ b, PutOk p) then some true else none
theorem odometerlaw16_StoreCopies.calls (kk : Nat) (most : Int) (A1 : Option Addr) (c1 : Nat) (l : List S31) (A2 : Option Addr) (c2 : Nat) (a : List S31) (A3 : Option Addr) (c3 : Nat) (b : List S31) (r : Bool) (w : World) (hrl : Kd.C k31 w A1 l.length l) (hc1 : l.length ≤ c1) (hra : Kd.C k31 w A2 a.length a) (hc2 : a.length ≤ c2) (hrb : Kd.C k31 w A3 b.length b) (hc3 : b.length ≤ c3) (hf : odometerlaw16_StoreCopies.f kk most l a b = some r) :
    Calls Try.prog 5 #[.int .i64 most, .slice A1 l.length c1, .slice A2 a.length c2, .slice A3 b.length c3] w fun e w' => e = .returned (.bool r) ∧ Below w.heap.size w w' := by
  unfold odometerlaw16_StoreCopies.f at hf
  split at hf
  · rename_i ho
    obtain rfl := Option.some.inj hf
    exact copies_calls most A1 A2 A3 c1 c2 c3 l a b w hrl hra hrb hc1 hc2 hc3 ho.1 ho.2.1 ho.2.2
  · cases hf
theorem PureCopies (most : Int) (l a b : List S31) (hol : ∀ p ∈ l, PutOk p) (hoa : ∀ p ∈ a, PutOk p) (hob : ∀ p ∈ b, PutOk p) : ∃ k, odometerlaw16_StoreCopies.f k most l a b = some true := ⟨0, if_pos ⟨hol, hoa, hob⟩⟩
end Go.Proofs.Ytneodhhoejjncaa
