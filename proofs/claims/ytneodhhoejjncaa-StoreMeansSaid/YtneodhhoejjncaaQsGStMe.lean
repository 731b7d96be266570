/- A text of this claim, pruned by a program of the session (prune.py) to what the theorem rests on. -/
import Derived.Test.YtneodhhoejjncaaQsGStPl
namespace Go.Proofs.Ytneodhhoejjncaa
open Go.RowKit Go.Proofs.YtneodhhoejjncaaW.PrintWords Go.Proofs.YtneodhhoejjncaaW.PrintMore Go.Proofs.Ytneodhhoejjncaa.PFew
set_option linter.unusedVariables false
set_option linter.unusedSimpArgs false
theorem toList_inj {a b : ByteArray} (h : a.toList = b.toList) : a = b := by
  rw [ByteArray.toList_eq, ByteArray.toList_eq] at h
  cases a; cases b
  simp only [ByteArray.mk.injEq]
  exact Array.toList_inj.1 h
theorem str_eq (a b : ByteArray) (h : a = b) : (a.toList == b.toList) = true := by rw [h]; simp
theorem str_ne (a b : ByteArray) (h : a ≠ b) : (a.toList == b.toList) = false := by
  cases e : (a.toList == b.toList) with
  | false => rfl
  | true => exact absurd (toList_inj (by simpa using e)) h
theorem drawn_more {A W : World} (h : Drawn0 A W) (n : Nat) : Drawn0 A (W.drewN n) := by
  obtain ⟨k, rfl⟩ := h.out
  exact ⟨_, World.drewN_drewN _ _ _⟩
structure Inner (w w4 wr : World) (m ow : Int) (S : StS) (cnt : Nat) (Li L : List Smp) (k : Nat) (v0 vl : Value) (L2 : List Smp) : Prop where
  row : wr.ownsRow w.heap.size 34 4 vl L2.length (smpF L2)
  inv : Inv (samplesP m ow (Li.take k) (S, cnt)).2.1 L2
  fewL : L2.length ≤ L.length + k
  kept : KeptOff (fun q => v0.ownBlock = some q) w4 wr
  at_ : vl.ownBlock = v0.ownBlock ∨ ∃ q, vl.ownBlock = some q ∧ w4.heap.size ≤ q
theorem info_smp : (Try.prog.info? 34).map (fun i => (i.zero, i.size, i.bytes)) = some (some (.agg #[.string ⟨#[]⟩, .int .i64 0, .int .i64 0, .bool false]), 4, 40) := by kernel_rfl
structure Outer (w wr : World) (B mb : Nat) (m : Int) (i : Nat) (vl : Value) (f : StF) (cnt : Nat) (L : List Smp) : Prop where
  st : StAt wr B mb m f cnt
  row : wr.ownsRow w.heap.size 34 4 vl L.length (smpF L)
  inv : Inv (er f) L
  room : (cnt : Int) ≤ m
  few : cnt ≤ 200 * i
  fewL : L.length ≤ 200 * i
  below : Below w.heap.size w wr
  foot : ∀ k, foot B mb f k → w.heap.size ≤ k
set_option maxRecDepth 100000 in
set_option maxHeartbeats 8000000 in
theorem means_few (most : Int) (A : Option Addr) (c : Nat) (l : List S31) (w : World) (hr : Kd.C k31 w A l.length l) (hc : l.length ≤ c) (hn : ∀ p ∈ l, ∀ x ∈ p.f1, x.f0.size ≤ 140737488351232) (hf : odometerlaw16_few.f 32 l 30 = some true) (h30 : l.length ≤ 30) (h200 : ∀ p ∈ l, p.f1.length ≤ 200) :
    Calls Try.prog 3 #[.int .i64 most, .slice A l.length c] w fun e w' => e = .returned (.bool true) ∧ Below w.heap.size w w' := by
  have hfew := odometerlaw16_few.calls 32 A c l 30 true w hr hc hf
  obtain ⟨m, hm⟩ : ∃ m, m = (if most < 0 then 0 else most) := ⟨_, rfl⟩
  have hm0 : 0 ≤ m := by rw [hm]; split <;> omega
  have hmax : ∀ W, (Builtin.max_ #[3, 3] 3 #[.int .i64 most, .int .i64 0]).run Try.prog W = .ok (.int .i64 m) W := fun W => by
    rw [hm, max_two, max2_int]
    rfl
  have hnew := fun W => new_calls most W
  rw [← hm] at hnew
  have HM := Aside0.mk hm
  have HR := Aside0.mk hr
  have HN := Aside0.mk hn
  have H2 := Aside0.mk h200
  clear hm hr hn h200 hf
  go_enter Try.func3, Try.ntmps3
  go_wp2_with fail
  refine hfew.mono ?_
  rintro e w1 ⟨rfl, hd⟩
  have hb1 := hd.below
  have hz1 : w1.heap.size = w.heap.size := by obtain ⟨n, rfl⟩ := hd.out; rfl
  clear hfew hd
  go_wp2_with fail
  refine (hnew w1).mono ?_
  rintro e w2 ⟨B, mb, rfl, hB, hmb, hst, hb2⟩
  have HO : Aside0 (Outer w w2 B mb m 0 (.slice none 0 0) (fun _ => none) 0 []) := ⟨⟨hst, own_nil _ _ _ _, fun s => rfl, hm0, Nat.le_refl _, Nat.le_refl _, hb1.trans (hb2.mono (by omega)), by rintro k (e | e | ⟨s, x, _, e⟩); omega; omega; cases e⟩⟩
  clear hst hb1 hb2 hnew
  go_wp2_with fail
  go_loopw [7, 6] (fun v vl wr => ∃ (i : Nat) (f : StF) (cnt : Nat) (L : List Smp), i ≤ l.length ∧ v = .int .i64 i ∧ Aside0 (Outer w wr B mb m i vl f cnt L)) (fun v _ _ => l.length - (intOf v).toNat)
  case atStart => exact ⟨0, _, 0, [], Nat.zero_le _, by go_num, HO⟩
  case round =>
    clear HO
    obtain ⟨i, f, cnt, L, hi, rfl, HO⟩ := hrel
    by_cases hlt : i < l.length
    · have hlti : (i : Int) < (l.length : Int) := by omega
      obtain ⟨g, off, rfl, hg, hcc⟩ := C_at HR.out (by omega) (show 0 < k31.sz by decide)
      obtain ⟨cs, _, hK, hcell⟩ := hcc i l[i] (List.getElem?_eq_getElem hlt)
      obtain ⟨Ai, ci, rfl, hci, hCi⟩ := k31_open hK
      have g0 : wr.cell? ⟨g, off + i * 2, none⟩ = some (.int .i64 l[i].f0) := (HO.out.below.cell (p := ⟨g, off + i * 2, none⟩) hg).trans (hcell 0 _ rfl)
      have g1 : wr.cell? ⟨g, off + i * 2 + 1, none⟩ = some (.slice Ai l[i].f1.length ci) := (HO.out.below.cell (p := ⟨g, off + i * 2 + 1, none⟩) hg).trans (hcell 1 _ rfl)
      have hlen := H2.out l[i] (List.getElem_mem hlt)
      have hnm := HN.out l[i] (List.getElem_mem hlt)
      clear hcc hcell hK
      generalize l[i] = P at *
      have hlm : (P.f1.map smpOf).length = P.f1.length := List.length_map _
      have hlk : ∀ x ∈ P.f1.map smpOf, sK.ok x.nm := fun x hx => by
        obtain ⟨y, hy, rfl⟩ := List.mem_map.1 hx
        have := hnm y hy
        show y.f0.size ≤ maxLen
        unfold maxLen
        omega
      have hbz := HO.out.below.size
      have hreads : ∀ W, Below wr.heap.size wr W → ReadsS (foot B mb f) W Ai (P.f1.map smpOf) := fun W hW =>
        ((reads_of hCi (F := fun k => w.heap.size ≤ k) (fun k hk => by omega)).kept (Kept_below HO.out.below)).kept (Kept_below hW) |>.wide fun k hk hn hf => hn (HO.out.foot k hf)
      have hput := fun W (hW : Below wr.heap.size wr W) => put_calls B mb m P.f0 f cnt Ai ci (P.f1.map smpOf) W (HO.out.st.below hW) (hreads W hW) hlk (by have := HO.out.few; rw [hlm]; omega)
      rw [hlm] at hput
      have HLM := Aside0.mk hlm
      have HLK := Aside0.mk hlk
      have HRD0 : Aside0 (ReadsS (fun k => w.heap.size ≤ k) wr Ai (P.f1.map smpOf)) := ⟨(reads_of hCi (F := fun k => w.heap.size ≤ k) (fun k hk => by omega)).kept (Kept_below HO.out.below)⟩
      clear hlm hlk hreads hnm hCi
      generalize hLi : P.f1.map smpOf = Li at *
      generalize hnP : P.f1.length = n at *
      generalize hoP : P.f0 = ow at *
      have hput1 : Calls Try.prog 10 #[.pointer (some ⟨B, 0, none⟩), .int .i64 ow, .slice Ai n ci] wr.drew fun e w' => ∃ Av cv, e = .returned (.slice Av n cv) ∧ (w'.cell? ⟨g, off + i * 2, none⟩ = some (.int .i64 ow) ∧ w'.cell? ⟨g, off + i * 2 + 1, none⟩ = some (.slice Ai n ci)) ∧
          Aside0 (w'.ownsRow wr.heap.size 37 7 (.slice Av n cv) n (snF (samplesP m ow Li (er f, cnt)).1) ∧ ∃ f', er f' = outS ow Li (samplesP m ow Li (er f, cnt)).2.1 ∧ Left wr w' B mb m f f' (samplesP m ow Li (er f, cnt)).2.2) :=
        (hput wr.drew (below_drew (Below.refl _ _))).mono fun e w' ⟨v, he, hrow, f', hf', hL⟩ => by
          obtain ⟨Av, cv, hv⟩ := own_slice hrow
          have hLw : Left wr w' B mb m f f' (samplesP m ow Li (er f, cnt)).2.2 := (Left.same HO.out.st (below_drew (Below.refl _ _))).trans hL
          have hgw := fun o => cell_blk o (hLw.kept.block g (by omega) (fun hk => by have := HO.out.foot g hk; omega))
          exact ⟨Av, cv, by rw [he, hv], ⟨(hgw _).trans g0, (hgw _).trans g1⟩, ⟨by rw [← hv]; exact hrow, f', hf', hLw⟩⟩
      clear hput
      go_wp2_with fail
      go_region_held3 (fun w' => w'.cell? ⟨g, off + i * 2, none⟩ = some (.int .i64 ow) ∧ w'.cell? ⟨g, off + i * 2 + 1, none⟩ = some (.slice Ai n ci)) (first | go_keep)
        (first
          | (go_at_call 10; refine hput1.mono ?_; rintro e w4 ⟨Av, cv, rfl, ⟨k0, k1⟩, HP4⟩))
      obtain ⟨f4, he4, hL4⟩ := HP4.out.2
      have hcnt4 := samplesP_cnt m ow Li (er f, cnt)
      have hroom4 := samplesP_room m ow Li (er f, cnt) HO.out.room
      generalize hcc4 : (samplesP m ow Li (er f, cnt)).2.2 = cnt4 at *
      have hlen4 := len_calls B mb m f4 cnt4 w4 hL4.st
      have hd4 : decide (m < (cnt4 : Int)) = false := decide_eq_false (by omega)
      have HE4 := Aside0.mk he4
      have HL4 := Aside0.mk hL4
      have HC4 : Aside0 (cnt4 ≤ cnt + n) := ⟨by have h : cnt4 ≤ cnt + Li.length := hcnt4; rw [HLM.out] at h; exact h⟩
      have HR4 : Aside0 ((cnt4 : Int) ≤ m) := ⟨hroom4⟩
      have HRD : Aside0 (ReadsS (fun k => w.heap.size ≤ k) w4 Ai Li) := ⟨HRD0.out.kept (HL4.out.kept.mono HO.out.foot)⟩
      have HROW : Aside0 (w4.ownsRow w.heap.size 34 4 u6 L.length (smpF L)) := ⟨own_keptOff HO.out.row HL4.out.kept fun k cs hb => foot_not_cells HO.out.st hb (by decide) (by decide)⟩
      have HIN : Aside0 (Inner w w4 w4 m ow (er f) cnt Li L 0 u6 u6 L) := ⟨⟨HROW.out, HO.out.inv, Nat.le_refl _, KeptOff.refl _ _, Or.inl rfl⟩⟩
      clear he4 hL4 hput1 hcnt4 hroom4 g0 g1 HRD0
      go_wp2_with (first
        | (go_at_call 11; refine hlen4.mono ?_; rintro e w' ⟨rfl, rfl⟩))
      clear hlen4 hd4
      generalize hu6v : u6 = u6v at *
      clear hu6v
      go_loopw [9, 6] (fun v vl wr => ∃ (k : Nat) (L2 : List Smp), k ≤ n ∧ v = .int .i64 k ∧ Aside0 (Inner w w4 wr m ow (er f) cnt Li L k u6v vl L2)) (fun v _ _ => n - (intOf v).toNat)
      case atStart => exact ⟨0, L, Nat.zero_le _, by go_num, HIN⟩
      case round =>
        clear HIN
        obtain ⟨k, L2, hk, rfl, HIN⟩ := hrel
        by_cases hkn : k < n
        · have hkni : (k : Int) < (n : Int) := by omega
          obtain ⟨gs, cap, hvs, hcap, hgs, ⟨css, hgb⟩, hcs⟩ := own_cells HP4.out.1 (by omega)
          obtain ⟨rfl, rfl⟩ : Av = some ⟨gs, 0, none⟩ ∧ cv = cap := by simpa using hvs
          obtain ⟨b, off2, rfl, hbl, hbF, hcb⟩ := (HRD.out).resolve_left (fun e => by have := HLM.out; rw [e] at this; simp at this; omega)
          have hkl : k < Li.length := by rw [HLM.out]; exact hkn
          have hx := List.getElem?_eq_getElem hkl
          have hgk : wr.heap[gs]? = w4.heap[gs]? := HIN.out.kept.block gs (blk_lt hgb) (fun e => by
            obtain ⟨_, cs, hc⟩ := own_ty HROW.out e
            rw [hgb] at hc
            cases hc)
          have hgg : wr.heap[g]? = w4.heap[g]? := HIN.out.kept.block g (by have := HL4.out.kept.size; omega) (fun e => by have := (own_ty HROW.out e).1; omega)
          have hbb : wr.heap[b]? = w4.heap[b]? := HIN.out.kept.block b hbl (fun e => hbF (own_ty HROW.out e).1)
          have m0 : wr.cell? ⟨g, off + i * 2, none⟩ = some (.int .i64 ow) := (cell_blk _ hgg).trans k0
          have m1 : wr.cell? ⟨g, off + i * 2 + 1, none⟩ = some (.slice (some ⟨b, off2, none⟩) n ci) := (cell_blk _ hgg).trans k1
          have hsn := samplesP_get m ow Li (er f, cnt) k Li[k] hx
          have hnx := samplesP_next m ow Li (er f, cnt) k Li[k] hx
          have hxx := oneP_x m ow (samplesP m ow (Li.take k) (er f, cnt)).2 Li[k]
          have hvv := oneP_verdict m ow (samplesP m ow (Li.take k) (er f, cnt)).2 Li[k]
          have hno := oneP_not m ow (samplesP m ow (Li.take k) (er f, cnt)).2 Li[k]
          have hye := oneP_yes m ow (samplesP m ow (Li.take k) (er f, cnt)).2 Li[k]
          have hcb' := fun (j : Nat) (v : Value) (hv : (smpL (Li[k]'hkl))[j]? = some v) => (cell_blk (off2 + k * 4 + j) hbb).trans (hcb k Li[k] hx j v hv)
          generalize hO : oneP m ow (samplesP m ow (Li.take k) (er f, cnt)).2 Li[k] = O at *
          obtain ⟨⟨ox, ov, oc, oa⟩, OS⟩ := O
          have hxx' : ox = Li[k] := hxx
          have hsc := fun (j : Nat) (v : Value) (hj : j < 7) (hv : (snL ⟨ox, ov, oc, oa⟩)[j]? = some v) => (cell_blk (k * 7 + j) hgk).trans (hcs (k * 7 + j) v ((snF_get _ k _ j hsn hj).trans hv))
          subst hxx'
          clear hxx
          have y0 : wr.cell? ⟨gs, k * 7, none⟩ = some (.string Li[k].nm) := hsc 0 _ (by omega) rfl
          have y1 : wr.cell? ⟨gs, k * 7 + 1, none⟩ = some (.int .i64 Li[k].val) := hsc 1 _ (by omega) rfl
          have y2 : wr.cell? ⟨gs, k * 7 + 2, none⟩ = some (.int .i64 Li[k].time) := hsc 2 _ (by omega) rfl
          have y3 : wr.cell? ⟨gs, k * 7 + 3, none⟩ = some (.bool Li[k].counts) := hsc 3 _ (by omega) rfl
          have y4 : wr.cell? ⟨gs, k * 7 + 4, none⟩ = some (.int .i64 ov) := hsc 4 _ (by omega) rfl
          have y5 : wr.cell? ⟨gs, k * 7 + 5, none⟩ = some (.bool oc) := hsc 5 _ (by omega) rfl
          have y6 : wr.cell? ⟨gs, k * 7 + 6, none⟩ = some (.int .i64 oa) := hsc 6 _ (by omega) rfl
          have z0 : wr.cell? ⟨b, off2 + k * 4, none⟩ = some (.string Li[k].nm) := hcb' 0 _ rfl
          have z1 : wr.cell? ⟨b, off2 + k * 4 + 1, none⟩ = some (.int .i64 Li[k].val) := hcb' 1 _ rfl
          have z2 : wr.cell? ⟨b, off2 + k * 4 + 2, none⟩ = some (.int .i64 Li[k].time) := hcb' 2 _ rfl
          have z3 : wr.cell? ⟨b, off2 + k * 4 + 3, none⟩ = some (.bool Li[k].counts) := hcb' 3 _ rfl
          have v1 : decide (ov < 1) = false := decide_eq_false (by have h : 1 ≤ ov := hvv.1; omega)
          have v4 : decide (4 < ov) = false := decide_eq_false (by have h : ov ≤ 4 := hvv.2; omega)
          have hneq := smp_neq Li[k]
          have HNO := Aside0.mk hno
          have HYE := Aside0.mk hye
          have HNX := Aside0.mk hnx
          have hkz := HIN.out.kept.size
          have hgz := blk_lt hgb
          have hz4 := HL4.out.kept.size
          have l1 : g < wr.heap.size := by omega
          have l2 : b < wr.heap.size := by omega
          have l3 : gs < wr.heap.size := by omega
          have l4 : g ≠ wr.heap.size := by omega
          have l5 : b ≠ wr.heap.size := by omega
          have l6 : gs ≠ wr.heap.size := by omega
          clear hkz hgz hz4
          clear hsc hcb hcb' hcs hgk hgg hbb hsn hnx hvv hno hye hO hgb hvs
          generalize hX : Li[k] = x at *
          have HX := Aside0.mk hX
          clear hX hx
          by_cases hv : ov = 1
          · subst hv
            obtain ⟨Al, cl, hvl⟩ := own_slice HIN.out.row
            generalize hu6v : u6 = vcur at *
            clear hu6v
            subst hvl
            have hL2 : L2.length ≤ 100000 := by have := HIN.out.fewL; have := HO.out.fewL; omega
            have HZ7 : Aside0 (w.heap.size ≤ wr.heap.size) := ⟨by have := HIN.out.kept.size; have := HL4.out.kept.size; omega⟩
            go_wp2_with fail
            go_quiet (fail)
            go_wp2_with fail
            generalize hw7 : wr = w7 at *
            clear hw7
            go_loopw [11] (fun v wr => ∃ q : Nat, q ≤ L2.length ∧ v = .int .i64 ((q : Int) - 1) ∧ Aside0 (Drawn0 (w7.alloc (.cells #[.string x.nm, .int .i64 x.val, .int .i64 x.time, .bool x.counts, .int .i64 1, .bool oc, .int .i64 oa] 37)) wr) ∧ Aside0 (∀ r y, L2[r]? = some y → q ≤ r → y.nm ≠ x.nm)) (fun v _ => (intOf v + 1).toNat)
            case atStart => exact ⟨L2.length, Nat.le_refl _, rfl, ⟨⟨_, rfl⟩⟩, ⟨fun r y hy hr => by rw [List.getElem?_eq_none hr] at hy; cases hy⟩⟩
            case round =>
              obtain ⟨q, hq, rfl, HD, HQ⟩ := hrel
              obtain ⟨n3, hn3⟩ := HD.out
              have hbk : wr.heap[w7.heap.size]? = some (.cells #[.string x.nm, .int .i64 x.val, .int .i64 x.time, .bool x.counts, .int .i64 1, .bool oc, .int .i64 oa] 37 (0, 0)) := by rw [hn3]; exact heap_alloc_new w7 _
              have b0 : wr.cell? ⟨w7.heap.size, 0, none⟩ = some (.string x.nm) := (blk_cell hbk 0).trans rfl
              have b1 : wr.cell? ⟨w7.heap.size, 1, none⟩ = some (.int .i64 x.val) := (blk_cell hbk 1).trans rfl
              have b2 : wr.cell? ⟨w7.heap.size, 2, none⟩ = some (.int .i64 x.time) := (blk_cell hbk 2).trans rfl
              have b3 : wr.cell? ⟨w7.heap.size, 3, none⟩ = some (.bool x.counts) := (blk_cell hbk 3).trans rfl
              have b5 : wr.cell? ⟨w7.heap.size, 5, none⟩ = some (.bool oc) := (blk_cell hbk 5).trans rfl
              have b6 : wr.cell? ⟨w7.heap.size, 6, none⟩ = some (.int .i64 oa) := (blk_cell hbk 6).trans rfl
              have HZ9 : Aside0 (wr.heap.size = w7.heap.size + 1) := ⟨by rw [hn3]; exact size_push _ _⟩
              have HKW : Aside0 (KeptOff (fun q => u6v.ownBlock = some q) w4 wr) := ⟨by rw [hn3]; exact (HIN.out.kept.alloc _).drewN _⟩
              have HRW : Aside0 (wr.ownsRow w.heap.size 34 4 (.slice Al L2.length cl) L2.length (smpF L2)) := ⟨by rw [hn3]; exact HIN.out.row.alloc _⟩
              have hkb : ∀ q, q < w7.heap.size → wr.heap[q]? = w7.heap[q]? := fun q hq => by rw [hn3]; exact Below.heap_alloc w7 _ q hq
              clear hn3 hbk
              cases q with
              | zero =>
                have t0 : decide ((0 : Int) ≤ ((0 : Nat) : Int) - 1) = false := rfl
                clear HD hkb
                go_wp2_with (first
                  | (at_builtin; refine print_append_cells w.heap.size rfl (.tmp 129) (.tmp 132) 27 34 (.agg #[.string ⟨#[]⟩, .int .i64 0, .int .i64 0, .bool false]) 4 40 rfl Try.underlying27 info_smp rfl (by decide) (by decide) (.slice Al L2.length cl) L2.length (smpF L2) (smpL x) rfl rfl rfl ?h1 HRW.out (Below.refl _ _) ?hb ?hl ?_))
                case h1 => simp [smpL]; exact ⟨rfl, rfl, rfl, rfl⟩
                case hb => show w.heap.size ≤ wr.heap.size; rw [HZ9.out]; have := HZ7.out; omega
                case hl => omega
                intro v9 w9 hown9 _ hg9 hat9
                have HI9 : Aside0 (Inner w w4 w9 m ow (er f) cnt Li L (k + 1) u6v v9 (L2 ++ [x])) := by
                  refine ⟨⟨?_, ?_, ?_, ?_, ?_⟩⟩
                  · rw [List.length_append]
                    show w9.ownsRow _ _ _ _ (L2.length + 1) (smpF (L2 ++ [x]))
                    unfold smpF at hown9 ⊢
                    rw [List.flatMap_append, List.flatMap_singleton]
                    exact hown9
                  · rw [HNX.out]
                    have h1 := (HYE.out (by simp)).1
                    show Inv OS.1 (L2 ++ [x])
                    rw [h1]
                    exact inv_step HIN.out.inv x ow
                  · rw [List.length_append]
                    have := HIN.out.fewL
                    show L2.length + 1 ≤ L.length + (k + 1)
                    omega
                  · refine KeptOff.grown (F := fun q => u6v.ownBlock = some q) (W := _) ?_ hg9 fun q hq => ?_
                    · first | exact HKW.out | exact HKW.out.drewN _ | exact (HKW.out.drewN _).drewN _
                    · rcases HIN.out.at_ with e | ⟨q', e, hq'⟩
                      · exact Or.inr (by rw [← e]; exact hq)
                      · rw [e] at hq
                        obtain rfl := Option.some.inj hq
                        exact Or.inl hq'
                  · rcases hat9 with e | ⟨q, e, hq⟩
                    · rw [e]
                      exact HIN.out.at_
                    · exact Or.inr ⟨q, e, by have h2 : wr.heap.size ≤ q := hq; rw [HZ9.out] at h2; have := HIN.out.kept.size; omega⟩
                clear hown9 hg9 hat9 HRW HIN HNX HYE HNO HKW HZ9
                go_wp2
                go_roundw
                case rel => exact ⟨k + 1, _, by omega, by go_num, HI9⟩
                case measure => simp [intOf]; omega
              | succ q =>
                have t0 : decide ((0 : Int) ≤ ((q + 1 : Nat) : Int) - 1) = true := decide_eq_true (by omega)
                have hq1 : ((q + 1 : Nat) : Int) - 1 = (q : Int) := by omega
                rw [hq1] at t0 ⊢
                have hqi : (q : Int) < (L2.length : Int) := by omega
                obtain ⟨gl, capl, hvl, hcapl, hgl, ⟨cssl, hglb⟩, hcl⟩ := own_cells HIN.out.row (by omega)
                obtain ⟨rfl, rfl⟩ : Al = some ⟨gl, 0, none⟩ ∧ cl = capl := by simpa using hvl
                have hy := List.getElem?_eq_getElem (show q < L2.length by omega)
                have hglw := hkb gl (blk_lt hglb)
                have hl0 : wr.cell? ⟨gl, q * 4, none⟩ = some (.string L2[q].nm) := (cell_blk _ hglw).trans (hcl (q * 4 + 0) _ (smpF_get L2 q _ 0 hy (by omega)))
                have hl1 : wr.cell? ⟨gl, q * 4 + 1, none⟩ = some (.int .i64 L2[q].val) := (cell_blk _ hglw).trans (hcl (q * 4 + 1) _ (smpF_get L2 q _ 1 hy (by omega)))
                have hl2 : wr.cell? ⟨gl, q * 4 + 2, none⟩ = some (.int .i64 L2[q].time) := (cell_blk _ hglw).trans (hcl (q * 4 + 2) _ (smpF_get L2 q _ 2 hy (by omega)))
                clear hvl hcl hglb hglw hkb
                generalize hyx : L2[q] = y at *
                by_cases hs : y.nm = x.nm
                · have hse := str_eq _ _ hs
                  have hlast := lastOf_at L2 x.nm q (by omega) (by rw [hyx]; exact hs) (fun r z hz hr => HQ.out r z hz hr)
                  rw [hyx] at hlast
                  have hinv := HIN.out.inv x.nm
                  rw [hlast] at hinv
                  obtain ⟨was, hwas, hwx⟩ := Option.map_eq_some_iff.1 hinv.symm
                  obtain ⟨hy1, hy2⟩ := (HYE.out (by simp)).2 was hwas
                  have htt : decide (x.time ≤ y.time) = false := decide_eq_false (by rw [← hwx]; omega)
                  have hob : oc = true → (oa != y.val) = false := fun h => by
                    have h2 : oa = was.x.val := hy2 h
                    rw [h2, ← hwx]
                    simp
                  clear hlast hinv hwas hwx hy1 hy2 HD
                  rcases hoc : oc with _ | _
                  · clear hob
                    rw [hoc] at b5
                    go_wp2_with fail
                    go_quiet (fail)
                    go_wp2_with fail
                    go_quiet (fail)
                    go_wp2_with (first
                      | (at_builtin; refine print_append_cells w.heap.size rfl (.tmp 129) (.tmp 132) 27 34 (.agg #[.string ⟨#[]⟩, .int .i64 0, .int .i64 0, .bool false]) 4 40 rfl Try.underlying27 info_smp rfl (by decide) (by decide) (.slice (some ⟨gl, 0, none⟩) L2.length cl) L2.length (smpF L2) (smpL x) rfl rfl rfl ?h1 HRW.out (Below.refl _ _) ?hb ?hl ?_))
                    case h1 => simp [smpL]; exact ⟨rfl, rfl, rfl, rfl⟩
                    case hb => show w.heap.size ≤ wr.heap.size; rw [HZ9.out]; have := HZ7.out; omega
                    case hl => omega
                    intro v9 w9 hown9 _ hg9 hat9
                    have HI9 : Aside0 (Inner w w4 w9 m ow (er f) cnt Li L (k + 1) u6v v9 (L2 ++ [x])) := by
                      refine ⟨⟨?_, ?_, ?_, ?_, ?_⟩⟩
                      · rw [List.length_append]
                        show w9.ownsRow _ _ _ _ (L2.length + 1) (smpF (L2 ++ [x]))
                        unfold smpF at hown9 ⊢
                        rw [List.flatMap_append, List.flatMap_singleton]
                        exact hown9
                      · rw [HNX.out]
                        have h1 := (HYE.out (by simp)).1
                        show Inv OS.1 (L2 ++ [x])
                        rw [h1]
                        exact inv_step HIN.out.inv x ow
                      · rw [List.length_append]
                        have := HIN.out.fewL
                        show L2.length + 1 ≤ L.length + (k + 1)
                        omega
                      · refine KeptOff.grown (F := fun q => u6v.ownBlock = some q) (W := _) ?_ hg9 fun q hq => ?_
                        · first | exact HKW.out | exact HKW.out.drewN _ | exact (HKW.out.drewN _).drewN _
                        · rcases HIN.out.at_ with e | ⟨q', e, hq'⟩
                          · exact Or.inr (by rw [← e]; exact hq)
                          · rw [e] at hq
                            obtain rfl := Option.some.inj hq
                            exact Or.inl hq'
                      · rcases hat9 with e | ⟨q, e, hq⟩
                        · rw [e]
                          exact HIN.out.at_
                        · exact Or.inr ⟨q, e, by have h2 : wr.heap.size ≤ q := hq; rw [HZ9.out] at h2; have := HIN.out.kept.size; omega⟩
                    clear hown9 hg9 hat9 HRW HIN HNX HYE HNO HKW HZ9
                    go_wp2
                    go_roundw
                    case rel => exact ⟨k + 1, _, by omega, by go_num, HI9⟩
                    case measure => simp [intOf]; omega
                  · have hoa := hob hoc
                    clear hob
                    rw [hoc] at b5
                    go_wp2_with fail
                    go_quiet (fail)
                    go_wp2_with fail
                    go_quiet (fail)
                    go_wp2_with (first
                      | (at_builtin; refine print_append_cells w.heap.size rfl (.tmp 129) (.tmp 132) 27 34 (.agg #[.string ⟨#[]⟩, .int .i64 0, .int .i64 0, .bool false]) 4 40 rfl Try.underlying27 info_smp rfl (by decide) (by decide) (.slice (some ⟨gl, 0, none⟩) L2.length cl) L2.length (smpF L2) (smpL x) rfl rfl rfl ?h1 HRW.out (Below.refl _ _) ?hb ?hl ?_))
                    case h1 => simp [smpL]; exact ⟨rfl, rfl, rfl, rfl⟩
                    case hb => show w.heap.size ≤ wr.heap.size; rw [HZ9.out]; have := HZ7.out; omega
                    case hl => omega
                    intro v9 w9 hown9 _ hg9 hat9
                    have HI9 : Aside0 (Inner w w4 w9 m ow (er f) cnt Li L (k + 1) u6v v9 (L2 ++ [x])) := by
                      refine ⟨⟨?_, ?_, ?_, ?_, ?_⟩⟩
                      · rw [List.length_append]
                        show w9.ownsRow _ _ _ _ (L2.length + 1) (smpF (L2 ++ [x]))
                        unfold smpF at hown9 ⊢
                        rw [List.flatMap_append, List.flatMap_singleton]
                        exact hown9
                      · rw [HNX.out]
                        have h1 := (HYE.out (by simp)).1
                        show Inv OS.1 (L2 ++ [x])
                        rw [h1]
                        exact inv_step HIN.out.inv x ow
                      · rw [List.length_append]
                        have := HIN.out.fewL
                        show L2.length + 1 ≤ L.length + (k + 1)
                        omega
                      · refine KeptOff.grown (F := fun q => u6v.ownBlock = some q) (W := _) ?_ hg9 fun q hq => ?_
                        · first | exact HKW.out | exact HKW.out.drewN _ | exact (HKW.out.drewN _).drewN _
                        · rcases HIN.out.at_ with e | ⟨q', e, hq'⟩
                          · exact Or.inr (by rw [← e]; exact hq)
                          · rw [e] at hq
                            obtain rfl := Option.some.inj hq
                            exact Or.inl hq'
                      · rcases hat9 with e | ⟨q, e, hq⟩
                        · rw [e]
                          exact HIN.out.at_
                        · exact Or.inr ⟨q, e, by have h2 : wr.heap.size ≤ q := hq; rw [HZ9.out] at h2; have := HIN.out.kept.size; omega⟩
                    clear hown9 hg9 hat9 HRW HIN HNX HYE HNO HKW HZ9
                    go_wp2
                    go_roundw
                    case rel => exact ⟨k + 1, _, by omega, by go_num, HI9⟩
                    case measure => simp [intOf]; omega
                · have hse := str_ne _ _ hs
                  go_wp2_with fail
                  go_quiet (fail)
                  go_wp2_with fail
                  go_roundw
                  case rel => exact ⟨q, by omega, by first | rfl | go_num, ⟨drawn_more HD.out _⟩, ⟨fun r z hz hr => by
                    by_cases e : r = q
                    · subst e
                      rw [hy] at hz
                      obtain rfl := Option.some.inj hz
                      exact hs
                    · exact HQ.out r z hz (by omega)⟩⟩
                  case measure => simp [intOf] <;> omega
          · have hvb : (ov != 1) = true := by rw [bne_iff_ne]; exact hv
            obtain ⟨hoc, hOS⟩ := HNO.out hv
            have hoc' : oc = false := hoc
            subst hoc'
            have HI9 : Aside0 (∀ wz, KeptOff (fun q => False) wr wz → Inner w w4 wz m ow (er f) cnt Li L (k + 1) u6v u6 L2) := ⟨fun wz hz => ⟨own_keptOff HIN.out.row hz (fun _ _ _ h => h), by rw [HNX.out]; show Inv OS.1 L2; have h2 : OS = (samplesP m ow (Li.take k) (er f, cnt)).2 := hOS; rw [h2]; exact HIN.out.inv, by have := HIN.out.fewL; omega, HIN.out.kept.trans hz (fun k h => h.elim), HIN.out.at_⟩⟩
            have hkk : ∀ o nq, KeptOff (fun q => False) wr ((wr.alloc o).drewN nq) := fun o nq => ((KeptOff.refl _ _).alloc o).drewN nq
            have HKK := Aside0.mk hkk
            clear hv hoc hOS hkk HIN
            go_wp2_with fail
            go_quiet (fail)
            go_wp2_with fail
            go_roundw
            case rel => exact ⟨k + 1, L2, by omega, by go_num, ⟨HI9.out _ (HKK.out _ _)⟩⟩
            case measure => simp [intOf]; omega
        · obtain rfl : k = n := by omega
          have t9 : decide ((k : Int) < (k : Int)) = false := decide_eq_false (by omega)
          have HO9 : Aside0 (∀ wz, KeptOff (fun _ => False) wr wz → Outer w wz B mb m (i + 1) u6 f4 cnt4 L2) := ⟨fun wz hz => by
            have hk9 := HIN.out.kept.trans hz (fun k h => h.elim)
            have hF : ∀ q, u6v.ownBlock = some q → w.heap.size ≤ q ∧ ∃ cs, w4.heap[q]? = some (.cells cs 34 (0, 0)) := fun q e => own_ty HROW.out e
            have hf9 : ∀ q, foot B mb f4 q → w.heap.size ≤ q := fun q hq => by
              rcases HL4.out.grows q hq with h | h
              · exact HO.out.foot q h
              · have := HO.out.below.size
                omega
            have h9 := HIN.out.inv
            rw [List.take_of_length_le (by rw [HLM.out]; exact Nat.le_refl _)] at h9
            refine ⟨HL4.out.st.off hk9 fun q hq e => ?_, own_keptOff HIN.out.row hz (fun _ _ _ h => h), ?_, HR4.out, ?_, ?_, ?_, hf9⟩
            · obtain ⟨_, cs, hc⟩ := hF q e
              exact foot_not_cells HL4.out.st hc (by decide) (by decide) hq
            · rw [HE4.out]
              exact inv_out h9 ow Li
            · have := HO.out.few
              have := HC4.out
              omega
            · have := HIN.out.fewL
              have := HO.out.fewL
              omega
            · exact (HO.out.below.trans (HL4.out.kept.toBelow HO.out.below.size HO.out.foot)).trans (hk9.toBelow (Nat.le_trans HO.out.below.size HL4.out.kept.size) fun q e => (hF q e).1)⟩
          clear HIN HO HL4 HE4 HR4 HC4 HROW HLM HP4
          go_wp2_with fail
          go_roundw
          case rel => exact ⟨i + 1, f4, cnt4, L2, by omega, by go_num, ⟨HO9.out _ (KeptOff.refl _ _)⟩⟩
          case measure => simp [intOf]; omega
    · obtain rfl : i = l.length := by omega
      have t9 : decide ((l.length : Int) < (l.length : Int)) = false := decide_eq_false (by omega)
      have hbz := HO.out.below
      clear HO
      go_wp2_with fail
      refine (known_calls wr).mono ?_
      rintro e w5 ⟨rfl, hb5⟩
      go_wp2_with fail
      go_ret
      exact ⟨rfl, hbz.trans (hb5.mono hbz.size)⟩
set_option maxRecDepth 100000 in
set_option maxHeartbeats 1000000 in
theorem means_else (most : Int) (A : Option Addr) (c : Nat) (l : List S31) (w : World) (hr : Kd.C k31 w A l.length l) (hc : l.length ≤ c) (hf : odometerlaw16_few.f 32 l 30 = some false) :
    Calls Try.prog 3 #[.int .i64 most, .slice A l.length c] w fun e w' => e = .returned (.bool true) ∧ Below w.heap.size w w' := by
  have hfew := odometerlaw16_few.calls 32 A c l 30 false w hr hc hf
  clear hr hf
  go_enter Try.func3, Try.ntmps3
  go_wp2_with fail
  refine hfew.mono ?_
  rintro e w1 ⟨rfl, hd⟩
  have hb1 := hd.below
  clear hfew hd
  go_wp2_with fail
  refine (known_calls w1).mono ?_
  rintro e w5 ⟨rfl, hb5⟩
  go_wp2_with fail
  go_ret
  exact ⟨rfl, hb1.trans (hb5.mono hb1.size)⟩
def PutOk (p : S31) : Prop := p.f1.length ≤ 4398046511104 ∧ ∀ x ∈ p.f1, x.f0.size ≤ 140737488351232
theorem put_ok (p : S31) (h : (Lit.int .i64 p.f0).wf = true ∧ (p.f1.length * 40 ≤ 140737488351232 ∧ ∀ x ∈ p.f1, x.f0.size ≤ 140737488351232 ∧ (Lit.int .i64 x.f1).wf = true ∧ (Lit.int .i64 x.f2).wf = true ∧ True)) : PutOk p := ⟨by omega, fun x hx => (h.2.2 x hx).1⟩
theorem means_calls (most : Int) (A : Option Addr) (c : Nat) (l : List S31) (w : World) (hr : Kd.C k31 w A l.length l) (hc : l.length ≤ c) (ho : ∀ p ∈ l, PutOk p) :
    Calls Try.prog 3 #[.int .i64 most, .slice A l.length c] w fun e w' => e = .returned (.bool true) ∧ Below w.heap.size w w' := by
  obtain ⟨b, hb, hbt⟩ := few_f l fun p hp => (ho p hp).1
  cases b with
  | false => exact means_else most A c l w hr hc hb
  | true => exact means_few most A c l w hr hc (fun p hp => (ho p hp).2) hb (hbt rfl).1 (hbt rfl).2
open Classical in
noncomputable def odometerlaw16_StoreMeans.f (_ : Nat) (_ : Int) (l : List S31) : Option Bool := if ∀ p ∈ l, PutOk p then some true else none
theorem odometerlaw16_StoreMeans.calls (kk : Nat) (most : Int) (A : Option Addr) (c : Nat) (l : List S31) (r : Bool) (w : World) (hr : Kd.C k31 w A l.length l) (hc : l.length ≤ c) (hf : odometerlaw16_StoreMeans.f kk most l = some r) :
    Calls Try.prog 3 #[.int .i64 most, .slice A l.length c] w fun e w' => e = .returned (.bool r) ∧ Below w.heap.size w w' := by
  unfold odometerlaw16_StoreMeans.f at hf
  split at hf
  · rename_i ho
    obtain rfl := Option.some.inj hf
    exact means_calls most A c l w hr hc ho
  · cases hf
theorem PureMeans (most : Int) (l : List S31) (ho : ∀ p ∈ l, PutOk p) : ∃ k, odometerlaw16_StoreMeans.f k most l = some true := ⟨0, if_pos ho⟩
end Go.Proofs.Ytneodhhoejjncaa
