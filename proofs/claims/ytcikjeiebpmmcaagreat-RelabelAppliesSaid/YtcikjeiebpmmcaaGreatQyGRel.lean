/- Pruned. -/
import Derived.Test.YtcikjeiebpmmcaaGreatQyGDel
import Derived.Deep.RegionLaw
import Derived.Deep.DeepCutAuto
import Derived.Deep.RegionHeld3
import Derived.Deep.RegionWith
import Derived.Great.Walk
import Derived.Test.YtcikjeiebpmmcaaGreatQyGFill
import Derived.Maps.Own
import Derived.Deep.CutBlock
namespace Go.Proofs.YtcikjeiebpmmcaaGreat
open Go.RowKit Go.Proofs.YtcikjeiebpmmcaaGreatW.PrintWords Go.Proofs.YtcikjeiebpmmcaaGreatW.PrintLast Go.Proofs.YtcikjeiebpmmcaaGreatW.PrintMore Go.Sort Go.Shelf
set_option linter.unusedVariables false
set_option linter.unusedSimpArgs false
def metricName : ByteArray := ⟨#[95, 95, 110, 97, 109, 101, 95, 95]⟩
theorem metric_yes (b : ByteArray) (h : b = metricName) : (b.toList == [95, 95, 110, 97, 109, 101, 95, 95]) = true := by
  subst h
  rw [ByteArray.toList_eq]
  rfl
theorem metric_no' (b : ByteArray) (h : b ≠ metricName) : (b.toList == [95, 95, 110, 97, 109, 101, 95, 95]) = false := by
  cases e : (b.toList == [95, 95, 110, 97, 109, 101, 95, 95]) with
  | false => rfl
  | true =>
    refine absurd (toList_inj ?_) h
    rw [beq_iff_eq] at e
    rw [e, ByteArray.toList_eq]
    rfl
theorem str_eq (a b : ByteArray) (h : a = b) : (a.toList == b.toList) = true := by rw [h]; simp
theorem str_ne (a b : ByteArray) (h : a ≠ b) : (a.toList == b.toList) = false := by
  cases e : (a.toList == b.toList) with
  | false => rfl
  | true => exact absurd (toList_inj (by simpa using e)) h
section
variable {α : Type} (nm vl : α → ByteArray)
def valueF (m : ByteArray) (l : List α) (b : ByteArray) : ByteArray := if b = metricName then m else match l.find? (fun x => decide (nm x = b)) with
  | some x => vl x
  | none => ⟨#[]⟩
end
set_option maxHeartbeats 1000000 in
theorem value_calls {α : Type} (d : Kd α) (nm vl : α → ByteArray) (hz : d.sz = 2) (hK1 : ∀ {w x c}, d.K w x c → c = encL nm vl x) (B : Nat) (m : ByteArray) (A : Option Addr) (c : Nat) (l : List α) (b : ByteArray) (w : World)
    (hB : w.heap[B]? = some (.cells #[.string m, .slice A l.length c] 87 (0, 0))) (hC : d.C w A l.length l) (hl : l.length ≤ 1099511627776) :
    Calls Tryz.prog 41 #[.pointer (some ⟨B, 0, none⟩), .string b] w fun e w' => e = .returned (.string (valueF nm vl m l b)) ∧ Below w.heap.size w w' := by
  have c0 : w.cell? ⟨B, 0, none⟩ = some (.string m) := (blk_cell hB 0).trans rfl
  have c1 : w.cell? ⟨B, 1, none⟩ = some (.slice A l.length c) := (blk_cell hB 1).trans rfl
  by_cases hb : b = metricName
  · have e : valueF nm vl m l b = m := if_pos hb
    have hbb := metric_yes b hb
    rw [e]
    clear e hb hB
    go_enter Tryz.func41, Tryz.ntmps41
    go_wp2
    go_ret
    exact ⟨rfl, Below.refl _ _⟩
  · have hbb := metric_no' b hb
    have HV : Aside0 (valueF nm vl m l b = match l.find? (fun x => decide (nm x = b)) with | some x => vl x | none => ⟨#[]⟩) := ⟨if_neg hb⟩
    generalize valueF nm vl m l b = r at *
    have HC := Aside0.mk hC
    clear hb hB hC
    go_enter Tryz.func41, Tryz.ntmps41
    go_wp2
    go_loopw [18] (fun v wr => ∃ i : Nat, i ≤ l.length ∧ v = .int .i64 i ∧ Aside0 (Below w.heap.size w wr) ∧ Aside0 (r = match (l.drop i).find? (fun x => decide (nm x = b)) with | some x => vl x | none => ⟨#[]⟩)) (fun v _ => l.length - (intOf v).toNat)
    case atStart => exact ⟨0, Nat.zero_le _, by go_num, ⟨Below.refl _ _⟩, HV⟩
    case round =>
      clear HV
      obtain ⟨i, hi, rfl, HB, HV⟩ := hrel
      by_cases hlt : i < l.length
      · have hlti : (i : Int) < (l.length : Int) := by omega
        obtain ⟨g, off, rfl, hg, hc⟩ := C_at HC.out (by omega) (by omega)
        obtain ⟨cs, _, hK, hcell⟩ := hc i l[i] (List.getElem?_eq_getElem hlt)
        rw [hz, hK1 hK] at hcell
        have g1 : wr.cell? ⟨g, off + i * 2, none⟩ = some (.string (nm l[i])) := (HB.out.cell (p := ⟨g, off + i * 2, none⟩) hg).trans (by simpa using hcell 0 _ rfl)
        have g2 : wr.cell? ⟨g, off + i * 2 + 1, none⟩ = some (.string (vl l[i])) := (HB.out.cell (p := ⟨g, off + i * 2 + 1, none⟩) hg).trans (by simpa using hcell 1 _ rfl)
        have hv := HV.out
        rw [List.drop_eq_getElem_cons hlt] at hv
        have hB2 := fun o => HB.out.trans ((Below.refl _ wr).alloc HB.out.size o)
        clear hc hcell hK
        generalize l[i] = x at *
        by_cases he : nm x = b
        · have hq := str_eq (nm x) b he
          rw [List.find?_cons_of_pos (by simpa using he)] at hv
          have HE := Aside0.mk hv
          clear hv he HV
          go_wp2
          go_ret
          exact ⟨by rw [HE.out]; rfl, hB2 _⟩
        · have hq := str_ne (nm x) b he
          rw [List.find?_cons_of_neg (by simpa using he)] at hv
          have HE := Aside0.mk hv
          clear hv he HV
          go_wp2
          go_roundw
          case rel => exact ⟨i + 1, by omega, by go_num, ⟨hB2 _⟩, HE⟩
          case measure => simp [intOf]; omega
      · obtain rfl : i = l.length := by omega
        have hlti : ¬ (l.length : Int) < (l.length : Int) := by omega
        have hv := HV.out
        rw [List.drop_length] at hv
        have HE := Aside0.mk hv
        clear hv HV
        go_wp2
        go_ret
        exact ⟨by rw [HE.out]; rfl, HB.out⟩
theorem set_cl (x0 x1 : ByteArray) (B : Nat) (b : ByteArray) (W : World) (hcell : W.cell? ⟨B, 0, none⟩ = some (.string b)) :
    Calls Tryz.prog 82 #[.agg #[.string x0, .string x1], .pointer (some ⟨B, 0, none⟩)] W fun e w' => e = .returned (.bool (decide (x0 = b))) ∧ Below W.heap.size W w' := by
  have hB := World.block_lt_of_cell? W _ hcell
  have hne : B ≠ W.heap.size := by
    have : B < W.heap.size := hB
    omega
  have hb : Below W.heap.size W (W.alloc (.cells #[.string x0, .string x1] 96)) := (Below.refl _ W).alloc (Nat.le_refl _) _
  by_cases he : x0 = b
  · have hq := str_eq x0 b he
    rw [decide_eq_true he]
    clear he
    go_enter Tryz.func82, Tryz.ntmps82
    go_wp2
    go_ret
    exact ⟨rfl, hb⟩
  · have hq := str_ne x0 b he
    rw [decide_eq_false he]
    clear he
    go_enter Tryz.func82, Tryz.ntmps82
    go_wp2
    go_ret
    exact ⟨rfl, hb⟩
section
variable {α : Type} (nm : α → ByteArray) (mk : ByteArray → ByteArray → α)
def setF (m : ByteArray) (l : List α) (b v : ByteArray) : ByteArray × List α := if b = metricName then (v, l) else (m, (l.filter fun x => !decide (nm x = b)) ++ (if v = ⟨#[]⟩ then [] else [mk b v]))
end
theorem set_eg : ∀ args w, (callFunc 82 args).run Tryz.prog w = .ok (.enter 82 args) w := enters_of Tryz.func82 (by kernel_rfl) rfl
set_option maxHeartbeats 2000000 in
theorem set_calls {α : Type} (d : Kd α) (nm vl : α → ByteArray) (mk : ByteArray → ByteArray → α) (hn : ∀ a b, nm (mk a b) = a) (hv : ∀ a b, vl (mk a b) = b) (hz : d.sz = 2) (hE : d.E = []) (hK1 : ∀ {w x c}, d.K w x c → c = encL nm vl x) (hM1 : ∀ {w base ok x c}, d.M w base ok x c → c = encL nm vl x) (hM2 : ∀ w base ok x, d.M w base ok x (encL nm vl x))
    (B : Nat) (m : ByteArray) (v : Value) (l : List α) (b val : ByteArray) (w : World) (base : Nat)
    (hB : w.heap[B]? = some (.cells #[.string m, v] 87 (0, 0))) (hR : d.R 96 w base (fun _ => True) v l) (hbase : base ≤ B) (hl : l.length ≤ 1099511627776) :
    Calls Tryz.prog 60 #[.pointer (some ⟨B, 0, none⟩), .string b, .string val] w fun e w' => e = .returned (.tuple #[]) ∧ ∃ v', w'.heap[B]? = some (.cells #[.string (setF nm mk m l b val).1, v'] 87 (0, 0)) ∧ d.R 96 w' base (fun _ => True) v' (setF nm mk m l b val).2 ∧ Below base w w' := by
  have hBl := blk_lt hB
  have c0 : w.cell? ⟨B, 0, none⟩ = some (.string m) := (blk_cell hB 0).trans rfl
  have c1 : w.cell? ⟨B, 1, none⟩ = some v := (blk_cell hB 1).trans rfl
  have hb0 : Below w.heap.size w (w.alloc (.cells #[.string b] 9)) := (Below.refl _ w).alloc (Nat.le_refl _) _
  by_cases hb : b = metricName
  · have hbb := metric_yes b hb
    have e : setF nm mk m l b val = (val, l) := if_pos hb
    rw [e]
    have hf := blk_frozen hB 0
    have HB := Aside0.mk hB
    have HR := Aside0.mk hR
    clear hb e hB hR
    go_enter Tryz.func60, Tryz.ntmps60
    have hne : B ≠ w.heap.size := by omega
    have hBa := blk_put HB.out 0 (.string val) (cs' := #[.string val, v]) rfl
    have hBb : ∀ t, ((w.setCell ⟨B, 0, none⟩ (.string val)).alloc (.cells #[.string b] t)).heap[B]? = some (.cells #[.string val, v] 87 (0, 0)) := fun t => blk_alloc hBa _
    have hR2 := Kd.R_set HR.out HB.out (fun q hq => by rw [hE] at hq; rw [List.mem_singleton.1 hq]; decide) 0 (.string val)
    have hbs : ∀ t, Below (w.setCell ⟨B, 0, none⟩ (.string val)).heap.size (w.setCell ⟨B, 0, none⟩ (.string val)) ((w.setCell ⟨B, 0, none⟩ (.string val)).alloc (.cells #[.string b] t)) := fun t => (Below.refl _ _).alloc (Nat.le_refl _) _
    have hR3 := fun t => Kd.R_below hR2 (hbs t)
    have hW2 : ∀ t, Below base w ((w.setCell ⟨B, 0, none⟩ (.string val)).alloc (.cells #[.string b] t)) := fun t => ((Below.refl base w).setCell (p := ⟨B, 0, none⟩) hbase _).alloc (by have := ((Below.refl base w).setCell (p := ⟨B, 0, none⟩) hbase (.string val)).size; omega) _
    have H1 := Aside0.mk hBb
    have H2 := Aside0.mk hR3
    have H3 := Aside0.mk hW2
    clear hBa hBb hR2 hbs hR3 hW2 hb0
    go_wp2
    refine bodyPost_ret (results_none rfl _ _ _) rfl ?_
    exact ⟨rfl, _, H1.out _, H2.out _, H3.out _⟩
  · have hbb := metric_no' b hb
    have e : setF nm mk m l b val = (m, (l.filter fun x => !decide (nm x = b)) ++ (if val = ⟨#[]⟩ then [] else [mk b val])) := if_neg hb
    rw [e]
    have hbl : (w.alloc (.cells #[.string b] 9)).heap[w.heap.size]? = some (.cells #[.string b] 9 (0, 0)) := blk_new w (.cells #[.string b] 9)
    have hty : ∀ q, q ∈ 96 :: d.E → q ≠ 87 := fun q hq => by rw [hE] at hq; rw [List.mem_singleton.1 hq]; decide
    have hty2 : ∀ q, q ∈ 96 :: d.E → q ≠ 9 := fun q hq => by rw [hE] at hq; rw [List.mem_singleton.1 hq]; decide
    have hR1 := Kd.R_below hR hb0
    have hB1 := (hb0.block B hBl).trans hB
    have hnB : ∀ k, v.ownBlock = some k → k ≠ B := fun k hk => ((Kd.R_types hR1 hB1 hty).1 k hk).2
    have hnx : ∀ k, v.ownBlock = some k → k ≠ w.heap.size := fun k hk => ((Kd.R_types hR1 hbl hty2).1 k hk).2
    have hp : ∀ (W : World) (x : α), x ∈ l → (w.alloc (.cells #[.string b] 9)).grownBy W v.ownBlock → Calls Tryz.prog 82 (#[.agg #[.string (nm x), .string (vl x)]] ++ #[.pointer (some ⟨w.heap.size, 0, none⟩)]) W fun e w' => e = .returned (.bool (decide (nm x = b))) ∧ Below W.heap.size W w' := by
      intro W x _ hW
      exact set_cl (nm x) (vl x) w.heap.size b W ((blk_cell (blk_grown hbl hW (fun e => hnx _ e.symm rfl)) 0).trans rfl)
    have hdel := delete_calls d nm vl hz hK1 hM1 hM2 82 set_eg (fun x => decide (nm x = b)) #[.pointer (some ⟨w.heap.size, 0, none⟩)] v l _ base hR1 (by have := hb0.size; omega) hl hp
    have HT := Aside0.mk hty
    have HT2 := Aside0.mk hty2
    have HB1 := Aside0.mk hB1
    have HBL := Aside0.mk hbl
    have HNB := Aside0.mk hnB
    have HNX := Aside0.mk hnx
    have HR1 := Aside0.mk hR1
    have HB0 := Aside0.mk hb0
    have HF := Aside0.mk (show (l.filter fun x => !decide (nm x = b)).length ≤ 1099511627776 from Nat.le_trans (List.length_filter_le _ _) hl)
    clear hty hty2 hB1 hbl hnB hnx hR1 hp hb e hB hR hb0
    generalize (l.filter fun x => !decide (nm x = b)) = fs at *
    obtain ⟨tl, htl⟩ : ∃ tl, tl = if val = ⟨#[]⟩ then [] else [mk b val] := ⟨_, rfl⟩
    rw [← htl]
    have HTL := Aside0.mk htl
    clear htl
    go_enter Tryz.func60, Tryz.ntmps60
    have hne : B ≠ w.heap.size := by omega
    go_wp2_with fail
    refine hdel.mono ?_
    rintro e w2 ⟨v2, rfl, hR2, hG⟩
    obtain ⟨A2, c2, rfl⟩ := Kd.R_slice hR2
    have hB2 := blk_grown HB1.out hG (fun e => HNB.out _ e.symm rfl)
    have hx2 := blk_grown HBL.out hG (fun e => HNX.out _ e.symm rfl)
    have hf2 := blk_frozen hB2 1
    have d1 : w2.cell? ⟨B, 1, none⟩ = some v := (blk_cell hB2 1).trans rfl
    have hW2 : Below base w w2 := (HB0.out.mono (by omega)).grown hG (by have := HB0.out.size; omega) (fun k hk => Kd.R_base HR1.out k hk)
    have hW3 : Below base w (w2.setCell ⟨B, 1, none⟩  (.slice A2 fs.length c2)) := hW2.setCell (p := ⟨B, 1, none⟩) hbase _
    have hB3 := blk_put hB2 1  (.slice A2 fs.length c2) (cs' := #[.string m,  (.slice A2 fs.length c2)]) rfl
    have hx3 := blk_far hx2 (p := ⟨B, 1, none⟩) (fun e => hne e.symm)  (.slice A2 fs.length c2)
    have hR3 := Kd.R_set hR2 hB2 HT.out 1  (.slice A2 fs.length c2)
    have H1 := Aside0.mk hB3
    have H2 := Aside0.mk hx3
    have H3 := Aside0.mk hR3
    have H4 := Aside0.mk hW3
    clear hdel hR2 hG hB2 hx2 hW2 hW3 hB3 hx3 hR3
    by_cases hv0 : val = ⟨#[]⟩
    · have htl := HTL.out
      rw [if_pos hv0] at htl
      subst htl
      have hvv : val.toList.isEmpty = true := by rw [hv0, ByteArray.toList_eq]; rfl
      clear hv0
      go_wp2
      refine Go.Great.bodyPost_end0 rfl rfl ?_
      exact ⟨rfl, _, H1.out, by rw [List.append_nil]; exact H3.out, H4.out⟩
    · have htl := HTL.out
      rw [if_neg hv0] at htl
      have HTL2 := Aside0.mk htl
      clear HTL htl
      have hvv : val.toList.isEmpty = false := by
        cases e : val.toList.isEmpty with
        | false => rfl
        | true => exact absurd (toList_inj (by rw [List.isEmpty_iff.1 e, ByteArray.toList_eq])) hv0
      clear hv0
      have HHN := Aside0.mk hne
      go_wp2_with fail
      clear hbb c0 c1 d1 hf2
      have HK1 := Aside0.mk @hK1
      have HM1 := Aside0.mk @hM1
      have HM2 := Aside0.mk hM2
      have HN := Aside0.mk hn
      have HV := Aside0.mk hv
      have HE := Aside0.mk hE
      clear hK1 hM1 hM2 hn hv hE
      have hb3 := H1.out
      have hx3 := H2.out
      have hr3 := H3.out
      have hw3 := H4.out
      generalize w2.setCell ⟨B, 1, none⟩  (.slice A2 fs.length c2) = w3 at *
      have hBl3 := blk_lt hb3
      have hxl3 := blk_lt hx3
      have f1 : w3.cell? ⟨B, 1, none⟩ = some  (.slice A2 fs.length c2) := (blk_cell hb3 1).trans rfl
      have f2 : w3.cell? ⟨w.heap.size, 0, none⟩ = some (.string b) := (blk_cell hx3 0).trans rfl
      have hfb := blk_frozen hb3 1
      have hnB3 : B ≠ w3.heap.size := by omega
      have hnX3 : w.heap.size ≠ w3.heap.size := by omega
      have G1 := Aside0.mk hb3
      have G2 := Aside0.mk hx3
      have G3 := Aside0.mk hr3
      have G4 := Aside0.mk hw3
      clear hb3 hx3 hr3 hw3 H1 H2 H3 H4
      have hI : (Tryz.prog.info? 96).map (fun i => (i.zero, i.size, i.bytes)) = some (some (.agg #[(.string ⟨#[]⟩), (.string ⟨#[]⟩)]), d.sz, 32) := by rw [hz]; exact info_label
      have hZ : (Value.agg #[.string ⟨#[]⟩, .string ⟨#[]⟩]).cells.size = d.sz := by rw [hz]; rfl
      have hS : 0 < d.sz := by rw [hz]; decide
      have hMM : ∀ W, d.M W base (fun _ => False) (mk b val) [.string b, .string val] := fun W => by
        have := HM2.out W base (fun _ => False) (mk b val)
        unfold encL at this
        rw [HN.out, HV.out] at this
        exact this
      have hB3 : base ≤ w3.heap.size := by omega
      have hlen : (fs.length + 1) * 32 ≤ 140737488355328 := by have := HF.out; omega
      have hnv : (Value.slice A2 fs.length c2).ownBlock ≠ some B := fun e => ((Kd.R_types G3.out G1.out HT.out).1 B e).2 rfl
      have hnv2 : (Value.slice A2 fs.length c2).ownBlock ≠ some w.heap.size := fun e => ((Kd.R_types G3.out G2.out HT2.out).1 _ e).2 rfl
      have GI := Aside0.mk hI
      have hG3 := Kd.R_drew G3.out
      have hG4 : Below base w w3.drew := G4.out.drew
      have hS2 : 0 < 32 := by decide
      go_region_law (refine Kd.R_append_step d (w0 := w) (W := w3.drew) base ?_ (.tmp 27) (.tmp 31) 44 96 (.agg #[.string ⟨#[]⟩, .string ⟨#[]⟩]) 32 ?_ Tryz.underlying44 hI hZ hS hS2 (.slice A2 fs.length c2) fs (mk b val) [.string b, .string val] (fun _ => True) (fun _ => False) ?_ ?_ (hMM _) (fun _ h => h.elim) (fun _ _ => trivial) hG3 hG4 hB3 hlen ?_; rfl; rfl; rfl; rfl; intro v4 w4 ho hb4 hg4 hat4; obtain ⟨A4, c4, rfl⟩ := Kd.R_slice ho; have hB4 := blk_grown (w := w3.drew) (o := .cells #[.string m, .slice A2 fs.length c2] 87 (0, 0)) G1.out hg4 (fun e => hnv e.symm); have hc4 : w4.cell? ⟨B, 1, none⟩ = some (.slice A2 fs.length c2) := (blk_cell hB4 1).trans rfl; have hf4 := blk_frozen hB4 1; have J1 := Aside0.mk ho; have J2 := Aside0.mk hb4; have J3 := Aside0.mk hB4; clear ho hb4 hg4 hat4 hB4)
      all_goals go_wp2
      all_goals refine Go.Great.bodyPost_end0 rfl rfl ?_
      all_goals refine ⟨rfl, .slice A4 (fs.length + 1) c4, ?_, ?_, ?_⟩
      all_goals first
        | exact blk_put J3.out 1 _ rfl
        | (rw [HTL2.out]; have h9 := Kd.R_set J1.out J3.out HT.out 1 (.slice A4 (fs.length + 1) c4); rw [List.length_append] at h9; exact h9)
        | exact J2.out.setCell (p := ⟨B, 1, none⟩) hbase _
end Go.Proofs.YtcikjeiebpmmcaaGreat
namespace Go.Proofs.YtcikjeiebpmmcaaGreat
open Go.RowKit Go.Proofs.YtcikjeiebpmmcaaGreatW.PrintWords Go.Proofs.YtcikjeiebpmmcaaGreatW.PrintLast Go.Proofs.YtcikjeiebpmmcaaGreatW.PrintMore Go.Sort Go.Shelf
set_option linter.unusedVariables false
set_option linter.unusedSimpArgs false
def MatchC (M : ByteArray → ByteArray → Option (List ByteArray × Bool)) : Prop := ∀ a b r ok W, M a b = some (r, ok) → Calls Tryz.prog 11 #[.string a, .string b] W fun e w' => ∃ v, e = .returned (.tuple #[v, .bool ok]) ∧ Kd.R Kd.string 9 w' W.heap.size (fun _ => True) v r ∧ Below W.heap.size W w'
def FillC (F : ByteArray → List ByteArray → Option (ByteArray × Bool)) : Prop := ∀ a l r ok W A c, F a l = some (r, ok) → Kd.C Kd.string W A l.length l → l.length ≤ c → Calls Tryz.prog 14 #[.string a, .slice A l.length c] W fun e w' => e = .returned (.tuple #[.string r, .bool ok]) ∧ Below W.heap.size W w'
theorem keep_cl (I : Nat) (b : Bool) (W : World) (hc : W.cell? ⟨I, 0, none⟩ = some (.bool b)) :
    Calls Tryz.prog 57 #[.pointer (some ⟨I, 0, none⟩)] W fun e w' => e = .returned (.bool b) ∧ w' = W := by
  go_enter Tryz.func57, Tryz.ntmps57
  go_wp2
  go_ret
  exact ⟨rfl, rfl⟩
theorem drop_cl (I : Nat) (b : Bool) (W : World) (hc : W.cell? ⟨I, 0, none⟩ = some (.bool b)) :
    Calls Tryz.prog 58 #[.pointer (some ⟨I, 0, none⟩)] W fun e w' => e = .returned (.bool (!b)) ∧ w' = W := by
  go_enter Tryz.func58, Tryz.ntmps58
  go_wp2
  go_ret
  exact ⟨rfl, rfl⟩
theorem gone_cl (M : ByteArray → ByteArray → Option (List ByteArray × Bool)) (hM : MatchC M) (x0 x1 pat : ByteArray) (r : List ByteArray) (ok : Bool) (h : M pat x0 = some (r, ok)) (R : Nat) (W : World) (hc : W.cell? ⟨R, 2, none⟩ = some (.string pat)) :
    Calls Tryz.prog 63 #[.agg #[.string x0, .string x1], .pointer (some ⟨R, 0, none⟩)] W fun e w' => e = .returned (.bool ok) ∧ Below W.heap.size W w' := by
  have hB := World.block_lt_of_cell? W _ hc
  have hne : R ≠ W.heap.size := by
    have : R < W.heap.size := hB
    omega
  have hb : Below W.heap.size W (W.alloc (.cells #[.string x0, .string x1] 96)) := (Below.refl _ W).alloc (Nat.le_refl _) _
  have hm := hM pat x0 r ok (W.alloc (.cells #[.string x0, .string x1] 96)) h
  clear hM h
  go_enter Tryz.func63, Tryz.ntmps63
  go_wp2_with fail
  refine hm.mono ?_
  rintro e w2 ⟨v, rfl, hR, hB2⟩
  have HB := Aside0.mk (hb.trans (hB2.mono hb.size))
  clear hm hR hB2 hb
  go_wp2
  go_ret
  exact ⟨rfl, HB.out⟩
theorem miss_cl (I R T S : Nat) (W : World) (hc : W.cell? ⟨I, 0, none⟩ = some (.bool false)) :
    Calls Tryz.prog 59 #[.pointer (some ⟨I, 0, none⟩), .pointer (some ⟨R, 0, none⟩), .pointer (some ⟨T, 0, none⟩), .pointer (some ⟨S, 0, none⟩)] W fun e w' => e = .returned (.bool true) ∧ w' = W := by
  go_enter Tryz.func59, Tryz.ntmps59
  go_wp2
  go_ret
  exact ⟨rfl, rfl⟩
set_option maxHeartbeats 1000000 in
theorem fills_cl {α : Type} (d : Kd α) (nm vl : α → ByteArray) (mk : ByteArray → ByteArray → α) (hn : ∀ a b, nm (mk a b) = a) (hv : ∀ a b, vl (mk a b) = b) (hz : d.sz = 2) (hE : d.E = []) (hK1 : ∀ {w x c}, d.K w x c → c = encL nm vl x) (hM1 : ∀ {w base ok x c}, d.M w base ok x c → c = encL nm vl x) (hM2 : ∀ w base ok x, d.M w base ok x (encL nm vl x))
    (F : ByteArray → List ByteArray → Option (ByteArray × Bool)) (hF : FillC F) (tmpl into x : ByteArray) (took : List ByteArray) (ok : Bool) (hf : F tmpl took = some (x, ok))
    (I R T S B : Nat) (A : Option Addr) (c : Nat) (hle : took.length ≤ c) (m : ByteArray) (v : Value) (l : List α) (W : World) (base : Nat)
    (hI : W.cell? ⟨I, 0, none⟩ = some (.bool true)) (hR3 : W.cell? ⟨R, 3, none⟩ = some (.string tmpl)) (hR4 : W.cell? ⟨R, 4, none⟩ = some (.string into)) (hT : W.cell? ⟨T, 0, none⟩ = some (.slice A took.length c)) (hS : W.cell? ⟨S, 0, none⟩ = some (.pointer (some ⟨B, 0, none⟩)))
    (hC : Kd.C Kd.string W A took.length took)
    (hB : W.heap[B]? = some (.cells #[.string m, v] 87 (0, 0))) (hR : d.R 96 W base (fun _ => True) v l) (hbase : base ≤ B) (hl : l.length ≤ 1099511627776) :
    Calls Tryz.prog 59 #[.pointer (some ⟨I, 0, none⟩), .pointer (some ⟨R, 0, none⟩), .pointer (some ⟨T, 0, none⟩), .pointer (some ⟨S, 0, none⟩)] W fun e w' => e = .returned (.bool true) ∧ ∃ v', w'.heap[B]? = some (.cells #[.string (setF nm mk m l into x).1, v'] 87 (0, 0)) ∧ d.R 96 w' base (fun _ => True) v' (setF nm mk m l into x).2 ∧ Below base W w' := by
  have hBl := blk_lt hB
  have hfl := hF tmpl took x ok W A c hf hC hle
  have hset := fun W2 (hb2 : Below W.heap.size W W2) => set_calls d nm vl mk hn hv hz hE hK1 hM1 hM2 B m v l into x W2 base ((hb2.block B hBl).trans hB) (Kd.R_below hR hb2) hbase hl
  have hbs : base ≤ W.heap.size := by omega
  have HS := Aside0.mk hset
  clear hK1 hM1 hM2 hn hv hE hF hf hC hB hR hset
  go_enter Tryz.func59, Tryz.ntmps59
  go_wp2_with fail
  refine hfl.mono ?_
  rintro e w2 ⟨rfl, hb2⟩
  have g4 := (hb2.cell (p := ⟨R, 4, none⟩) (World.block_lt_of_cell? W _ hR4)).trans hR4
  have gS := (hb2.cell (p := ⟨S, 0, none⟩) (World.block_lt_of_cell? W _ hS)).trans hS
  have hs2 := HS.out w2 hb2
  have HB2 := Aside0.mk (hb2.mono hbs)
  clear hfl hb2 hI hR3 hR4 hT hS
  go_wp2_with fail
  refine hs2.mono ?_
  rintro e w3 ⟨rfl, v', k1, k2, k3⟩
  have K1 := Aside0.mk k1
  have K2 := Aside0.mk k2
  have K3 := Aside0.mk (HB2.out.trans k3)
  clear hs2 k1 k2 k3
  go_wp2
  go_ret
  exact ⟨rfl, v', K1.out, K2.out, K3.out⟩
theorem gone_eg : ∀ args w, (callFunc 63 args).run Tryz.prog w = .ok (.enter 63 args) w := enters_of Tryz.func63 (by kernel_rfl) rfl
set_option maxHeartbeats 1000000 in
theorem remove_cl {α : Type} (d : Kd α) (nm vl : α → ByteArray) (hz : d.sz = 2) (hE : d.E = []) (hK1 : ∀ {w x c}, d.K w x c → c = encL nm vl x) (hM1 : ∀ {w base ok x c}, d.M w base ok x c → c = encL nm vl x) (hM2 : ∀ w base ok x, d.M w base ok x (encL nm vl x))
    (M : ByteArray → ByteArray → Option (List ByteArray × Bool)) (hM : MatchC M) (pat : ByteArray) (g : α → Bool) (R S B : Nat) (m : ByteArray) (v : Value) (l : List α) (W : World) (base : Nat) (k0 k1 k3 k4 : Value)
    (hg : ∀ x ∈ l, ∃ r, M pat (nm x) = some (r, g x)) (hRb : W.heap[R]? = some (.cells #[k0, k1, .string pat, k3, k4] 43 (0, 0))) (hSb : W.heap[S]? = some (.cells #[.pointer (some ⟨B, 0, none⟩)] 85 (0, 0)))
    (hB : W.heap[B]? = some (.cells #[.string m, v] 87 (0, 0))) (hR : d.R 96 W base (fun _ => True) v l) (hbase : base ≤ B) (hl : l.length ≤ 1099511627776) :
    Calls Tryz.prog 61 #[.pointer (some ⟨S, 0, none⟩), .pointer (some ⟨R, 0, none⟩)] W fun e w' => e = .returned (.bool true) ∧ ∃ v', w'.heap[B]? = some (.cells #[.string m, v'] 87 (0, 0)) ∧ d.R 96 w' base (fun _ => True) v' (l.filter fun x => !g x) ∧ Below base W w' := by
  have hBl := blk_lt hB
  have hbs : base ≤ W.heap.size := by omega
  have ty : ∀ t, t ≠ 96 → ∀ q, q ∈ 96 :: d.E → q ≠ t := fun t ht q hq => by rw [hE] at hq; rw [List.mem_singleton.1 hq]; exact fun e => ht e.symm
  have nR : ∀ k, v.ownBlock = some k → k ≠ R := fun k hk => ((Kd.R_types hR hRb (ty _ (by decide))).1 k hk).2
  have nS : ∀ k, v.ownBlock = some k → k ≠ S := fun k hk => ((Kd.R_types hR hSb (ty _ (by decide))).1 k hk).2
  have nB : ∀ k, v.ownBlock = some k → k ≠ B := fun k hk => ((Kd.R_types hR hB (ty _ (by decide))).1 k hk).2
  have hdel : ∀ W2, Below W.heap.size W W2 → Calls Tryz.prog 62 #[v, .func (.func 63) #[] #[.pointer (some ⟨R, 0, none⟩)]] W2 fun e w' => ∃ A2 c2, e = .returned (.slice A2 (l.filter fun x => !g x).length c2) ∧
      w'.cell? ⟨B, 1, none⟩ = some v ∧ w'.frozen? ⟨B, 1, none⟩ = false ∧ w'.cell? ⟨S, 0, none⟩ = some (.pointer (some ⟨B, 0, none⟩)) ∧ Aside0 ((w'.setCell ⟨B, 1, none⟩ (.slice A2 (l.filter fun x => !g x).length c2)).heap[B]? = some (.cells #[.string m, .slice A2 (l.filter fun x => !g x).length c2] 87 (0, 0)) ∧
        d.R 96 (w'.setCell ⟨B, 1, none⟩ (.slice A2 (l.filter fun x => !g x).length c2)) base (fun _ => True) (.slice A2 (l.filter fun x => !g x).length c2) (l.filter fun x => !g x) ∧ Below base W (w'.setCell ⟨B, 1, none⟩ (.slice A2 (l.filter fun x => !g x).length c2))) := by
    intro W2 hb2
    have hRb2 := blk_below hRb hb2
    have hSb2 := blk_below hSb hb2
    have hB2 := blk_below hB hb2
    refine (delete_calls d nm vl hz hK1 hM1 hM2 63 gone_eg g #[.pointer (some ⟨R, 0, none⟩)] v l W2 base (Kd.R_below hR hb2) (Nat.le_trans hbs hb2.size) hl ?_).mono ?_
    · intro W3 x hx hG
      obtain ⟨r, hr⟩ := hg x hx
      exact gone_cl M hM (nm x) (vl x) pat r (g x) hr R W3 ((blk_cell (blk_grown hRb2 hG (fun e => nR _ e.symm rfl)) 2).trans rfl)
    · rintro e w' ⟨v2, rfl, hR2, hG⟩
      obtain ⟨A2, c2, rfl⟩ := Kd.R_slice hR2
      have hB3 := blk_grown hB2 hG (fun e => nB _ e.symm rfl)
      have hS3 := blk_grown hSb2 hG (fun e => nS _ e.symm rfl)
      have hW3 : Below base W w' := (hb2.mono hbs).grown hG (Nat.le_trans hbs hb2.size) (fun k hk => Kd.R_base hR k hk)
      exact ⟨A2, c2, rfl, (blk_cell hB3 1).trans rfl, blk_frozen hB3 1, (blk_cell hS3 0).trans rfl, ⟨blk_put hB3 1 _ rfl, Kd.R_set hR2 hB3 (ty _ (by decide)) 1 _, hW3.setCell (p := ⟨B, 1, none⟩) hbase _⟩⟩
  obtain ⟨A, c, rfl⟩ := Kd.R_slice hR
  have s0 : W.cell? ⟨S, 0, none⟩ = some (.pointer (some ⟨B, 0, none⟩)) := (blk_cell hSb 0).trans rfl
  have b1 : W.cell? ⟨B, 1, none⟩ = some (.slice A l.length c) := (blk_cell hB 1).trans rfl
  have hd1 := hdel _ (below_drew (Below.refl W.heap.size W))
  clear hdel nR nS nB ty hK1 hM1 hM2 hM hg hRb hSb hB hR hE
  generalize (l.filter fun x => !g x) = fs at *
  go_enter Tryz.func61, Tryz.ntmps61
  go_wp2_with fail
  go_region_with (refine hd1.mono ?_; rintro e w2 ⟨A2, c2, rfl, j1, j2, j3, J⟩)
  all_goals go_wp2
  all_goals go_ret
  all_goals exact ⟨rfl, _, J.out.1, J.out.2.1, J.out.2.2⟩
end Go.Proofs.YtcikjeiebpmmcaaGreat
namespace Go.Proofs.YtcikjeiebpmmcaaGreat
open Go.RowKit Go.Proofs.YtcikjeiebpmmcaaGreatW.PrintWords Go.Maps
set_option linter.unusedVariables false
set_option linter.unusedSimpArgs false
def holdR (v : Value) : Option (DataW Value × List MemPlace) := some (.held v, [])
abbrev OwnsF (w : World) (b n : Nat) (D : DataW Value) : Prop := w.ownsMap Tryz.prog 41 holdR b n D
theorem kindKeyed : Keyed Tryz.prog 41 := int_keyed Tryz.underlying41
theorem key_of (n : Int) (h : (Lit.int .i64 n).wf = true) : keyOf Tryz.prog 41 (.int .i64 n) = some (.int .i64 n) := keyOf_int_mk Tryz.underlying41 h
theorem wpList_insertF {ops : Array Oper} {rest : List Oper} {o : Oper} {a : Act} {Q : Exit → Act → World → Prop} (w : World)
    (hg : o.guard = none) (m x v : Operand) (hop : o.op = Op.insert 116 m x v) (b n : Nat) (D : DataW Value) (hm : a.eval m = .map (some b)) (hown : OwnsF w b n D) (hn : n < 100)
    (z : Int) (val : Value) (hx : a.eval x = .int .i64 z) (hz : (Lit.int .i64 z).wf = true) (hv : a.eval v = val)
    (hK : ∀ w', OwnsF w' b (n + 1) (D.put (.int .i64 z) (.held val)) → w.grownBy w' (some b) → wpList Tryz.prog ops Q rest (a.put o.dst undef) w') : wpList Tryz.prog ops Q (o :: rest) a w := by
  refine wpList_plain hg fun K' hK' => ?_
  obtain ⟨w', hrun, r1, r2⟩ := World.ownsMap.update hown kindKeyed Tryz.underlying116 (by unfold maxLen; omega) (key_of z hz) (show holdR val = some (.held val, []) from rfl)
  unfold Oper.wp
  simp [execOp, hop, hm, hx, hv, hrun, Result.andThen]
  exact hK' _ _ (hK w' r1 r2)
theorem look_deed {w : World} {b n : Nat} {D : DataW Value} (h : OwnsF w b n D) (z : Int) (hz : (Lit.int .i64 z).wf = true) (v : Value) (hv : D.atKey (.int .i64 z) (.held .nilFunc) = .held v) :
    (Instr.lookup 116 (.map (some b)) (.int .i64 z) false).run Tryz.prog w = .ok v w := by
  obtain ⟨v', ps, hrun, hR⟩ := World.ownsMap.lookup h kindKeyed Tryz.underlying116 (z := .nilFunc) (by kernel_rfl) (show holdR .nilFunc = some (.held .nilFunc, []) from rfl) (key_of z hz)
  rw [hv] at hR
  have e1 := congrArg Prod.fst (Option.some.inj (show some (DataW.held v', ([] : List MemPlace)) = some (.held v, ps) from hR))
  have e2 : (DataW.held v' : DataW Value) = .held v := e1
  cases e2
  exact hrun
end Go.Proofs.YtcikjeiebpmmcaaGreat
namespace Go.Proofs.YtcikjeiebpmmcaaGreat
open Go.RowKit Go.Proofs.YtcikjeiebpmmcaaGreatW.PrintWords Go.Proofs.YtcikjeiebpmmcaaGreatW.PrintLast Go.Proofs.YtcikjeiebpmmcaaGreatW.PrintMore Go.Sort Go.Shelf
set_option maxRecDepth 20000
set_option linter.unusedVariables false
set_option linter.unusedSimpArgs false
structure Begun (W : World) (B : Nat) (k : Int) (lab pat tm into : ByteArray) (took : List ByteArray) (is : Bool) (T I : Nat) (wx : World) : Prop where
  below : Below W.heap.size W wx
  box : wx.heap[W.heap.size]? = some (.cells #[.pointer (some ⟨B, 0, none⟩)] 85 (0, 0))
  rule : wx.heap[W.heap.size + 1]? = some (.cells #[.int .i64 k, .string lab, .string pat, .string tm, .string into] 43 (0, 0))
  is : wx.cell? ⟨I, 0, none⟩ = some (.bool is)
  took : ∃ A c, wx.cell? ⟨T, 0, none⟩ = some (.slice A took.length c) ∧ took.length ≤ c ∧ Kd.C Kd.string wx A took.length took
theorem cell_new1 (w : World) (u : Value) (t : TypeId) : (w.alloc (.cells #[u] t)).cell? ⟨w.heap.size, 0, none⟩ = some u := (blk_cell (blk_new w (.cells #[u] t)) 0).trans rfl
theorem cell_at (w : World) (n : Nat) (u : Value) (t : TypeId) (hn : n = w.heap.size) : (w.alloc (.cells #[u] t)).cell? ⟨n, 0, none⟩ = some u := by
  subst hn
  exact cell_new1 w u t
theorem cell_new_set (w : World) (p : Addr) (v u : Value) (t : TypeId) : ((w.setCell p v).alloc (.cells #[u] t)).cell? ⟨w.heap.size, 0, none⟩ = some u := by
  have h := cell_new1 (w.setCell p v) u t
  have e : (w.setCell p v).heap.size = w.heap.size := by simp [World.setCell]
  rw [e] at h
  exact h
theorem cell_new2 (w : World) (o : Obj) (u : Value) (t : TypeId) : ((w.alloc o).alloc (.cells #[u] t)).cell? ⟨w.heap.size + 1, 0, none⟩ = some u := by
  have h := cell_new1 (w.alloc o) u t
  have e : (w.alloc o).heap.size = w.heap.size + 1 := by simp
  rw [e] at h
  exact h
theorem cell_al (w : World) (p : Addr) (u : Value) (o : Obj) (h : w.cell? p = some u) : (w.alloc o).cell? p = some u := (World.cell?_alloc_lt _ _ _ (World.block_lt_of_cell? _ _ h)).trans h
theorem cell_st (w : World) (p : Addr) (u v : Value) (h : w.cell? p = some u) : (w.setCell p v).cell? p = some v := World.cell?_setCell_same w p v h
theorem cell_fr (w : World) (p q : Addr) (u v : Value) (hne : p.block ≠ q.block) (h : w.cell? q = some u) : (w.setCell p v).cell? q = some u := (World.cell?_setCell_far w p q v hne).trans h
theorem C_of_R {α : Type} {d : Kd α} {e : Nat} {w : World} {base : Nat} {ok : Nat → Prop} {A : Option Addr} {c : Nat} {xs : List α} (h : d.R e w base ok (.slice A xs.length c) xs) : d.C w A xs.length xs := by
  obtain ⟨A', c', e', _, hC'⟩ := Kd.R_reads h
  cases e'
  exact hC'
theorem begun_below {W : World} {B : Nat} {k : Int} {lab pat tm into : ByteArray} {took : List ByteArray} {is : Bool} {T I : Nat} {wx w : World} (h : Begun W B k lab pat tm into took is T I wx) (hb : Below wx.heap.size wx w) : Begun W B k lab pat tm into took is T I w := by
  obtain ⟨A, c, h1, h2, h3⟩ := h.took
  exact ⟨h.below.trans (hb.mono h.below.size), (hb.block _ (blk_lt h.box)).trans h.box, (hb.block _ (blk_lt h.rule)).trans h.rule, (hb.cell (p := ⟨I, 0, none⟩) (World.block_lt_of_cell? _ _ h.is)).trans h.is, A, c, (hb.cell (p := ⟨T, 0, none⟩) (World.block_lt_of_cell? _ _ h1)).trans h1, h2, Kd.C_below h3 hb⟩
structure Mid (W : World) (B : Nat) (k : Int) (lab pat tm into : ByteArray) (took : List ByteArray) (A : Option Addr) (c b N : Nat) (w : World) : Prop where
  below : Below W.heap.size W w
  size : W.heap.size + 2 ≤ w.heap.size
  box : w.heap[W.heap.size]? = some (.cells #[.pointer (some ⟨B, 0, none⟩)] 85 (0, 0))
  rule : w.heap[W.heap.size + 1]? = some (.cells #[.int .i64 k, .string lab, .string pat, .string tm, .string into] 43 (0, 0))
  row : Kd.R Kd.string 9 w b (fun k => b ≤ k ∧ k < N) (.slice A took.length c) took
  cap : took.length ≤ c
section
variable {W : World} {B : Nat} {k : Int} {lab pat tm into : ByteArray} {took : List ByteArray} {A : Option Addr} {c b N : Nat} {w : World}
theorem mid_alloc (h : Mid W B k lab pat tm into took A c b N w) (o : Obj) : Mid W B k lab pat tm into took A c b N (w.alloc o) :=
  ⟨h.below.alloc h.below.size o, by simp; have := h.size; omega, blk_alloc h.box o, blk_alloc h.rule o, Kd.R_alloc h.row o, h.cap⟩
theorem mid_set (h : Mid W B k lab pat tm into took A c b N w) (T : Nat) (u : Value) (h1 : W.heap.size + 2 ≤ T) (h2 : T < b) : Mid W B k lab pat tm into took A c b N (w.setCell ⟨T, 0, none⟩ u) :=
  ⟨h.below.setCell (p := ⟨T, 0, none⟩) (by show W.heap.size ≤ T; omega) u, by simp [World.setCell]; exact h.size, blk_far h.box (p := ⟨T, 0, none⟩) (by show W.heap.size ≠ T; omega) u, blk_far h.rule (p := ⟨T, 0, none⟩) (by show W.heap.size + 1 ≠ T; omega) u,
    Kd.R_far (p := ⟨T, 0, none⟩) h.row (fun k hk => by show k ≠ T; omega) u, h.cap⟩
theorem mid_begun {is : Bool} {T I : Nat} (h : Mid W B k lab pat tm into took A c b N w) (h1 : w.cell? ⟨T, 0, none⟩ = some (.slice A took.length c)) (h2 : w.cell? ⟨I, 0, none⟩ = some (.bool is)) : Begun W B k lab pat tm into took is T I w :=
  ⟨h.below, h.box, h.rule, h2, A, c, h1, h.cap, C_of_R h.row⟩
variable {is : Bool} {t1 t2 : TypeId}
theorem begun_aa (h : Mid W B k lab pat tm into took A c b N w) : Begun W B k lab pat tm into took is w.heap.size (w.heap.size + 1) ((w.alloc (.cells #[.slice A took.length c] t1)).alloc (.cells #[.bool is] t2)) :=
  mid_begun (mid_alloc (mid_alloc h _) _) (cell_al _ _ _ _ (cell_new1 _ _ _)) (cell_new2 _ _ _ _)
theorem begun_aa2 (h : Mid W B k lab pat tm into took A c b N w) : Begun W B k lab pat tm into took is (w.heap.size + 1) w.heap.size ((w.alloc (.cells #[.bool is] t2)).alloc (.cells #[.slice A took.length c] t1)) :=
  mid_begun (mid_alloc (mid_alloc h _) _) (cell_new2 _ _ _ _) (cell_al _ _ _ _ (cell_new1 _ _ _))
theorem begun_sa (h : Mid W B k lab pat tm into took A c b N w) (x : Nat) (h1 : W.heap.size + 2 ≤ x) (h2 : x < b) (hx : ∃ u, w.cell? ⟨x, 0, none⟩ = some u) : Begun W B k lab pat tm into took is x w.heap.size ((w.setCell ⟨x, 0, none⟩ (.slice A took.length c)).alloc (.cells #[.bool is] t2)) := by
  obtain ⟨u, hu⟩ := hx
  exact mid_begun (mid_alloc (mid_set h x _ h1 h2) _) (cell_al _ _ _ _ (cell_st _ _ _ _ hu)) (cell_new_set _ _ _ _ _)
theorem begun_sa2 (h : Mid W B k lab pat tm into took A c b N w) (x : Nat) (h1 : W.heap.size + 2 ≤ x) (h2 : x < b) (hx : ∃ u, w.cell? ⟨x, 0, none⟩ = some u) : Begun W B k lab pat tm into took is w.heap.size x ((w.setCell ⟨x, 0, none⟩ (.bool is)).alloc (.cells #[.slice A took.length c] t1)) := by
  obtain ⟨u, hu⟩ := hx
  exact mid_begun (mid_alloc (mid_set h x _ h1 h2) _) (cell_new_set _ _ _ _ _) (cell_al _ _ _ _ (cell_st _ _ _ _ hu))
theorem begun_ss (h : Mid W B k lab pat tm into took A c b N w) (x y : Nat) (h1 : W.heap.size + 2 ≤ x) (h2 : x < b) (h3 : W.heap.size + 2 ≤ y) (h4 : y < b) (hne : x ≠ y) (hx : ∃ u, w.cell? ⟨x, 0, none⟩ = some u) (hy : ∃ u, w.cell? ⟨y, 0, none⟩ = some u) :
    Begun W B k lab pat tm into took is x y ((w.setCell ⟨x, 0, none⟩ (.slice A took.length c)).setCell ⟨y, 0, none⟩ (.bool is)) := by
  obtain ⟨u, hu⟩ := hx
  obtain ⟨v, hv⟩ := hy
  exact mid_begun (mid_set (mid_set h x _ h1 h2) y _ h3 h4) (cell_fr _ _ _ _ _ (by show y ≠ x; exact fun e => hne e.symm) (cell_st _ _ _ _ hu)) (cell_st _ _ _ _ (cell_fr _ _ _ _ _ (by show x ≠ y; exact hne) hv))
end
theorem below_four {wx w2 w3 w4 w5 : World} (g2 : (wx.alloc (.map #[] 0)).grownBy w2 (some wx.heap.size)) (g3 : w2.grownBy w3 (some wx.heap.size)) (g4 : w3.grownBy w4 (some wx.heap.size)) (g5 : w4.grownBy w5 (some wx.heap.size)) : Below wx.heap.size wx w5 := by
  have b1 := (Below.refl wx.heap.size wx).alloc (Nat.le_refl _) (.map #[] 0)
  have q : ∀ k, some wx.heap.size = some k → wx.heap.size ≤ k := fun k hk => by cases hk; exact Nat.le_refl _
  have b2 := b1.grown g2 b1.size q
  have b3 := b2.grown g3 b2.size q
  have b4 := b3.grown g4 b3.size q
  exact b4.grown g5 b4.size q
def deedV (S R T I : Nat) (k : Int) : Value :=
  if k = 1 then .func (.func 57) #[] #[.pointer (some ⟨I, 0, none⟩)]
  else if k = 2 then .func (.func 58) #[] #[.pointer (some ⟨I, 0, none⟩)]
  else if k = 3 then .func (.func 59) #[] #[.pointer (some ⟨I, 0, none⟩), .pointer (some ⟨R, 0, none⟩), .pointer (some ⟨T, 0, none⟩), .pointer (some ⟨S, 0, none⟩)]
  else .func (.func 61) #[] #[.pointer (some ⟨S, 0, none⟩), .pointer (some ⟨R, 0, none⟩)]
theorem deed_at {w : World} {b n : Nat} {S R T I : Nat} {k : Int} (h : OwnsF w b n (((((DataW.map []).put (.int .i64 1) (.held (.func (.func 57) #[] #[.pointer (some ⟨I, 0, none⟩)]))).put (.int .i64 2) (.held (.func (.func 58) #[] #[.pointer (some ⟨I, 0, none⟩)]))).put (.int .i64 3)
    (.held (.func (.func 59) #[] #[.pointer (some ⟨I, 0, none⟩), .pointer (some ⟨R, 0, none⟩), .pointer (some ⟨T, 0, none⟩), .pointer (some ⟨S, 0, none⟩)]))).put (.int .i64 4) (.held (.func (.func 61) #[] #[.pointer (some ⟨S, 0, none⟩), .pointer (some ⟨R, 0, none⟩)]))))
    (hk : k = 1 ∨ k = 2 ∨ k = 3 ∨ k = 4) : (Instr.lookup 116 (.map (some b)) (.int .i64 k) false).run Tryz.prog w = .ok (deedV S R T I k) w := by
  rcases hk with rfl | rfl | rfl | rfl
  · exact look_deed h 1 (by decide) _ rfl
  · exact look_deed h 2 (by decide) _ rfl
  · exact look_deed h 3 (by decide) _ rfl
  · exact look_deed h 4 (by decide) _ rfl
set_option maxHeartbeats 4000000 in
theorem one_region (B : Nat) (W : World) (k : Int) (lab pat tm into : ByteArray) (val : ByteArray) (took : List ByteArray) (is : Bool)
   (hBl : B < W.heap.size)
   (hval : ∀ W2, Below W.heap.size W W2 → Calls Tryz.prog 41 #[.pointer (some ⟨B, 0, none⟩), .string lab] W2 fun e w' => e = .returned (.string val) ∧ Below W2.heap.size W2 w')
   (hmat : ∀ W2, Calls Tryz.prog 11 #[.string pat, .string val] W2 fun e w' => ∃ v, e = .returned (.tuple #[v, .bool is]) ∧ Kd.R Kd.string 9 w' W2.heap.size (fun _ => True) v took ∧ Below W2.heap.size W2 w')
   (P : Ending → World → Prop) (hP : ∀ e w', P e w' → ∃ r, e = .returned (.bool r)) (hk : k = 1 ∨ k = 2 ∨ k = 3 ∨ k = 4)
   (h1 : k = 1 → ∀ T I w, Begun W B k lab pat tm into took is T I w → Calls Tryz.prog 57 #[.pointer (some ⟨I, 0, none⟩)] w P)
   (h2 : k = 2 → ∀ T I w, Begun W B k lab pat tm into took is T I w → Calls Tryz.prog 58 #[.pointer (some ⟨I, 0, none⟩)] w P)
   (h3 : k = 3 → ∀ T I w, Begun W B k lab pat tm into took is T I w → Calls Tryz.prog 59 #[.pointer (some ⟨I, 0, none⟩), .pointer (some ⟨W.heap.size + 1, 0, none⟩), .pointer (some ⟨T, 0, none⟩), .pointer (some ⟨W.heap.size, 0, none⟩)] w P)
   (h4 : k = 4 → ∀ T I w, Begun W B k lab pat tm into took is T I w → Calls Tryz.prog 61 #[.pointer (some ⟨W.heap.size, 0, none⟩), .pointer (some ⟨W.heap.size + 1, 0, none⟩)] w P) :
   Calls Tryz.prog 38 #[.pointer (some ⟨B, 0, none⟩), .agg #[.int .i64 k, .string lab, .string pat, .string tm, .string into]] W P := by
  have HP := Aside0.mk hP
  have HK := Aside0.mk hk
  have D1 := Aside0.mk h1
  have D2 := Aside0.mk h2
  have D3 := Aside0.mk h3
  have D4 := Aside0.mk h4
  clear hP hk h1 h2 h3 h4
  have hB0 : B ≠ W.heap.size := by omega
  have hbb : Below W.heap.size W ((W.alloc (Obj.cells #[Value.pointer (some { block := B, off := 0 })] 85)).alloc
      (Obj.cells #[.int .i64 k, .string lab, .string pat, .string tm, .string into] 43)) := ((Below.refl _ W).alloc (Nat.le_refl _) _).alloc (by simp) _
  go_enter Tryz.func38, Tryz.ntmps38
  go_wp2_with fail
  have k1 : ((W.alloc (Obj.cells #[Value.pointer (some { block := B, off := 0 })] 85)).alloc
      (Obj.cells #[.int .i64 k, .string lab, .string pat, .string tm, .string into] 43)).heap[W.heap.size]? = some (.cells #[.pointer (some ⟨B, 0, none⟩)] 85 (0, 0)) := blk_alloc (blk_new _ _) _
  have k2 : ((W.alloc (Obj.cells #[Value.pointer (some { block := B, off := 0 })] 85)).alloc
      (Obj.cells #[.int .i64 k, .string lab, .string pat, .string tm, .string into] 43)).heap[W.heap.size + 1]? = some (.cells #[.int .i64 k, .string lab, .string pat, .string tm, .string into] 43 (0, 0)) := by
    have := blk_new (W.alloc (Obj.cells #[Value.pointer (some { block := B, off := 0 })] 85)) (Obj.cells #[.int .i64 k, .string lab, .string pat, .string tm, .string into] 43)
    simpa using this
  have n1 : W.heap.size ≠ W.heap.size + 1 := by omega
  have c1 : ((W.alloc (Obj.cells #[Value.pointer (some { block := B, off := 0 })] 85)).alloc
      (Obj.cells #[.int .i64 k, .string lab, .string pat, .string tm, .string into] 43)).cell? ⟨W.heap.size + 1, 2, none⟩ = some (.string pat) := by simp
  have c2 : ((W.alloc (Obj.cells #[Value.pointer (some { block := B, off := 0 })] 85)).alloc
      (Obj.cells #[.int .i64 k, .string lab, .string pat, .string tm, .string into] 43)).cell? ⟨W.heap.size + 1, 1, none⟩ = some (.string lab) := by simp
  have c3 : ((W.alloc (Obj.cells #[Value.pointer (some { block := B, off := 0 })] 85)).alloc
      (Obj.cells #[.int .i64 k, .string lab, .string pat, .string tm, .string into] 43)).cell? ⟨W.heap.size, 0, none⟩ = some (.pointer (some ⟨B, 0, none⟩)) := by simp
  have hsz : ((W.alloc (Obj.cells #[Value.pointer (some { block := B, off := 0 })] 85)).alloc
      (Obj.cells #[.int .i64 k, .string lab, .string pat, .string tm, .string into] 43)).heap.size = W.heap.size + 2 := by simp
  generalize ((W.alloc (Obj.cells #[Value.pointer (some { block := B, off := 0 })] 85)).alloc
      (Obj.cells #[.int .i64 k, .string lab, .string pat, .string tm, .string into] 43)) = w1 at *
  have HBB := Aside0.mk hbb
  have HK1 := Aside0.mk k1
  have HK2 := Aside0.mk k2
  have HV : Aside0 (∀ W2, Below w1.heap.size w1 W2 → Calls Tryz.prog 41 #[.pointer (some ⟨B, 0, none⟩), .string lab] W2 fun e w' => e = .returned (.string val) ∧ Below W2.heap.size W2 w' ∧ Aside0 (Below w1.heap.size w1 w')) := ⟨fun W2 h => (hval W2 (hbb.trans (h.mono (by omega)))).mono fun e w' ⟨h1, h2⟩ => ⟨h1, h2, ⟨h.trans (h2.mono h.size)⟩⟩⟩
  have HM : Aside0 (∀ W2, Below w1.heap.size w1 W2 → Calls Tryz.prog 11 #[.string pat, .string val] W2 fun e w' => ∃ A c, e = .returned (.tuple #[.slice A took.length c, .bool is]) ∧ Below W2.heap.size W2 w' ∧ Aside0 (Mid W B k lab pat tm into took A c W2.heap.size w'.heap.size w')) := ⟨fun W2 h => (hmat W2).mono fun e w' ⟨v, h1, h3, h2⟩ => by
    obtain ⟨A, c, rfl, hle, _⟩ := Kd.R_reads h3
    have h4 := h.trans (h2.mono h.size)
    exact ⟨A, c, h1, h2, ⟨⟨hbb.trans (h4.mono (by omega)), by have := h4.size; omega, (h4.block _ (by omega)).trans k1, (h4.block _ (by omega)).trans k2, Kd.R_mono (Kd.R_bound h3) (fun _ hk => ⟨hk.2.1, hk.2.2.1⟩), hle⟩⟩⟩⟩
  clear hbb k1 k2
  clear hval hmat
  have e1 : W.heap.size ≠ w1.heap.size := by omega
  have e2 : W.heap.size + 1 ≠ w1.heap.size := by omega
  have n9 : W.heap.size ≠ W.heap.size + 2 + 1 := by omega
  have n10 : W.heap.size + 2 + 1 ≠ W.heap.size := by omega
  have n11 : W.heap.size ≠ W.heap.size + 2 := by omega
  have n12 : W.heap.size + 2 ≠ W.heap.size := by omega
  go_cut [5, 6] (fun s5 s6 wx => ∃ T I, s5 = .pointer (some ⟨T, 0, none⟩) ∧ s6 = .pointer (some ⟨I, 0, none⟩) ∧ Aside0 (Begun W B k lab pat tm into took is T I wx))
  case first =>
   go_region_held3 (fun w' => w'.cell? ⟨W.heap.size + 1, 2, none⟩ = some (.string pat) ∧ w'.cell? ⟨W.heap.size + 1, 1, none⟩ = some (.string lab) ∧ w'.cell? ⟨W.heap.size, 0, none⟩ = some (.pointer (some ⟨B, 0, none⟩))) (first | go_keep)
    (first
      | (go_at_call 11; refine (HM.out _ ?hbm).mono ?_; (case hbm => first | exact HW2.out | exact below_drew1 HW2.out | exact HW2.out.alloc HW2.out.size _ | exact below_drew1 (HW2.out.alloc HW2.out.size _) | exact (HW2.out.alloc HW2.out.size _).alloc (HW2.out.alloc HW2.out.size _).size _ | exact below_drew1 ((HW2.out.alloc HW2.out.size _).alloc (HW2.out.alloc HW2.out.size _).size _)); rintro e w3 ⟨A, c, rfl, hb3, HMID⟩; have hs3 := hb3.size; (try simp [hsz] at hs3); have r0 := hb3.cell (p := ⟨W.heap.size + 1, 2, none⟩) (by first | (simp [hsz]; done) | (simp [hsz]; omega)); have r1 := hb3.cell (p := ⟨W.heap.size + 1, 1, none⟩) (by first | (simp [hsz]; done) | (simp [hsz]; omega)); have r2 := hb3.cell (p := ⟨W.heap.size, 0, none⟩) (by first | (simp [hsz]; done) | (simp [hsz]; omega)); (try (have u0 := hb3.cell (p := ⟨W.heap.size + 2, 0, none⟩) (by first | (simp [hsz]; done) | (simp [hsz]; omega)); (try simp [hsz] at u0); (try rw [t0] at u0))); (try (have g0 := hb3.frozen (p := ⟨W.heap.size + 2, 0, none⟩) (by first | (simp [hsz]; done) | (simp [hsz]; omega)); (try simp [hsz] at g0); (try rw [f0] at g0))); (try (have u1 := hb3.cell (p := ⟨W.heap.size + 3, 0, none⟩) (by first | (simp [hsz]; done) | (simp [hsz]; omega)); (try simp [hsz] at u1); (try rw [t1] at u1))); (try (have g1 := hb3.frozen (p := ⟨W.heap.size + 3, 0, none⟩) (by first | (simp [hsz]; done) | (simp [hsz]; omega)); (try simp [hsz] at g1); (try rw [f1] at g1))); (try (have u2 := hb3.cell (p := ⟨w2.heap.size, 0, none⟩) (by first | (simp [hsz]; done) | (simp [hsz]; omega)); (try simp [hsz] at u2); (try rw [t2] at u2))); (try (have g2 := hb3.frozen (p := ⟨w2.heap.size, 0, none⟩) (by first | (simp [hsz]; done) | (simp [hsz]; omega)); (try simp [hsz] at g2); (try rw [f2] at g2))); (try (have u3 := hb3.cell (p := ⟨w2.heap.size + 1, 0, none⟩) (by first | (simp [hsz]; done) | (simp [hsz]; omega)); (try simp [hsz] at u3); (try rw [t3] at u3))); (try (have g3 := hb3.frozen (p := ⟨w2.heap.size + 1, 0, none⟩) (by first | (simp [hsz]; done) | (simp [hsz]; omega)); (try simp [hsz] at g3); (try rw [f3] at g3))); (try have zl0 : W.heap.size < w3.heap.size := (by omega)); (try have zn0 : W.heap.size ≠ w3.heap.size := (by omega)); (try have zm0 : w3.heap.size ≠ W.heap.size := (by omega)); (try have zl1 : W.heap.size + 1 < w3.heap.size := (by omega)); (try have zn1 : W.heap.size + 1 ≠ w3.heap.size := (by omega)); (try have zm1 : w3.heap.size ≠ W.heap.size + 1 := (by omega)); (try have zl2 : W.heap.size + 2 < w3.heap.size := (by omega)); (try have zn2 : W.heap.size + 2 ≠ w3.heap.size := (by omega)); (try have zm2 : w3.heap.size ≠ W.heap.size + 2 := (by omega)); (try have zl3 : W.heap.size + 3 < w3.heap.size := (by omega)); (try have zn3 : W.heap.size + 3 ≠ w3.heap.size := (by omega)); (try have zm3 : w3.heap.size ≠ W.heap.size + 3 := (by omega)); (try have zl4 : w2.heap.size < w3.heap.size := (by omega)); (try have zn4 : w2.heap.size ≠ w3.heap.size := (by omega)); (try have zm4 : w3.heap.size ≠ w2.heap.size := (by omega)); (try have zl5 : w2.heap.size + 1 < w3.heap.size := (by omega)); (try have zn5 : w2.heap.size + 1 ≠ w3.heap.size := (by omega)); (try have zm5 : w3.heap.size ≠ w2.heap.size + 1 := (by omega)); (try have vl0 : W.heap.size < w3.heap.size + 1 := (by omega)); (try have vn0 : W.heap.size ≠ w3.heap.size + 1 := (by omega)); (try have vm0 : w3.heap.size + 1 ≠ W.heap.size := (by omega)); (try have vl1 : W.heap.size + 1 < w3.heap.size + 1 := (by omega)); (try have vn1 : W.heap.size + 1 ≠ w3.heap.size + 1 := (by omega)); (try have vm1 : w3.heap.size + 1 ≠ W.heap.size + 1 := (by omega)); (try have vl2 : W.heap.size + 2 < w3.heap.size + 1 := (by omega)); (try have vn2 : W.heap.size + 2 ≠ w3.heap.size + 1 := (by omega)); (try have vm2 : w3.heap.size + 1 ≠ W.heap.size + 2 := (by omega)); (try have vl3 : W.heap.size + 3 < w3.heap.size + 1 := (by omega)); (try have vn3 : W.heap.size + 3 ≠ w3.heap.size + 1 := (by omega)); (try have vm3 : w3.heap.size + 1 ≠ W.heap.size + 3 := (by omega)); (try have vl4 : w2.heap.size < w3.heap.size + 1 := (by omega)); (try have vn4 : w2.heap.size ≠ w3.heap.size + 1 := (by omega)); (try have vm4 : w3.heap.size + 1 ≠ w2.heap.size := (by omega)); have HB3 := Aside0.mk hb3; clear hb3)
      | (go_at_call 41; refine (HV.out _ ?hbv).mono ?_; (case hbv => first | exact Below.refl _ _ | exact below_drew (Below.refl _ _) | exact below_alloc (Below.refl _ _) _ | exact below_drew (below_alloc (Below.refl _ _) _) | exact below_alloc (below_drew (Below.refl _ _)) _ | exact below_drew (below_alloc (below_alloc (Below.refl _ _) _) _) | exact below_alloc (below_alloc (below_drew (Below.refl _ _)) _) _ | exact below_alloc (below_alloc (Below.refl _ _) _) _); rintro e w2 ⟨rfl, hb, HW2⟩; have hs2 := hb.size; (try simp [hsz] at hs2); (try have yl0 : W.heap.size < w2.heap.size := (by omega)); (try have yn0 : W.heap.size ≠ w2.heap.size := (by omega)); (try have ym0 : w2.heap.size ≠ W.heap.size := (by omega)); (try have yl1 : W.heap.size + 1 < w2.heap.size := (by omega)); (try have yn1 : W.heap.size + 1 ≠ w2.heap.size := (by omega)); (try have ym1 : w2.heap.size ≠ W.heap.size + 1 := (by omega)); (try have yl2 : W.heap.size + 2 < w2.heap.size := (by omega)); (try have yn2 : W.heap.size + 2 ≠ w2.heap.size := (by omega)); (try have ym2 : w2.heap.size ≠ W.heap.size + 2 := (by omega)); (try have yl3 : W.heap.size + 3 < w2.heap.size := (by omega)); (try have yn3 : W.heap.size + 3 ≠ w2.heap.size := (by omega)); (try have ym3 : w2.heap.size ≠ W.heap.size + 3 := (by omega)); (try have xl0 : W.heap.size < w2.heap.size + 1 := (by omega)); (try have xn0 : W.heap.size ≠ w2.heap.size + 1 := (by omega)); (try have xm0 : w2.heap.size + 1 ≠ W.heap.size := (by omega)); (try have xl1 : W.heap.size + 1 < w2.heap.size + 1 := (by omega)); (try have xn1 : W.heap.size + 1 ≠ w2.heap.size + 1 := (by omega)); (try have xm1 : w2.heap.size + 1 ≠ W.heap.size + 1 := (by omega)); (try have xl2 : W.heap.size + 2 < w2.heap.size + 1 := (by omega)); (try have xn2 : W.heap.size + 2 ≠ w2.heap.size + 1 := (by omega)); (try have xm2 : w2.heap.size + 1 ≠ W.heap.size + 2 := (by omega)); (try have xl3 : W.heap.size + 3 < w2.heap.size + 1 := (by omega)); (try have xn3 : W.heap.size + 3 ≠ w2.heap.size + 1 := (by omega)); (try have xm3 : w2.heap.size + 1 ≠ W.heap.size + 3 := (by omega)); have s0 := hb.cell (p := ⟨W.heap.size + 1, 2, none⟩) (by first | (simp [hsz]; done) | (simp [hsz]; omega)); have s1 := hb.cell (p := ⟨W.heap.size + 1, 1, none⟩) (by first | (simp [hsz]; done) | (simp [hsz]; omega)); have s2 := hb.cell (p := ⟨W.heap.size, 0, none⟩) (by first | (simp [hsz]; done) | (simp [hsz]; omega)); (try (have t0 := hb.cell (p := ⟨W.heap.size + 2, 0, none⟩) (by first | (simp [hsz]; done) | (simp [hsz]; omega)); (try simp [hsz] at t0))); (try (have f0 := hb.frozen (p := ⟨W.heap.size + 2, 0, none⟩) (by first | (simp [hsz]; done) | (simp [hsz]; omega)); (try simp [hsz] at f0))); (try (have t1 := hb.cell (p := ⟨W.heap.size + 3, 0, none⟩) (by first | (simp [hsz]; done) | (simp [hsz]; omega)); (try simp [hsz] at t1))); (try (have f1 := hb.frozen (p := ⟨W.heap.size + 3, 0, none⟩) (by first | (simp [hsz]; done) | (simp [hsz]; omega)); (try simp [hsz] at f1)))))
   all_goals go_wp2_with fail
   all_goals go_meet
   all_goals refine ⟨_, _, rfl, rfl, ⟨?_⟩⟩
   all_goals clear HV HM c1 c2 c3
   all_goals (first
    | exact begun_aa HMID.out
    | exact begun_aa2 HMID.out
    | (with_reducible refine begun_sa HMID.out _ ?_ ?_ ?_)
    | (with_reducible refine begun_sa2 HMID.out _ ?_ ?_ ?_)
    | (with_reducible refine begun_ss HMID.out _ _ ?_ ?_ ?_ ?_ ?_ ?_ ?_))
   all_goals clear HMID
   all_goals first
    | omega
    | (simp only [World.alloc, Array.size_push]; omega)
    | exact ⟨_, u2⟩
    | exact ⟨_, u3⟩
    | exact ⟨_, u0.trans (cell_at _ _ _ _ hsz.symm)⟩
    | exact ⟨_, u0.trans (cell_al _ _ _ _ (cell_at _ _ _ _ hsz.symm))⟩
    | exact ⟨_, u0.trans (cell_al _ _ _ _ (t0.trans (cell_at _ _ _ _ hsz.symm)))⟩
    | exact ⟨_, u0.trans (cell_al _ _ _ _ (t0.trans (cell_al _ _ _ _ (cell_at _ _ _ _ hsz.symm))))⟩
    | exact ⟨_, u0.trans (t0.trans (cell_at _ _ _ _ hsz.symm))⟩
    | exact ⟨_, u0.trans (t0.trans (cell_al _ _ _ _ (cell_at _ _ _ _ hsz.symm)))⟩
    | exact ⟨_, u1.trans (cell_at _ _ _ _ (by simp [hsz]))⟩
    | exact ⟨_, u1.trans (t1.trans (cell_at _ _ _ _ (by simp [hsz])))⟩
  case rest =>
    obtain ⟨T, I, rfl, rfl, HBG⟩ := hcut
    clear HV HM HBB HK1 HK2 c1 c2 c3 hsz e1 e2 n1 n9 n10 n11 n12 hBl hB0
    have hmk : ∀ W, (Instr.makeMap 116 none).run Tryz.prog W = .ok (.map (some W.heap.size)) (W.alloc (.map #[] 0)) := fun W => run_makeMap _ _
    go_wp2_with (first
      | (refine wpList_insertF _ rfl (.tmp 18) (.const (.int .i64 1)) (.tmp 19) rfl _ 0 (.map []) rfl (World.ownsMap_made _ _ _ _) (by decide) 1 (.func (.func 57) #[] #[.pointer (some ⟨I, 0, none⟩)]) rfl (by decide) rfl ?_; intro w2 o2 g2)
      | (refine wpList_insertF _ rfl (.tmp 18) (.const (.int .i64 2)) (.tmp 20) rfl _ 1 _ rfl o2 (by decide) 2 (.func (.func 58) #[] #[.pointer (some ⟨I, 0, none⟩)]) rfl (by decide) rfl ?_; intro w3 o3 g3)
      | (refine wpList_insertF _ rfl (.tmp 18) (.const (.int .i64 3)) (.tmp 21) rfl _ 2 _ rfl o3 (by decide) 3 (.func (.func 59) #[] #[.pointer (some ⟨I, 0, none⟩), .pointer (some ⟨W.heap.size + 1, 0, none⟩), .pointer (some ⟨T, 0, none⟩), .pointer (some ⟨W.heap.size, 0, none⟩)]) rfl (by decide) rfl ?_; intro w4 o4 g4)
      | (refine wpList_insertF _ rfl (.tmp 18) (.const (.int .i64 4)) (.tmp 22) rfl _ 3 _ rfl o4 (by decide) 4 (.func (.func 61) #[] #[.pointer (some ⟨W.heap.size, 0, none⟩), .pointer (some ⟨W.heap.size + 1, 0, none⟩)]) rfl (by decide) rfl ?_; intro w5 o5 g5; have o6 := Aside0.mk o5; have b5 := Aside0.mk (below_four g2 g3 g4 g5); clear o2 o3 o4 o5 g2 g3 g4 g5; have HB5 := Aside0.mk (begun_below HBG.out b5.out); clear b5 HBG; have kc : w5.cell? ⟨W.heap.size + 1, 0, none⟩ = some (.int .i64 k) := (blk_cell HB5.out.rule 0).trans rfl; have hlk := deed_at o6.out HK.out; clear o6; have hK := HK.out; clear HK; rcases hK with rfl | rfl | rfl | rfl <;> (simp only [deedV, if_true, if_false, show ¬ ((2 : Int) = 1) by decide, show ¬ ((3 : Int) = 1) by decide, show ¬ ((3 : Int) = 2) by decide, show ¬ ((4 : Int) = 1) by decide, show ¬ ((4 : Int) = 2) by decide, show ¬ ((4 : Int) = 3) by decide] at hlk))
      | (refine (D1.out rfl T I w5 HB5.out).mono ?_; rintro e w6 hp; obtain ⟨r, rfl⟩ := HP.out _ _ hp)
      | (refine (D2.out rfl T I w5 HB5.out).mono ?_; rintro e w6 hp; obtain ⟨r, rfl⟩ := HP.out _ _ hp)
      | (refine (D3.out rfl T I w5 HB5.out).mono ?_; rintro e w6 hp; obtain ⟨r, rfl⟩ := HP.out _ _ hp)
      | (refine (D4.out rfl T I w5 HB5.out).mono ?_; rintro e w6 hp; obtain ⟨r, rfl⟩ := HP.out _ _ hp))
    all_goals exact hp
end Go.Proofs.YtcikjeiebpmmcaaGreat
namespace Go.Proofs.YtcikjeiebpmmcaaGreat
open Go.RowKit Go.Proofs.YtcikjeiebpmmcaaGreatW.PrintWords Go.Proofs.YtcikjeiebpmmcaaGreatW.PrintLast Go.Proofs.YtcikjeiebpmmcaaGreatW.PrintMore Go.Sort Go.Shelf
set_option linter.unusedVariables false
set_option linter.unusedSimpArgs false
def oneF {α : Type} (nm : α → ByteArray) (mk : ByteArray → ByteArray → α) (g : α → Bool) (k : Int) (into x : ByteArray) (is : Bool) (m : ByteArray) (l : List α) : ByteArray × List α × Bool :=
  if k = 1 then (m, l, is) else if k = 2 then (m, l, !is) else if k = 3 then (if is then ((setF nm mk m l into x).1, (setF nm mk m l into x).2, true) else (m, l, true)) else (m, l.filter fun x => !g x, true)
theorem one_calls {α : Type} (d : Kd α) (nm vl : α → ByteArray) (mk : ByteArray → ByteArray → α) (hn : ∀ a b, nm (mk a b) = a) (hv : ∀ a b, vl (mk a b) = b) (hz : d.sz = 2) (hE : d.E = []) (hK1 : ∀ {w x c}, d.K w x c → c = encL nm vl x) (hM1 : ∀ {w base ok x c}, d.M w base ok x c → c = encL nm vl x) (hM2 : ∀ w base ok x, d.M w base ok x (encL nm vl x))
    (M : ByteArray → ByteArray → Option (List ByteArray × Bool)) (hM : MatchC M) (F : ByteArray → List ByteArray → Option (ByteArray × Bool)) (hF : FillC F)
    (g : α → Bool) (k : Int) (lab pat tm into x : ByteArray) (took : List ByteArray) (is fo : Bool) (B : Nat) (m : ByteArray) (v : Value) (l : List α) (W : World) (base : Nat)
    (hk : k = 1 ∨ k = 2 ∨ k = 3 ∨ k = 4) (hm : M pat (valueF nm vl m l lab) = some (took, is)) (hf : k = 3 → is = true → F tm took = some (x, fo)) (hg : k = 4 → ∀ y ∈ l, ∃ r, M pat (nm y) = some (r, g y))
    (hB : W.heap[B]? = some (.cells #[.string m, v] 87 (0, 0))) (hR : d.R 96 W base (fun _ => True) v l) (hbase : base ≤ B) (hl : l.length ≤ 1099511627776) :
    Calls Tryz.prog 38 #[.pointer (some ⟨B, 0, none⟩), .agg #[.int .i64 k, .string lab, .string pat, .string tm, .string into]] W fun e w' => e = .returned (.bool (oneF nm mk g k into x is m l).2.2) ∧
      ∃ v', w'.heap[B]? = some (.cells #[.string (oneF nm mk g k into x is m l).1, v'] 87 (0, 0)) ∧ d.R 96 w' base (fun _ => True) v' (oneF nm mk g k into x is m l).2.1 ∧ Below base W w' := by
  have hBl := blk_lt hB
  have hbs : base ≤ W.heap.size := by omega
  refine one_region B W k lab pat tm into (valueF nm vl m l lab) took is hBl ?_ (fun W2 => (hM pat _ took is W2 hm).mono fun e w' h => h) _ (fun e w' h => ⟨_, h.1⟩) hk ?_ ?_ ?_ ?_
  · intro W2 hb2
    have hR2 := Kd.R_below hR hb2
    obtain ⟨A, c, rfl, hle, hC⟩ := Kd.R_reads hR2
    exact value_calls d nm vl hz hK1 B m A c l lab W2 (blk_below hB hb2) hC hl
  · rintro rfl T I w hb
    refine (keep_cl I is w hb.is).mono ?_
    rintro e w' ⟨rfl, rfl⟩
    exact ⟨rfl, v, blk_below hB hb.below, Kd.R_below hR hb.below, hb.below.mono hbs⟩
  · rintro rfl T I w hb
    refine (drop_cl I is w hb.is).mono ?_
    rintro e w' ⟨rfl, rfl⟩
    exact ⟨rfl, v, blk_below hB hb.below, Kd.R_below hR hb.below, hb.below.mono hbs⟩
  · rintro rfl T I w hb
    cases is with
    | false =>
      refine (miss_cl I (W.heap.size + 1) T W.heap.size w hb.is).mono ?_
      rintro e w' ⟨rfl, rfl⟩
      exact ⟨rfl, v, blk_below hB hb.below, Kd.R_below hR hb.below, hb.below.mono hbs⟩
    | true =>
      obtain ⟨A, c, hT, hle, hC⟩ := hb.took
      refine (fills_cl d nm vl mk hn hv hz hE hK1 hM1 hM2 F hF tm into x took fo (hf rfl rfl) I (W.heap.size + 1) T W.heap.size B A c hle m v l w base hb.is ((blk_cell hb.rule 3).trans rfl) ((blk_cell hb.rule 4).trans rfl) hT ((blk_cell hb.box 0).trans rfl) hC (blk_below hB hb.below) (Kd.R_below hR hb.below) hbase hl).mono ?_
      rintro e w' ⟨rfl, v', h1, h2, h3⟩
      exact ⟨rfl, v', h1, h2, (hb.below.mono hbs).trans h3⟩
  · rintro rfl T I w hb
    refine (remove_cl d nm vl hz hE hK1 hM1 hM2 M hM pat g (W.heap.size + 1) W.heap.size B m v l w base _ _ _ _ (hg rfl) hb.rule hb.box (blk_below hB hb.below) (Kd.R_below hR hb.below) hbase hl).mono ?_
    rintro e w' ⟨rfl, v', h1, h2, h3⟩
    exact ⟨rfl, v', h1, h2, (hb.below.mono hbs).trans h3⟩
end Go.Proofs.YtcikjeiebpmmcaaGreat
namespace Go.Proofs.YtcikjeiebpmmcaaGreat
open Go.RowKit Go.Proofs.YtcikjeiebpmmcaaGreatW.PrintWords Go.Proofs.YtcikjeiebpmmcaaGreatW.PrintLast Go.Proofs.YtcikjeiebpmmcaaGreatW.PrintMore Go.Sort Go.Shelf
set_option linter.unusedVariables false
set_option linter.unusedSimpArgs false
section
variable {α : Type} (nm vl : α → ByteArray) (mk : ByteArray → ByteArray → α) (M : ByteArray → ByteArray → Option (List ByteArray × Bool)) (F : ByteArray → List ByteArray → Option (ByteArray × Bool))
def stepF (k : Int) (lab pat tm into : ByteArray) (m : ByteArray) (l : List α) : Option (ByteArray × List α × Bool) :=
  if (k = 1 ∨ k = 2 ∨ k = 3 ∨ k = 4) ∧ l.length ≤ 1099511627776 then
    (M pat (valueF nm vl m l lab)).bind fun t =>
      if k = 3 ∧ t.2 = true then (F tm t.1).bind fun y => some (oneF nm mk (fun _ => false) k into y.1 t.2 m l)
      else if k = 4 then (if ∀ y ∈ l, (M pat (nm y)).isSome = true then some (oneF nm mk (fun y => ((M pat (nm y)).map (·.2)).getD false) k into ⟨#[]⟩ t.2 m l) else none)
      else some (oneF nm mk (fun _ => false) k into ⟨#[]⟩ t.2 m l)
  else none
end
theorem step_calls {α : Type} (d : Kd α) (nm vl : α → ByteArray) (mk : ByteArray → ByteArray → α) (hn : ∀ a b, nm (mk a b) = a) (hv : ∀ a b, vl (mk a b) = b) (hz : d.sz = 2) (hE : d.E = []) (hK1 : ∀ {w x c}, d.K w x c → c = encL nm vl x) (hM1 : ∀ {w base ok x c}, d.M w base ok x c → c = encL nm vl x) (hM2 : ∀ w base ok x, d.M w base ok x (encL nm vl x))
    (M : ByteArray → ByteArray → Option (List ByteArray × Bool)) (hM : MatchC M) (F : ByteArray → List ByteArray → Option (ByteArray × Bool)) (hF : FillC F)
    (k : Int) (lab pat tm into : ByteArray) (B : Nat) (m : ByteArray) (v : Value) (l : List α) (W : World) (base : Nat) (m' : ByteArray) (l' : List α) (go : Bool)
    (hs : stepF nm vl mk M F k lab pat tm into m l = some (m', l', go))
    (hB : W.heap[B]? = some (.cells #[.string m, v] 87 (0, 0))) (hR : d.R 96 W base (fun _ => True) v l) (hbase : base ≤ B) :
    Calls Tryz.prog 38 #[.pointer (some ⟨B, 0, none⟩), .agg #[.int .i64 k, .string lab, .string pat, .string tm, .string into]] W fun e w' => e = .returned (.bool go) ∧
      ∃ v', w'.heap[B]? = some (.cells #[.string m', v'] 87 (0, 0)) ∧ d.R 96 w' base (fun _ => True) v' l' ∧ Below base W w' := by
  have key : ∃ g x took is fo, M pat (valueF nm vl m l lab) = some (took, is) ∧ (k = 3 → is = true → F tm took = some (x, fo)) ∧ (k = 4 → ∀ y ∈ l, ∃ r, M pat (nm y) = some (r, g y)) ∧ oneF nm mk g k into x is m l = (m', l', go) := by
    unfold stepF at hs
    split at hs
    · obtain ⟨⟨took, is⟩, ht, hs⟩ := Option.bind_eq_some_iff.1 hs
      split at hs
      · rename_i hc
        obtain ⟨⟨x, fo⟩, hx, hs⟩ := Option.bind_eq_some_iff.1 hs
        exact ⟨_, x, took, is, fo, ht, fun _ _ => hx, fun h4 => absurd (hc.1.symm.trans h4) (by decide), Option.some.inj hs⟩
      · rename_i hc
        split at hs
        · rename_i h4
          split at hs
          · rename_i ha
            refine ⟨_, _, took, is, true, ht, fun h3 => absurd (h4.symm.trans h3) (by decide), fun _ y hy => ?_, Option.some.inj hs⟩
            obtain ⟨⟨r, b⟩, hr⟩ := Option.isSome_iff_exists.1 (ha y hy)
            refine ⟨r, ?_⟩
            rw [hr]
            rfl
          · cases hs
        · rename_i h4
          exact ⟨_, _, took, is, true, ht, fun h3 hi => absurd ⟨h3, hi⟩ hc, fun h => absurd h h4, Option.some.inj hs⟩
    · cases hs
  have hkl : (k = 1 ∨ k = 2 ∨ k = 3 ∨ k = 4) ∧ l.length ≤ 1099511627776 := by
    by_cases h : (k = 1 ∨ k = 2 ∨ k = 3 ∨ k = 4) ∧ l.length ≤ 1099511627776
    · exact h
    · unfold stepF at hs
      rw [if_neg h] at hs
      cases hs
  obtain ⟨g, x, took, is, fo, h1, h2, h3, h4⟩ := key
  have := one_calls d nm vl mk hn hv hz hE hK1 hM1 hM2 M hM F hF g k lab pat tm into x took is fo B m v l W base hkl.1 h1 h2 h3 hB hR hbase hkl.2
  rw [h4] at this
  exact this
end Go.Proofs.YtcikjeiebpmmcaaGreat
namespace Go.Proofs.YtcikjeiebpmmcaaGreat
open Go.RowKit Go.Proofs.YtcikjeiebpmmcaaGreatW.PrintWords Go.Proofs.YtcikjeiebpmmcaaGreatW.PrintLast Go.Proofs.YtcikjeiebpmmcaaGreatW.PrintMore Go.Sort Go.Shelf
set_option linter.unusedVariables false
set_option linter.unusedSimpArgs false
section
variable {α β : Type} (step : β → ByteArray → List α → Option (ByteArray × List α × Bool)) (NF : ByteArray → List α → Option (ByteArray × Int))
def goF : List β → ByteArray → List α → ByteArray → Option (ByteArray × Bool × Int)
  | [], _, _, n => some (n, true, 0)
  | r :: rs, m, l, _ => (step r m l).bind fun t => if t.2.2 = false then some (⟨#[]⟩, false, 0) else (NF t.1 t.2.1).bind fun s => if s.2 = 0 then goF rs t.1 t.2.1 s.1 else some (⟨#[]⟩, false, s.2)
end
set_option maxHeartbeats 4000000 in
theorem apply_calls {α β : Type} (d : Kd α) (ek : Kd β) (kd : β → Int) (lb pt tm it : β → ByteArray) (hez : ek.sz = 5) (heK : ∀ {w x c}, ek.K w x c → c = [.int .i64 (kd x), .string (lb x), .string (pt x), .string (tm x), .string (it x)])
    (step : β → ByteArray → List α → Option (ByteArray × List α × Bool)) (NF : ByteArray → List α → Option (ByteArray × Int))
    (A : Option Addr) (c : Nat) (rs : List β) (name : ByteArray) (W : World) (hC : ek.C W A rs.length rs) (hrs : rs.length ≤ 1099511627776) (m : ByteArray) (ls : List α)
    (hMay : Calls Tryz.prog 17 #[.slice A rs.length c] W fun e w' => e = .returned (.bool true) ∧ Below W.heap.size W w')
    (hParse : ∀ W2, Below W.heap.size W W2 → Calls Tryz.prog 37 #[.string name] W2 fun e w' => ∃ v, e = .returned (.tuple #[.string m, v, .int .i64 0]) ∧ d.R 96 w' W2.heap.size (fun _ => True) v ls ∧ Below W2.heap.size W2 w')
    (hName : ∀ m l s er W2 A c, NF m l = some (s, er) → d.C W2 A l.length l → l.length ≤ c → Calls Tryz.prog 39 #[.string m, .slice A l.length c] W2 fun e w' => e = .returned (.tuple #[.string s, .int .i64 er]) ∧ Below W2.heap.size W2 w')
    (hStep : ∀ r m l m' l' go B v W base, step r m l = some (m', l', go) → W.heap[B]? = some (.cells #[.string m, v] 87 (0, 0)) → d.R 96 W base (fun _ => True) v l → base ≤ B →
      Calls Tryz.prog 38 #[.pointer (some ⟨B, 0, none⟩), .agg #[.int .i64 (kd r), .string (lb r), .string (pt r), .string (tm r), .string (it r)]] W fun e w' => e = .returned (.bool go) ∧
        ∃ v', w'.heap[B]? = some (.cells #[.string m', v'] 87 (0, 0)) ∧ d.R 96 w' base (fun _ => True) v' l' ∧ Below base W w')
    (r1 : ByteArray) (r2 : Bool) (r3 : Int) (h : goF step NF rs m ls name = some (r1, r2, r3)) :
    Calls Tryz.prog 19 #[.slice A rs.length c, .string name] W fun e w' => e = .returned (.tuple #[.string r1, .bool r2, .int .i64 r3]) ∧ Below W.heap.size W w' := by
  have HC := Aside0.mk hC
  have HN := Aside0.mk hName
  have HS := Aside0.mk hStep
  have HP := Aside0.mk hParse
  have HH := Aside0.mk h
  clear hC hName hStep hParse h
  go_enter Tryz.func19, Tryz.ntmps19
  go_wp2_with fail
  refine hMay.mono ?_
  rintro e w1 ⟨rfl, hb1⟩
  have hp1 := HP.out w1 hb1
  have HB1 := Aside0.mk hb1
  clear hMay hb1
  go_wp2_with fail
  refine hp1.mono ?_
  rintro e w2 ⟨v, rfl, hR2, hb2⟩
  obtain ⟨A2, c2, rfl⟩ := Kd.R_slice hR2
  have HR2 := Aside0.mk hR2
  have HB2 := Aside0.mk hb2
  clear hp1 hR2 hb2 HP
  have hle1 : W.heap.size ≤ w1.heap.size := HB1.out.size
  have hle2 : w1.heap.size ≤ w2.heap.size := HB2.out.size
  go_wp2_with fail
  have HX : Aside0 (∃ v', (w2.alloc (.cells #[.string m, .slice A2 ls.length c2] 87)).heap[w2.heap.size]? = some (.cells #[.string m, v'] 87 (0, 0)) ∧ d.R 96 (w2.alloc (.cells #[.string m, .slice A2 ls.length c2] 87)) w1.heap.size (fun _ => True) v' ls) :=
    ⟨_, blk_new _ _, Kd.R_below HR2.out ((Below.refl _ w2).alloc (Nat.le_refl _) _)⟩
  have HW : Aside0 (Below W.heap.size W (w2.alloc (.cells #[.string m, .slice A2 ls.length c2] 87))) := ⟨(HB1.out.trans (HB2.out.mono hle1)).alloc (by omega) _⟩
  clear HB1 HB2 HR2
  go_loopw [31, 1] (fun v vn wr => ∃ (i : Nat) (m' n' : ByteArray) (l' : List α), i ≤ rs.length ∧ v = .int .i64 i ∧ vn = .string n' ∧ Aside0 (Below W.heap.size W wr) ∧ Aside0 (∃ v', wr.heap[w2.heap.size]? = some (.cells #[.string m', v'] 87 (0, 0)) ∧ d.R 96 wr w1.heap.size (fun _ => True) v' l') ∧ Aside0 (goF step NF (rs.drop i) m' l' n' = some (r1, r2, r3))) (fun v _ _ => rs.length - (intOf v).toNat)
  case atStart => exact ⟨0, m, name, ls, Nat.zero_le _, by go_num, rfl, HW, HX, HH⟩
  case round =>
    clear HX HW HH
    obtain ⟨i, m', n', l', hi, rfl, rfl, HB, HX, HH⟩ := hrel
    by_cases hlt : i < rs.length
    · have hlti : (i : Int) < (rs.length : Int) := by omega
      obtain ⟨g, off, rfl, hg, hc⟩ := C_at HC.out (by omega) (by omega)
      obtain ⟨cs, _, hK, hcell⟩ := hc i rs[i] (List.getElem?_eq_getElem hlt)
      rw [hez, heK hK] at hcell
      have g0 : wr.cell? ⟨g, off + i * 5, none⟩ = some (.int .i64 (kd rs[i])) := (HB.out.cell (p := ⟨g, off + i * 5, none⟩) hg).trans (by simpa using hcell 0 _ rfl)
      have g1 : wr.cell? ⟨g, off + i * 5 + 1, none⟩ = some (.string (lb rs[i])) := (HB.out.cell (p := ⟨g, off + i * 5 + 1, none⟩) hg).trans (by simpa using hcell 1 _ rfl)
      have g2 : wr.cell? ⟨g, off + i * 5 + 2, none⟩ = some (.string (pt rs[i])) := (HB.out.cell (p := ⟨g, off + i * 5 + 2, none⟩) hg).trans (by simpa using hcell 2 _ rfl)
      have g3 : wr.cell? ⟨g, off + i * 5 + 3, none⟩ = some (.string (tm rs[i])) := (HB.out.cell (p := ⟨g, off + i * 5 + 3, none⟩) hg).trans (by simpa using hcell 3 _ rfl)
      have g4 : wr.cell? ⟨g, off + i * 5 + 4, none⟩ = some (.string (it rs[i])) := (HB.out.cell (p := ⟨g, off + i * 5 + 4, none⟩) hg).trans (by simpa using hcell 4 _ rfl)
      have hh := HH.out
      rw [List.drop_eq_getElem_cons hlt] at hh
      unfold goF at hh
      obtain ⟨⟨m2, l2, go⟩, hs, hh⟩ := Option.bind_eq_some_iff.1 hh
      obtain ⟨vx, hX, hRx⟩ := HX.out
      have hst := fun W2 (hb : Below wr.heap.size wr W2) => HS.out rs[i] m' l' m2 l2 go w2.heap.size vx W2 w1.heap.size hs (blk_below hX hb) (Kd.R_below hRx hb) hle2
      have hst1 := hst _ ((Below.refl _ wr).alloc (Nat.le_refl _) (.cells #[.int .i64 (kd rs[i]), .string (lb rs[i]), .string (pt rs[i]), .string (tm rs[i]), .string (it rs[i])] 43))
      have HHH := Aside0.mk hh
      have HLT := Aside0.mk hlt
      have HBB : Aside0 (Below W.heap.size W (wr.alloc (.cells #[.int .i64 (kd rs[i]), .string (lb rs[i]), .string (pt rs[i]), .string (tm rs[i]), .string (it rs[i])] 43))) := ⟨HB.out.alloc HB.out.size _⟩
      clear hc hcell hK hh hs hX hRx HX HH hst HB
      generalize rs[i] = x at *
      go_wp2_with fail
      refine hst1.mono ?_
      rintro e w3 ⟨rfl, v3, hX3, hR3, hb3⟩
      obtain ⟨A3, c3, hv3, hle3, hC3⟩ := Kd.R_reads hR3
      subst hv3
      have hb03 : Below W.heap.size W w3 := HBB.out.trans (hb3.mono hle1)
      have HB3 := Aside0.mk hb03
      have HX3 : Aside0 (∃ v', w3.heap[w2.heap.size]? = some (.cells #[.string m2, v'] 87 (0, 0)) ∧ d.R 96 w3 w1.heap.size (fun _ => True) v' l2) := ⟨_, hX3, hR3⟩
      cases go with
      | false =>
        clear hX3 hR3 hC3 hst1 g0 g1 g2 g3 g4
        go_wp2_with fail
        go_ret3
        have hq := HHH.out
        obtain ⟨rfl, rfl, rfl⟩ : (⟨#[]⟩ : ByteArray) = r1 ∧ false = r2 ∧ (0 : Int) = r3 := by simpa using hq
        exact ⟨rfl, HB3.out⟩
      | true =>
        have hq := HHH.out
        rw [if_neg (by simp)] at hq
        obtain ⟨⟨s, er⟩, hn, hq⟩ := Option.bind_eq_some_iff.1 hq
        have q0 : w3.cell? ⟨w2.heap.size, 0, none⟩ = some (.string m2) := (blk_cell hX3 0).trans rfl
        have q1 : w3.cell? ⟨w2.heap.size, 1, none⟩ = some (.slice A3 l2.length c3) := (blk_cell hX3 1).trans rfl
        have hn1 : ∀ W2, Below w3.heap.size w3 W2 → Calls Tryz.prog 39 #[.string m2, .slice A3 l2.length c3] W2 fun e w' => e = .returned (.tuple #[.string s, .int .i64 er]) ∧ w'.cell? ⟨w2.heap.size, 0, none⟩ = some (.string m2) ∧ w'.cell? ⟨w2.heap.size, 1, none⟩ = some (.slice A3 l2.length c3) ∧ Aside0 (Below w3.heap.size w3 w') := fun W2 hb => (HN.out m2 l2 s er W2 A3 c3 hn (Kd.C_below hC3 hb) hle3).mono fun e w' ⟨h1, h2⟩ => by
          have h3 := hb.trans (h2.mono hb.size)
          exact ⟨h1, (h3.cell (p := ⟨w2.heap.size, 0, none⟩) (World.block_lt_of_cell? w3 _ q0)).trans q0, (h3.cell (p := ⟨w2.heap.size, 1, none⟩) (World.block_lt_of_cell? w3 _ q1)).trans q1, ⟨h3⟩⟩
        have hn2 := hn1 _ (below_drew (Below.refl w3.heap.size w3))
        have HQ := Aside0.mk hq
        clear hX3 hR3 hC3 hst1 g0 g1 g2 g3 g4 hn1 hq hn HHH HBB
        clear hlti
        go_wp2_with fail
        go_region_held3 (fun w' => w'.cell? ⟨w2.heap.size, 0, none⟩ = some (.string m2) ∧ w'.cell? ⟨w2.heap.size, 1, none⟩ = some (.slice A3 l2.length c3)) (first | go_keep)
          (first
            | (go_at_call 39; refine hn2.mono ?_; rintro e w4 ⟨rfl, k0, k1, hB4⟩))
        have HB5 : Aside0 (Below W.heap.size W w4) := ⟨HB3.out.trans (hB4.out.mono HB3.out.size)⟩
        have HX5 : Aside0 (∃ v', w4.heap[w2.heap.size]? = some (.cells #[.string m2, v'] 87 (0, 0)) ∧ d.R 96 w4 w1.heap.size (fun _ => True) v' l2) := by
          obtain ⟨v', z1, z2⟩ := HX3.out
          exact ⟨v', blk_below z1 hB4.out, Kd.R_below z2 hB4.out⟩
        have hqq := HQ.out
        by_cases her : er = 0
        · subst her
          rw [if_pos rfl] at hqq
          have HQ2 := Aside0.mk hqq
          clear hqq HQ hn2 q0 q1 k0 k1 hB4 HB3 HX3
          go_wp2
          go_roundw
          case rel => exact ⟨i + 1, m2, s, l2, by have := HLT.out; omega, by go_num, rfl, HB5, HX5, HQ2⟩
          case measure => have := HLT.out; simp [intOf]; omega
        · rw [if_neg her] at hqq
          obtain ⟨rfl, rfl, rfl⟩ : (⟨#[]⟩ : ByteArray) = r1 ∧ false = r2 ∧ er = r3 := by simpa using hqq
          have herb : (er == 0) = false := by simpa using her
          clear hqq HQ hn2 q0 q1 k0 k1 hB4 HB3 HX3
          go_wp2
          go_ret3
          exact ⟨rfl, HB5.out⟩
    · obtain rfl : i = rs.length := by omega
      have hlti : ¬ (rs.length : Int) < (rs.length : Int) := by omega
      have hh := HH.out
      rw [List.drop_length] at hh
      have HE := Aside0.mk hh
      clear hh HH HX
      go_wp2_with fail
      go_ret3
      obtain ⟨rfl, rfl, rfl⟩ : n' = r1 ∧ true = r2 ∧ (0 : Int) = r3 := by simpa [goF] using HE.out
      exact ⟨rfl, HB.out⟩
end Go.Proofs.YtcikjeiebpmmcaaGreat
namespace Go.Proofs.YtcikjeiebpmmcaaGreat
open Go.RowKit Go.Proofs.YtcikjeiebpmmcaaGreatW.PrintWords Go.Proofs.YtcikjeiebpmmcaaGreatW.PrintLast Go.Proofs.YtcikjeiebpmmcaaGreatW.PrintMore Go.Sort Go.Shelf
set_option linter.unusedVariables false
set_option linter.unusedSimpArgs false
theorem rule_index_none (A : Option Addr) (c : Nat) (fv : Value) (w : World) : Calls Tryz.prog 51 #[.slice A 0 c, fv] w fun e w' => e = .returned (.int .i64 (-1)) ∧ w' = w := by
  go_enter Tryz.func51, Tryz.ntmps51
  go_wp2
  refine wp_loop_rounds 1 ?_
  rw [rounds_succ]
  go_wp2
  go_ret
  exact ⟨rfl, rfl⟩
theorem rule_any_none (A : Option Addr) (c : Nat) (fv : Value) (w : World) : Calls Tryz.prog 33 #[.slice A 0 c, fv] w fun e w' => e = .returned (.bool false) ∧ w' = w := by
  go_enter Tryz.func33, Tryz.ntmps33
  go_wp2_with (go_at_call 51; refine (rule_index_none A c fv w).mono ?_; rintro e w' ⟨rfl, rfl⟩)
  go_ret
  exact ⟨rfl, rfl⟩
theorem mays_cl (k : Int) (s1 s2 s3 s4 : ByteArray) (b : Bool) (W : World)
    (h : ∀ W2, Below W.heap.size W W2 → Calls Tryz.prog 35 #[.agg #[.int .i64 k, .string s1, .string s2, .string s3, .string s4]] W2 fun e w' => e = .returned (.bool b) ∧ Below W2.heap.size W2 w') :
    Calls Tryz.prog 34 #[.agg #[.int .i64 k, .string s1, .string s2, .string s3, .string s4]] W fun e w' => e = .returned (.bool (!b)) ∧ Below W.heap.size W w' := by
  have hB := (Below.refl W.heap.size W).alloc (Nat.le_refl _) (.cells #[.int .i64 k, .string s1, .string s2, .string s3, .string s4] 43)
  have h1 := h _ hB
  clear h
  go_enter Tryz.func34, Tryz.ntmps34
  go_wp2_with fail
  refine h1.mono ?_
  rintro e w2 ⟨rfl, hb2⟩
  have HB2 := Aside0.mk (hB.trans (hb2.mono hB.size))
  clear h1 hb2 hB
  go_wp2
  go_ret
  exact ⟨rfl, HB2.out⟩
theorem mays_calls {β : Type} (ek : Kd β) (kd : β → Int) (lb pt tm it : β → ByteArray) (hez : ek.sz = 5) (heK : ∀ {w x c}, ek.K w x c → c = [.int .i64 (kd x), .string (lb x), .string (pt x), .string (tm x), .string (it x)]) (p : β → Bool)
    (A : Option Addr) (c : Nat) (l : List β) (w : World) (hC : ek.C w A l.length l)
    (hW : ∀ x ∈ l, ∀ W2, Calls Tryz.prog 35 #[.agg #[.int .i64 (kd x), .string (lb x), .string (pt x), .string (tm x), .string (it x)]] W2 fun e w' => e = .returned (.bool (p x)) ∧ Below W2.heap.size W2 w') :
    Calls Tryz.prog 17 #[.slice A l.length c] w fun e w' => e = .returned (.bool (l.all p)) ∧ Below w.heap.size w w' := by
  have hany : Calls Tryz.prog 33 #[.slice A l.length c, .func (.func 34) #[] #[]] w fun e w' => e = .returned (.bool (l.any fun x => !p x)) ∧ Below w.heap.size w w' := by
    rcases l with _ | ⟨x0, r⟩
    · refine (rule_any_none A c _ w).mono ?_
      rintro e w' ⟨rfl, rfl⟩
      exact ⟨rfl, Below.refl _ _⟩
    · have hx0 : x0 ∈ x0 :: r := by simp
      generalize hxs : x0 :: r = xs at *
      have hn : 0 < xs.length := by rw [← hxs]; simp
      haveI : Inhabited {x : β // x ∈ xs} := ⟨⟨x0, hx0⟩⟩
      obtain ⟨b, off, rfl, hb, hc⟩ := C_at hC hn (by omega)
      have eg : ∀ args w, (callFunc 34 args).run Tryz.prog w = .ok (.enter 34 args) w := enters_of Tryz.func34 (by kernel_rfl) rfl
      have hp : PredBelow Tryz.prog 34 #[] (fun x : {x : β // x ∈ xs} => .agg ([.int .i64 (kd x.1), .string (lb x.1), .string (pt x.1), .string (tm x.1), .string (it x.1)] : List Value).toArray) (fun x => !p x.1) w := fun W x hB =>
        (mays_cl (kd x.1) (lb x.1) (pt x.1) (tm x.1) (it x.1) (p x.1) W (fun W2 _ => hW x.1 x.2 W2)).mono fun e w' ⟨h1, h2⟩ => ⟨h1, hB.trans (h2.mono hB.size)⟩
      have hcon := AnyQ.slices_ContainsFunc (P := Tryz.prog) (ρ := Tryz.containsR_ren) Tryz.containsR 5 Tryz.isAgg43 Tryz.sizeOf43 (fun x : {x : β // x ∈ xs} => [.int .i64 (kd x.1), .string (lb x.1), .string (pt x.1), .string (tm x.1), .string (it x.1)]) (fun _ => rfl)
        (fun x => !p x.1) 34 #[] eg b off xs.length c xs.attach w hp (by simp) hC.2.1 hb (fun j hj i v hi => by
          have hj' : j < xs.length := by simpa using hj
          obtain ⟨cs, hcl, hK, hcell⟩ := hc j xs[j] (List.getElem?_eq_getElem hj')
          rw [hez] at hcell
          refine hcell i v ?_
          rw [heK hK]
          rw [getElem!_pos xs.attach j hj] at hi
          simpa using hi)
      refine hcon.mono ?_
      rintro e w' ⟨rfl, hB⟩
      refine ⟨?_, hB⟩
      congr 2
      rw [List.take_of_length_le (by simp)]
      conv => rhs; rw [← List.attach_map_subtype_val xs, List.any_map]
      rfl
  have e : l.all p = !(l.any fun x => !p x) := by
    rw [List.not_any_eq_all_not]
    simp
  rw [e]
  clear hC hW e
  generalize (l.any fun x => !p x) = q at *
  go_enter Tryz.func17, Tryz.ntmps17
  go_wp2_with fail
  refine hany.mono ?_
  rintro e w2 ⟨rfl, hb2⟩
  have HB2 := Aside0.mk hb2
  clear hany hb2
  go_wp2
  go_ret
  exact ⟨rfl, HB2.out⟩
theorem apply_no (A : Option Addr) (n c : Nat) (name : ByteArray) (W : World)
    (hMay : Calls Tryz.prog 17 #[.slice A n c] W fun e w' => e = .returned (.bool false) ∧ Below W.heap.size W w') :
    Calls Tryz.prog 19 #[.slice A n c, .string name] W fun e w' => e = .returned (.tuple #[.string ⟨#[]⟩, .bool false, .int .i64 2]) ∧ Below W.heap.size W w' := by
  go_enter Tryz.func19, Tryz.ntmps19
  go_wp2_with fail
  refine hMay.mono ?_
  rintro e w1 ⟨rfl, hb1⟩
  have HB1 := Aside0.mk hb1
  clear hMay hb1
  go_wp2
  go_ret3
  exact ⟨rfl, HB1.out⟩
theorem apply_bad {α : Type} (d : Kd α) (A : Option Addr) (n c : Nat) (name m : ByteArray) (ls : List α) (er : Int) (her : er ≠ 0) (W : World)
    (hMay : Calls Tryz.prog 17 #[.slice A n c] W fun e w' => e = .returned (.bool true) ∧ Below W.heap.size W w')
    (hParse : ∀ W2, Below W.heap.size W W2 → Calls Tryz.prog 37 #[.string name] W2 fun e w' => ∃ v, e = .returned (.tuple #[.string m, v, .int .i64 er]) ∧ d.R 96 w' W2.heap.size (fun _ => True) v ls ∧ Below W2.heap.size W2 w') :
    Calls Tryz.prog 19 #[.slice A n c, .string name] W fun e w' => e = .returned (.tuple #[.string ⟨#[]⟩, .bool false, .int .i64 er]) ∧ Below W.heap.size W w' := by
  have HP := Aside0.mk hParse
  have herb : (er == 0) = false := by simpa using her
  clear hParse
  go_enter Tryz.func19, Tryz.ntmps19
  go_wp2_with fail
  refine hMay.mono ?_
  rintro e w1 ⟨rfl, hb1⟩
  have hp1 := HP.out w1 hb1
  have HB1 := Aside0.mk hb1
  clear hMay hb1 HP
  go_wp2_with fail
  refine hp1.mono ?_
  rintro e w2 ⟨v, rfl, hR2, hb2⟩
  have HB2 := Aside0.mk (HB1.out.trans (hb2.mono HB1.out.size))
  clear hp1 hR2 hb2 HB1
  go_wp2
  go_ret3
  exact ⟨rfl, HB2.out⟩
end Go.Proofs.YtcikjeiebpmmcaaGreat
namespace Go.Proofs.YtcikjeiebpmmcaaGreat
open Go.RowKit Go.Proofs.YtcikjeiebpmmcaaGreatW.PrintWords Go.Proofs.YtcikjeiebpmmcaaGreatW.PrintLast Go.Proofs.YtcikjeiebpmmcaaGreatW.PrintMore Go.Sort Go.Shelf
set_option linter.unusedVariables false
set_option linter.unusedSimpArgs false
section
variable {α β : Type}
theorem stepF_mono (nm vl : α → ByteArray) (mk : ByteArray → ByteArray → α) {M M' : ByteArray → ByteArray → Option (List ByteArray × Bool)} (F : ByteArray → List ByteArray → Option (ByteArray × Bool)) (hM : ∀ a b r, M a b = some r → M' a b = some r)
    (k : Int) (lab pat tm into m : ByteArray) (l : List α) (r : ByteArray × List α × Bool) (h : stepF nm vl mk M F k lab pat tm into m l = some r) : stepF nm vl mk M' F k lab pat tm into m l = some r := by
  unfold stepF at h ⊢
  split
  · rename_i hc
    rw [if_pos hc] at h
    obtain ⟨t, ht, h⟩ := Option.bind_eq_some_iff.1 h
    rw [hM _ _ _ ht, Option.bind_some]
    split
    · rename_i h3
      rw [if_pos h3] at h
      exact h
    · rename_i h3
      rw [if_neg h3] at h
      split
      · rename_i h4
        rw [if_pos h4] at h
        split at h
        · rename_i ha
          have hb : ∀ y ∈ l, M' pat (nm y) = M pat (nm y) := fun y hy => by
            obtain ⟨z, hz⟩ := Option.isSome_iff_exists.1 (ha y hy)
            rw [hz, hM _ _ _ hz]
          rw [if_pos fun y hy => by rw [hb y hy]; exact ha y hy, ← h]
          subst h4
          have hf : (l.filter fun y => !((M' pat (nm y)).map (·.2)).getD false) = l.filter fun y => !((M pat (nm y)).map (·.2)).getD false := List.filter_congr fun y hy => by rw [hb y hy]
          simp only [oneF]
          rw [hf]
        · cases h
      · rename_i h4
        rw [if_neg h4] at h
        exact h
  · rename_i hc
    rw [if_neg hc] at h
    cases h
theorem goF_mono {step step' : β → ByteArray → List α → Option (ByteArray × List α × Bool)} {NF NF' : ByteArray → List α → Option (ByteArray × Int)} (hs : ∀ a b c r, step a b c = some r → step' a b c = some r) (hN : ∀ a b r, NF a b = some r → NF' a b = some r) :
    ∀ (rs : List β) (m : ByteArray) (l : List α) (n : ByteArray) (r : ByteArray × Bool × Int), goF step NF rs m l n = some r → goF step' NF' rs m l n = some r
  | [], _, _, _, _, h => h
  | x :: rs, m, l, n, r, h => by
    unfold goF at h ⊢
    obtain ⟨t, ht, h⟩ := Option.bind_eq_some_iff.1 h
    rw [hs _ _ _ _ ht, Option.bind_some]
    split
    · rename_i hc
      rw [if_pos hc] at h
      exact h
    · rename_i hc
      rw [if_neg hc] at h
      obtain ⟨s, hs1, h⟩ := Option.bind_eq_some_iff.1 h
      rw [hN _ _ _ hs1, Option.bind_some]
      split
      · rename_i h0
        rw [if_pos h0] at h
        exact goF_mono hs hN rs _ _ _ r h
      · rename_i h0
        rw [if_neg h0] at h
        exact h
def allF (p : β → Option Bool) (l : List β) : Option Bool := if ∀ x ∈ l, (p x).isSome = true then some (l.all fun x => (p x).getD false) else none
theorem allF_mono {p p' : β → Option Bool} (hp : ∀ a r, p a = some r → p' a = some r) (l : List β) (r : Bool) (h : allF p l = some r) : allF p' l = some r := by
  unfold allF at h ⊢
  split at h
  · rename_i ha
    have hb : ∀ x ∈ l, p' x = p x := fun x hx => by
      obtain ⟨z, hz⟩ := Option.isSome_iff_exists.1 (ha x hx)
      rw [hz, hp _ _ hz]
    rw [if_pos fun x hx => by rw [hb x hx]; exact ha x hx, ← h]
    congr 1
    rw [Bool.eq_iff_iff, List.all_eq_true, List.all_eq_true]
    exact ⟨fun h x hx => by rw [← hb x hx]; exact h x hx, fun h x hx => by rw [hb x hx]; exact h x hx⟩
  · cases h
theorem allF_at {p : β → Option Bool} {l : List β} {r : Bool} (h : allF p l = some r) : (∀ x ∈ l, p x = some ((p x).getD false)) ∧ r = l.all fun x => (p x).getD false := by
  unfold allF at h
  split at h
  · rename_i ha
    refine ⟨fun x hx => ?_, (Option.some.inj h).symm⟩
    obtain ⟨z, hz⟩ := Option.isSome_iff_exists.1 (ha x hx)
    rw [hz]
    rfl
  · cases h
end
theorem values_calls {α : Type} (d : Kd α) (nm vl : α → ByteArray) (hz : d.sz = 2) (hK1 : ∀ {w x c}, d.K w x c → c = encL nm vl x) (name b m : ByteArray) (ls : List α) (er : Int) (W : World) (hl : ls.length ≤ 1099511627776)
    (hParse : Calls Tryz.prog 37 #[.string name] W fun e w' => ∃ v, e = .returned (.tuple #[.string m, v, .int .i64 er]) ∧ d.R 96 w' W.heap.size (fun _ => True) v ls ∧ Below W.heap.size W w') :
    Calls Tryz.prog 21 #[.string name, .string b] W fun e w' => e = .returned (.string (valueF nm vl m ls b)) ∧ Below W.heap.size W w' := by
  have HV := Aside0.mk (fun (A : Option Addr) (c : Nat) (w2 : World) h1 h2 => value_calls d nm vl hz hK1 w2.heap.size m A c ls b (w2.alloc (.cells #[.string m, .slice A ls.length c] 87)) h1 h2 hl)
  generalize valueF nm vl m ls b = r at *
  go_enter Tryz.func21, Tryz.ntmps21
  go_wp2_with fail
  refine hParse.mono ?_
  rintro e w2 ⟨v, rfl, hR2, hb2⟩
  obtain ⟨A, c, hv, hle, hC⟩ := Kd.R_reads hR2
  subst hv
  have hv1 := HV.out A c w2 (blk_new _ _) (Kd.C_below hC ((Below.refl _ w2).alloc (Nat.le_refl _) _))
  have HB2 : Aside0 (Below W.heap.size W (w2.alloc (.cells #[.string m, .slice A ls.length c] 87))) := ⟨hb2.alloc hb2.size _⟩
  clear hParse hR2 hb2 hC HV
  go_wp2_with fail
  refine hv1.mono ?_
  rintro e w3 ⟨rfl, hb3⟩
  have HB3 := Aside0.mk (HB2.out.trans (hb3.mono HB2.out.size))
  clear hv1 hb3 HB2
  go_wp2
  go_ret
  exact ⟨rfl, HB3.out⟩
end Go.Proofs.YtcikjeiebpmmcaaGreat
