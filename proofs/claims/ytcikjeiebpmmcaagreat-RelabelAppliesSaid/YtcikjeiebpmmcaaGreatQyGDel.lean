/- Pruned. -/
import Derived.Test.YtcikjeiebpmmcaaGreatQyGLab3
import Derived.Laws.Slices
namespace Go.Proofs.YtcikjeiebpmmcaaGreat
open Go.RowKit Go.Proofs.YtcikjeiebpmmcaaGreatW.PrintWords Go.Proofs.YtcikjeiebpmmcaaGreatW.PrintLast Go.Proofs.YtcikjeiebpmmcaaGreatW.PrintMore Go.Sort Go.Shelf
set_option linter.unusedVariables false
set_option linter.unusedSimpArgs false
section
theorem own_cut {w : World} {base e size g n cap i o : Nat} {inner vs : List Value} (h : w.ownsRow base e size (.slice (some ⟨g, 0, none⟩) n cap) n inner) (hi : i ≤ n) (ho : i * size ≤ o) :
    (w.setCells g o vs).ownsRow base e size (.slice (some ⟨g, 0, none⟩) i cap) i (inner.take (i * size)) := by
  rcases h.2 with ⟨h0, _⟩ | ⟨g', cap', cur, hv, hg, hb, hn, hcap, hc, ht⟩
  · cases h0
  cases hv
  have hl := h.1
  have hle : i * size ≤ n * size := Nat.mul_le_mul_right _ hi
  have key : ∀ (vs : List Value) (o : Nat) (w : World) (cur : Array Value), w.heap[g]? = some (.cells cur e (0, 0)) → i * size ≤ o → ∃ cur', (w.setCells g o vs).heap[g]? = some (.cells cur' e (0, 0)) ∧ cur'.size = cur.size ∧ cur'.toList.take (i * size) = cur.toList.take (i * size) := by
    intro vs
    induction vs with
    | nil => intro o w cur h1 _; exact ⟨cur, h1, rfl, rfl⟩
    | cons v r ih =>
      intro o w cur h1 h2
      have h3 : (w.setCell ⟨g, o, none⟩ v).heap[g]? = some (.cells (cur.setIfInBounds o v) e (0, 0)) := by
        rw [setCell_eq]
        simp [mapBlock, Array.getElem?_modify, h1, onCells]
      obtain ⟨cur', k1, k2, k3⟩ := ih (o + 1) _ _ h3 (by omega)
      refine ⟨cur', k1, by simpa using k2, k3.trans ?_⟩
      apply List.ext_getElem?
      intro j
      by_cases hj : j < i * size
      · rw [List.getElem?_take_of_lt hj, List.getElem?_take_of_lt hj, Array.getElem?_toList, Array.getElem?_toList, Array.getElem?_setIfInBounds_ne (by omega)]
      · rw [List.getElem?_eq_none (by rw [List.length_take]; omega), List.getElem?_eq_none (by rw [List.length_take]; omega)]
  obtain ⟨cur', k1, k2, k3⟩ := key vs o w cur hb ho
  refine ⟨by rw [List.length_take, hl]; omega, .inr ⟨g, cap, cur', rfl, hg, k1, by omega, hcap, by rw [k2, hc], ?_⟩⟩
  rw [k3, ← ht, List.take_take, Nat.min_eq_left hle]
theorem run_clear_row {P : Program} (w : World) (t e ty : TypeId) (z : Value) (ht : P.underlying t = some (.slice e)) (hv : ∀ w, (zeroValue e).run P w = .ok z w) (b o n c : Nat) (hn : 0 < n) (h1 : ∀ u ∈ (Builtin.zeroCells z.cells n).toList, u.oneCell' = true)
    (hc : ∀ j, j < (Builtin.zeroCells z.cells n).toList.length → (w.cell? ⟨b, o + j, none⟩).isSome = true) (hf : ∀ j, j < (Builtin.zeroCells z.cells n).toList.length → w.frozen? ⟨b, o + j, none⟩ = false) :
    (Builtin.clear_ #[t] ty #[.slice (some ⟨b, o, none⟩) n c]).run P w = .ok (.tuple #[]) (w.setCells b o (Builtin.zeroCells z.cells n).toList) := by
  have hst := run_storeCells_cells (P := P) b o (Builtin.zeroCells z.cells n).toList 0 w (by simpa using hc) (by simpa using hf) h1
  simp only [Nat.add_zero] at hst
  obtain ⟨m, rfl⟩ : ∃ m, n = m + 1 := ⟨n - 1, by omega⟩
  simp [Builtin.clear_, run_underlying ht, hv, hst]
theorem first_hit (q : Nat → Bool) : ∀ n, (∀ j, j < n → q j = false) ∨ ∃ k, k < n ∧ q k = true ∧ ∀ j, j < k → q j = false
  | 0 => Or.inl (fun j h => absurd h (Nat.not_lt_zero _))
  | n + 1 => by
    rcases first_hit q n with h | ⟨k, h1, h2, h3⟩
    · cases hq : q n with
      | true => exact Or.inr ⟨n, by omega, hq, h⟩
      | false => exact Or.inl (fun j hj => by
          rcases Nat.lt_or_ge j n with h' | h'
          · exact h j h'
          · have : j = n := by omega
            rw [this]; exact hq)
    · exact Or.inr ⟨k, by omega, h2, h3⟩
theorem grown_below {w w1 w2 : World} {row : Option Nat} (h : w.grownBy w1 row) (hb : Below w1.heap.size w1 w2) : w.grownBy w2 row := h.trans ⟨hb.os, hb.tape, hb.output, hb.size, fun i hi _ => hb.block i hi⟩
theorem grown_refl (w : World) (row : Option Nat) : w.grownBy w row := ⟨rfl, rfl, rfl, Nat.le_refl _, fun _ _ _ => rfl⟩
theorem delete_calls {α : Type} (d : Kd α) (nm vl : α → ByteArray) (hz : d.sz = 2) (hK1 : ∀ {w x c}, d.K w x c → c = encL nm vl x) (hM1 : ∀ {w base ok x c}, d.M w base ok x c → c = encL nm vl x) (hM2 : ∀ w base ok x, d.M w base ok x (encL nm vl x))
    (fn : FuncId) (eg : ∀ args w, (callFunc fn args).run Tryz.prog w = .ok (.enter fn args) w) (p : α → Bool) (cb : Array Value) (v : Value) (l : List α) (w : World) (base : Nat) (hR : d.R 96 w base (fun _ => True) v l) (hbase : base ≤ w.heap.size) (hl : l.length ≤ 1099511627776)
    (hp : ∀ (W : World) (x : α), x ∈ l → w.grownBy W v.ownBlock → Calls Tryz.prog fn (#[.agg #[.string (nm x), .string (vl x)]] ++ cb) W fun e w' => e = .returned (.bool (p x)) ∧ Below W.heap.size W w') :
    Calls Tryz.prog 62 #[v, .func (.func fn) #[] cb] w fun e w' => ∃ v', e = .returned v' ∧ d.R 96 w' base (fun _ => True) v' (l.filter fun x => !p x) ∧ w.grownBy w' v.ownBlock := by
  rcases l with _ | ⟨x0, r⟩
  · obtain ⟨A, c, rfl⟩ := Kd.R_slice hR
    go_enter Tryz.func62, Tryz.ntmps62
    go_wp2_with (go_at_call 83; refine (index_none A c _ w).mono ?_; rintro e w' ⟨rfl, rfl⟩)
    go_ret
    exact ⟨_, rfl, hR, grown_refl _ _⟩
  · haveI : Inhabited α := ⟨x0⟩
    have hx0 : x0 ∈ x0 :: r := by simp
    generalize hxs : x0 :: r = xs at *
    haveI : Inhabited {x : α // x ∈ xs} := ⟨⟨x0, hx0⟩⟩
    have hatt : ∀ j, j < xs.length → (xs.attach[j]!).1 = xs[j]! := fun j hj => by
      rw [getElem!_pos xs.attach j (by simpa using hj), getElem!_pos xs j hj]
      simp
    have hn : 0 < xs.length := by rw [← hxs]; simp
    obtain ⟨A, cap, rfl, hcap, hC⟩ := Kd.R_reads hR
    obtain ⟨g, off, rfl, hg, hc⟩ := C_at hC hn (by omega)
    obtain rfl : off = 0 := by
      obtain ⟨inner, ho⟩ := Kd.R_own hR
      rcases ho.2 with ⟨h0, _⟩ | ⟨g', cap', cur, hv, _⟩
      · cases h0
      · cases hv
        rfl
    have hcells : ∀ j, j < xs.length → ∀ i u, (encL nm vl xs[j]!)[i]? = some u → w.cell? ⟨g, 0 + j * 2 + i, none⟩ = some u := by
      intro j hj i u hi
      obtain ⟨cs, _, hK, hcell⟩ := hc j xs[j] (List.getElem?_eq_getElem hj)
      rw [hz] at hcell
      refine hcell i u ?_
      rw [hK1 hK]
      rwa [getElem!_pos xs j hj] at hi
    have hpb : PredBelow Tryz.prog fn cb (fun x : {x : α // x ∈ xs} => .agg (encL nm vl x.1).toArray) (fun x => p x.1) w := fun W x hB =>
      (hp W x.1 x.2 (grown_below (grown_refl _ _) hB)).mono fun e w' ⟨h1, h2⟩ => ⟨h1, hB.trans (h2.mono hB.size)⟩
    have hidx := AnyQ.slices_IndexFunc (P := Tryz.prog) (ρ := Tryz.indexL_ren) Tryz.indexL 2 Tryz.isAgg96 Tryz.sizeOf96 (fun x : {x : α // x ∈ xs} => encL nm vl x.1) (fun _ => rfl) (fun x => p x.1) fn cb eg g 0 xs.length cap xs.attach w hpb (by simp) (by omega) hg
      (fun j hj i u hi => hcells j (by simpa using hj) i u (by rw [hatt j (by simpa using hj)] at hi; exact hi))
    rcases first_hit (fun j => p xs[j]!) xs.length with hno | ⟨k, hk, hpk, hbe⟩
    · have e1 : Lib.idxBy (fun _ y => p y.1) (xs.attach.take xs.length) default = -1 := Lib.idxBy_miss (fun _ y => p y.1) xs.attach xs.length default (fun j hj => by show p (xs.attach[j]!).1 = false; rw [hatt j hj]; exact hno j hj)
      rw [e1] at hidx
      have hfil : (xs.filter fun x => !p x) = xs := by
        rw [List.filter_eq_self]
        intro x hx
        obtain ⟨t, ht, rfl⟩ := List.getElem_of_mem hx
        have := hno t ht
        rw [getElem!_pos xs t ht] at this
        rw [this]
        rfl
      go_enter Tryz.func62, Tryz.ntmps62
      go_wp2_with (go_at_call 83; refine hidx.mono ?_; rintro e w' ⟨rfl, hB'⟩)
      go_ret
      exact ⟨_, rfl, by rw [hfil]; exact Kd.R_below hR hB', grown_below (grown_refl _ _) hB'⟩
    · have e1 : Lib.idxBy (fun _ y => p y.1) (xs.attach.take xs.length) default = (k : Int) := Lib.idxBy_hit (fun _ y => p y.1) xs.attach xs.length k default hk (by simp) (by show p (xs.attach[k]!).1 = true; rw [hatt k hk]; exact hpk) (fun j hj => by show p (xs.attach[j]!).1 = false; rw [hatt j (by omega)]; exact hbe j hj)
      rw [e1] at hidx
      have hR0 := Aside0.mk hR
      have hfk : (xs.take k).filter (fun x => !p x) = xs.take k := by
        rw [List.filter_eq_self]
        intro x hx
        obtain ⟨t, ht, rfl⟩ := List.getElem_of_mem hx
        rw [List.length_take] at ht
        have := hbe t (by omega)
        rw [getElem!_pos xs t (by omega)] at this
        rw [List.getElem_take, this]
        rfl
      have hfk1 : (xs.take (k + 1)).filter (fun x => !p x) = xs.take k := by
        rw [List.take_succ_eq_append_getElem hk, List.filter_append, hfk]
        rw [getElem!_pos xs k hk] at hpk
        simp [hpk]
      have HF := Aside0.mk hfk1
      have HP := Aside0.mk hp
      have HH := Aside0.mk hcap
      have hkz : ((k : Int) == -1) = false := by rw [beq_eq_false_iff_ne]; omega
      clear hR hC hc hcells hpb hp hatt hfk hfk1 hbe hpk e1 hcap
      go_enter Tryz.func62, Tryz.ntmps62
      go_wp2_with (go_at_call 83; refine hidx.mono ?_; rintro e w1 ⟨rfl, hB1⟩)
      go_wp2
      go_loopw [5, 6] (fun s5 s6 wr => ∃ (i j : Nat) (cur : List α), i < j ∧ j ≤ xs.length ∧ s5 = .int .i64 i ∧ s6 = .int .i64 j ∧ Aside0 (d.R 96 wr base (fun _ => True) (.slice (some ⟨g, 0, none⟩) xs.length cap) cur) ∧ Aside0 (cur.length = xs.length) ∧
        Aside0 (cur.take i = (xs.take j).filter fun x => !p x) ∧ Aside0 (cur.drop j = xs.drop j) ∧ Aside0 (w.grownBy wr (some g))) (fun _ s6 _ => xs.length - (intOf s6).toNat)
      case atStart => exact ⟨k, k + 1, xs, by omega, by omega, rfl, by go_num, ⟨Kd.R_below hR0.out hB1⟩, ⟨rfl⟩, ⟨HF.out.symm⟩, ⟨rfl⟩, ⟨grown_below (grown_refl _ _) hB1⟩⟩
      case round =>
        obtain ⟨i, j, cur, hij, hjn, rfl, rfl, HR, HL, HT, HD, HB⟩ := hrel
        by_cases hlt : j < xs.length
        · have hcj : j < cur.length := by rw [HL.out]; exact hlt
          have hcx : cur[j] = xs[j] := by
            have h1 : (cur.drop j)[0]? = (xs.drop j)[0]? := by rw [HD.out]
            rw [List.getElem?_drop, List.getElem?_drop, Nat.add_zero, List.getElem?_eq_getElem hcj, List.getElem?_eq_getElem hlt] at h1
            exact Option.some.inj h1
          have hcell : wr.cell? ⟨g, j * 2, none⟩ = some (.string (nm xs[j])) ∧ wr.cell? ⟨g, j * 2 + 1, none⟩ = some (.string (vl xs[j])) := by
            obtain ⟨A', c', e', _, hC'⟩ := Kd.R_reads HR.out
            injection e' with e3 e4 e5
            subst e3
            obtain ⟨b', off', e2, _, hc'⟩ := C_at hC' (by rw [HL.out]; exact hn) (by omega)
            cases e2
            obtain ⟨cs, _, hK, hce⟩ := hc' j cur[j] (List.getElem?_eq_getElem hcj)
            rw [hz, hK1 hK, hcx] at hce
            exact ⟨by simpa using hce 0 _ rfl, by simpa using hce 1 _ rfl⟩
          obtain ⟨g1, g2⟩ := hcell
          have hcall := fun W hW => HP.out W xs[j] (List.getElem_mem hlt) hW
          have HT2 := Aside0.mk (show (xs.take (j + 1)).filter (fun x => !p x) = cur.take i ++ (if p xs[j] = true then [] else [xs[j]]) by
            rw [List.take_succ_eq_append_getElem hlt, List.filter_append, ← HT.out]
            congr 1
            cases hpj : p xs[j] <;> simp [hpj])
          have HX := Aside0.mk hcx
          clear hcx
          generalize xs[j] = x at *
          have hin : (j : Int) < (xs.length : Int) := by omega
          cases hq : p x with
          | true =>
            rw [hq] at hcall
            have hbW : Below wr.heap.size wr (wr.alloc (.cells #[.string (nm x), .string (vl x)] 96)) := (Below.refl _ wr).alloc (Nat.le_refl _) _
            have hbase2 : base ≤ wr.heap.size := Nat.le_trans hbase (by have := HB.out.size; omega)
            go_wp2_with fail
            refine (hcall _ (grown_below HB.out hbW)).mono ?_
            rintro e w2 ⟨rfl, hB2⟩
            have hB3 := hbW.trans (hB2.mono hbW.size)
            go_wp2
            go_roundw
            case rel =>
              refine ⟨i, j + 1, cur, by omega, by omega, rfl, by go_num, ⟨Kd.R_below HR.out hB3⟩, HL, ⟨?_⟩, ⟨?_⟩, ⟨grown_below HB.out hB3⟩⟩
              · rw [HT2.out]
                simp [hq]
              · have := congrArg (List.drop 1) HD.out
                simpa [List.drop_drop, Nat.add_comm] using this
            case measure => simp [intOf]; omega
          | false =>
            rw [hq] at hcall
            have hbW : Below wr.heap.size wr (wr.alloc (.cells #[.string (nm x), .string (vl x)] 96)) := (Below.refl _ wr).alloc (Nat.le_refl _) _
            have hbase2 : base ≤ wr.heap.size := Nat.le_trans hbase (by have := HB.out.size; omega)
            go_wp2_with fail
            refine (hcall _ (grown_below HB.out hbW)).mono ?_
            rintro e w2 ⟨rfl, hB2⟩
            have hB3 := hbW.trans (hB2.mono hbW.size)
            have hnew := blk_new wr (.cells #[.string (nm x), .string (vl x)] 96)
            have hnw2 := (hB2.block wr.heap.size (blk_lt hnew)).trans hnew
            have hv1 : w2.cell? ⟨wr.heap.size, 0, none⟩ = some (.string (nm x)) := (blk_cell hnw2 0).trans rfl
            have hv2 : w2.cell? ⟨wr.heap.size, 1, none⟩ = some (.string (vl x)) := (blk_cell hnw2 1).trans rfl
            clear hnew hnw2
            have hR2 := Kd.R_below HR.out hB3
            have hci : i < cur.length := by rw [HL.out]; omega
            obtain ⟨cells, hgb⟩ : ∃ cells, w2.heap[g]? = some (.cells cells 96 (0, 0)) := by
              obtain ⟨inner, ho⟩ := Kd.R_own hR2
              exact own_typed ho g rfl
            have hf1 := blk_frozen hgb (i * 2)
            have hf2 := blk_frozen hgb (i * 2 + 1)
            have hcell2 : ∃ u1 u2, w2.cell? ⟨g, i * 2, none⟩ = some u1 ∧ w2.cell? ⟨g, i * 2 + 1, none⟩ = some u2 ∧ [u1, u2] = encL nm vl cur[i] := by
              obtain ⟨A', c', e', _, hC'⟩ := Kd.R_reads hR2
              injection e' with e3 e4 e5
              subst e3
              obtain ⟨b', off', e2, _, hc'⟩ := C_at hC' (by rw [HL.out]; exact hn) (by omega)
              cases e2
              obtain ⟨cs, _, hK, hce⟩ := hc' i cur[i] (List.getElem?_eq_getElem hci)
              rw [hz, hK1 hK] at hce
              exact ⟨_, _, by simpa using hce 0 _ rfl, by simpa using hce 1 _ rfl, rfl⟩
            obtain ⟨u1, u2, k1, k2, hu⟩ := hcell2
            have hii : (i : Int) < (xs.length : Int) := by omega
            have HUU := Aside0.mk hu
            have HR2 := Aside0.mk hR2
            have HB3 := Aside0.mk hB3
            clear hu hR2 hB2 hB3 hbW hgb
            go_wp2
            go_roundw
            have hseg := Kd.R_seg (j := 0) (c := [u1, u2]) (seg := [.string (nm x), .string (vl x)]) (x' := x) (okp := fun _ => False) HR2.out (i : Int) (by omega) hii (by rw [hz]; rfl) (fun q u hq => by
              rw [hz, Int.toNat_natCast]
              match q, hq with
              | 0, hq => cases hq; exact k1
              | 1, hq => cases hq; exact k2
              | q + 2, hq => simp at hq) (by rw [hz]; exact Nat.le_refl 2) (hM2 _ _ _ x) (fun _ h => h.elim)
            rw [hz, Int.toNat_natCast, Nat.add_zero] at hseg
            have hgb2 : base ≤ g := Kd.R_base HR2.out g (by simp [Value.ownBlock])
            case rel =>
              refine ⟨i + 1, j + 1, cur.set i x, by omega, by omega, by go_num, by go_num, ⟨hseg.1⟩, ⟨by rw [List.length_set]; exact HL.out⟩, ⟨?_⟩, ⟨?_⟩, ⟨(grown_below HB.out HB3.out).trans hseg.2⟩⟩
              · rw [HT2.out, List.take_succ_eq_append_getElem (by rw [List.length_set]; exact hci)]
                simp [hq, List.take_set_of_le]
              · have := congrArg (List.drop 1) HD.out
                rw [List.drop_set_of_lt (by omega)]
                simpa [List.drop_drop, Nat.add_comm] using this
            case measure => simp [intOf]; omega
        · obtain rfl : j = xs.length := by omega
          have hHH := HH.out
          obtain ⟨i0, hi0, _, hsz, _⟩ := info_parts info_label
          have hcut1 := cut_from (P := Tryz.prog) 44 96 .i64 Tryz.underlying44 hi0 2 hsz (some ⟨g, 0, none⟩) xs.length cap (i : Int) (by omega) (by omega)
          have hcut2 := cut_to (P := Tryz.prog) 44 96 .i64 Tryz.underlying44 hi0 (some ⟨g, 0, none⟩) xs.length cap (i : Int) (by omega) (by omega) hHH
          have hadr : (if cap = ((i : Int)).toNat then (some ⟨g, 0, none⟩ : Option Addr) else (some ⟨g, 0, none⟩ : Option Addr).map (·.add (((i : Int)).toNat * 2))) = some ⟨g, i * 2, none⟩ := by
            rw [if_neg (by omega)]
            simp only [Option.map_some, Int.toNat_natCast, add_none, Nat.zero_add]
          rw [hadr, Int.toNat_natCast] at hcut1
          rw [Int.toNat_natCast] at hcut2
          obtain ⟨_, inner, hown, hreps⟩ := HR.out
          rw [hz, HL.out] at hown
          have HRP := Aside0.mk hreps
          clear hreps
          obtain ⟨cells, hgb, hcs⟩ : ∃ cells, wr.heap[g]? = some (.cells cells 96 (0, 0)) ∧ cells.size = cap * 2 := by
            rcases hown.2 with ⟨h0, _⟩ | ⟨g', cap', cur', hv, _, hb, _, _, hs, _⟩
            · cases h0
            · cases hv
              exact ⟨cur', hb, hs⟩
          have hzc : ∀ m, (Builtin.zeroCells (Value.agg #[.string ⟨#[]⟩, .string ⟨#[]⟩]).cells m).toList.length = m * 2 := fun m => by simp [Builtin.zeroCells, Value.cells]
          have hone : ∀ m, ∀ u ∈ (Builtin.zeroCells (Value.agg #[.string ⟨#[]⟩, .string ⟨#[]⟩]).cells m).toList, u.oneCell' = true := by
            intro m u hu
            simp only [Builtin.zeroCells, Value.cells, Array.toList_map, List.mem_map] at hu
            obtain ⟨q, _, rfl⟩ := hu
            have : q % 2 = 0 ∨ q % 2 = 1 := by omega
            rcases this with h | h
            · simp [h]; rfl
            · simp [h]; rfl
          have hclr := fun ty => run_clear_row (P := Tryz.prog) wr 44 96 ty (.agg #[.string ⟨#[]⟩, .string ⟨#[]⟩]) Tryz.underlying44 Tryz.zeroValue96 g (i * 2) (xs.length - i) (cap - i) (by omega) (hone _)
            (fun q hq => by
              rw [hzc] at hq
              rw [blk_cell hgb, Array.getElem?_eq_getElem (by rw [hcs]; omega)]
              rfl) (fun q _ => blk_frozen hgb _)
          generalize (Builtin.zeroCells (Value.agg #[.string ⟨#[]⟩, .string ⟨#[]⟩]).cells (xs.length - i)).toList = zs at hclr
          have hcutR := own_cut (vs := zs) hown (Nat.le_of_lt hij) (Nat.le_refl (i * 2))
          have HCR := Aside0.mk hcutR
          have HBS : Aside0 (w.grownBy (wr.setCells g (i * 2) zs) (some g)) := ⟨by
            obtain ⟨b1, b2, b3, b4⟩ := setCells_same g zs (i * 2) wr
            have hB := HB.out
            have hgb2 : base ≤ g := Kd.R_base HR.out g (by simp [Value.ownBlock])
            exact hB.trans ⟨b1, b2, b3, by simp, fun k hk hne => setCells_far zs (i * 2) k (fun e => hne (by rw [e]))⟩⟩
          clear hcutR
          go_wp2
          go_ret
          have hT := HT.out
          rw [List.take_length] at hT
          have hic : i ≤ cur.length := by rw [HL.out]; omega
          refine ⟨_, rfl, ?_, HBS.out⟩
          rw [← hT]
          refine ⟨fun _ _ => trivial, inner.take (i * 2), ?_, ?_, ?_⟩
          · rw [List.length_take, Nat.min_eq_left hic, hz]
            exact HCR.out
          · have hl := HRP.out.1
            rw [hz] at hl ⊢
            rw [List.length_take, List.length_take, Nat.min_eq_left hic, Nat.min_eq_left (by rw [hl]; exact Nat.mul_le_mul_right _ hic)]
          · intro j p hj
            have hjl : j < i := by
              have := (List.getElem?_eq_some_iff.1 hj).1
              rw [List.length_take] at this
              omega
            rw [List.getElem?_take_of_lt hjl] at hj
            have := HRP.out.2 j p hj
            rw [hz] at this ⊢
            have e : ((inner.take (i * 2)).drop (j * 2)).take 2 = (inner.drop (j * 2)).take 2 := by
              rw [List.drop_take, List.take_take, Nat.min_eq_left (by omega)]
            rw [e, hM1 this]
            exact hM2 _ _ _ p
end
end Go.Proofs.YtcikjeiebpmmcaaGreat
