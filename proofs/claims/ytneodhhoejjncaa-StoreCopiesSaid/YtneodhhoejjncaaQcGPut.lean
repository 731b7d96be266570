/- A text of this claim, pruned by a program of the session (prune.py) to what the theorem rests on. -/
import Derived.Test.YtneodhhoejjncaaQcGStP
namespace Go.Proofs.Ytneodhhoejjncaa
open Go.RowKit Go.Proofs.YtneodhhoejjncaaW.PrintWords
set_option linter.unusedVariables false
set_option linter.unusedSimpArgs false
def samplesP (most : Int) (owner : Int) : List Smp → StS × Nat → List Sn × StS × Nat
  | [], st => ([], st)
  | x :: l, st => ((oneP most owner st x).1 :: (samplesP most owner l (oneP most owner st x).2).1, (samplesP most owner l (oneP most owner st x).2).2)
theorem samplesP_snoc (most : Int) (owner : Int) : ∀ (l : List Smp) (x : Smp) (st : StS × Nat), samplesP most owner (l ++ [x]) st =
    ((samplesP most owner l st).1 ++ [(oneP most owner (samplesP most owner l st).2 x).1], (oneP most owner (samplesP most owner l st).2 x).2)
  | [], x, st => rfl
  | y :: l, x, st => by
    show ((oneP most owner st y).1 :: (samplesP most owner (l ++ [x]) (oneP most owner st y).2).1, (samplesP most owner (l ++ [x]) (oneP most owner st y).2).2) = _
    rw [samplesP_snoc most owner l x]
    rfl
theorem samplesP_len (most : Int) (owner : Int) : ∀ (l : List Smp) (st : StS × Nat), (samplesP most owner l st).1.length = l.length
  | [], _ => rfl
  | y :: l, st => by show (samplesP most owner l (oneP most owner st y).2).1.length + 1 = _; rw [samplesP_len most owner l]; rfl
theorem oneP_cnt (most owner : Int) (st : StS × Nat) (x : Smp) : (oneP most owner st x).2.2 ≤ st.2 + 1 := by
  unfold oneP
  split
  · split <;> simp
  · split
    · simp
    · split <;> simp
theorem samplesP_cnt (most : Int) (owner : Int) : ∀ (l : List Smp) (st : StS × Nat), (samplesP most owner l st).2.2 ≤ st.2 + l.length
  | [], _ => Nat.le_refl _
  | y :: l, st => by
    have h1 := samplesP_cnt most owner l (oneP most owner st y).2
    have h2 := oneP_cnt most owner st y
    show (samplesP most owner l (oneP most owner st y).2).2.2 ≤ st.2 + (l.length + 1)
    omega
def snF (l : List Sn) : List Value := l.flatMap snL
structure Seen1 (w wr : World) (B mb g : Nat) (most owner : Int) (f : StF) (cnt : Nat) (l : List Smp) (out : Value) : Prop where
  row : wr.ownsRow w.heap.size 37 7 out l.length (snF (samplesP most owner l (er f, cnt)).1)
  gone : MapAt sK wr g (fun _ => none) 0
  goneLt : w.heap.size ≤ g
  store : ∃ f', er f' = (samplesP most owner l (er f, cnt)).2.1 ∧ Left w wr B mb most f f' (samplesP most owner l (er f, cnt)).2.2
theorem info_seen : (Try.prog.info? 37).map (fun i => (i.zero, i.size, i.bytes)) = some (some (.agg #[.string ⟨#[]⟩, .int .i64 0, .int .i64 0, .bool false, .int .i64 0, .bool false, .int .i64 0]), 7, 64) := by kernel_rfl
set_option maxRecDepth 100000 in
set_option maxHeartbeats 4000000 in
theorem put_calls (B mb : Nat) (most owner : Int) (f : StF) (cnt : Nat) (A : Option Addr) (c : Nat) (l : List Smp) (w : World) (h : StAt w B mb most f cnt) (hl : ReadsS (foot B mb f) w A l) (hk : ∀ x ∈ l, sK.ok x.nm) (hc : cnt + l.length ≤ 1099511627776) :
    Calls Try.prog 10 #[.pointer (some ⟨B, 0, none⟩), .int .i64 owner, .slice A l.length c] w fun e w' => ∃ v, e = .returned v ∧ w'.ownsRow w.heap.size 37 7 v l.length (snF (samplesP most owner l (er f, cnt)).1) ∧
      ∃ f', er f' = outS owner l (samplesP most owner l (er f, cnt)).2.1 ∧ Left w w' B mb most f f' (samplesP most owner l (er f, cnt)).2.2 := by
  have hll : l.length ≤ 1099511627776 := by omega
  have hBl : B < w.heap.size := blk_lt h.blk
  have hmk : ∀ W, (Instr.makeMap 63 none).run Try.prog W = .ok (.map (some W.heap.size)) (W.alloc (.map #[] 0)) := fun W => run_makeMap _ _
  have H := Aside0.mk h
  have HL := Aside0.mk hl
  have HK := Aside0.mk hk
  have HC := Aside0.mk hc
  clear h hl hk hc
  go_enter Try.func10, Try.ntmps10
  go_wp2_with fail
  go_loopw [20, 6] (fun v out wr => ∃ j : Nat, j ≤ l.length ∧ v = .int .i64 j ∧ Aside0 (Seen1 w wr B mb w.heap.size most owner f cnt (l.take j) out)) (fun v _ _ => l.length - (intOf v).toNat)
  case atStart =>
    refine ⟨0, Nat.zero_le _, by go_num, ⟨own_nil _ _ _ _, MapAt.made sK w, Nat.le_refl _, f, rfl, ?_⟩⟩
    exact ⟨H.out.alloc _, (KeptOff.refl _ w).alloc _, fun k hk => Or.inl hk⟩
  case round =>
    obtain ⟨j, hj, rfl, hS⟩ := hrel
    by_cases hlt : j < l.length
    · have hlti : (j : Int) < (l.length : Int) := by omega
      have hS1 := hS.out
      obtain ⟨f1, he1, hL1⟩ := hS1.store
      obtain ⟨b, off, rfl, hbw, hnF, hcell⟩ := (HL.out).resolve_left (fun e => by subst e; simp at hlt)
      have hwr := hL1.kept
      have hcj := fun (k : Nat) (v : Value) (hv : (smpL (l[j]'hlt))[k]? = some v) => (cell_blk (off + j * 4 + k) (hwr.block b hbw hnF)).trans (hcell j l[j] (List.getElem?_eq_getElem hlt) k v hv)
      have s0 : wr.cell? ⟨b, off + j * 4, none⟩ = some (.string l[j].nm) := hcj 0 _ rfl
      have s1 : wr.cell? ⟨b, off + j * 4 + 1, none⟩ = some (.int .i64 l[j].val) := hcj 1 _ rfl
      have s2 : wr.cell? ⟨b, off + j * 4 + 2, none⟩ = some (.int .i64 l[j].time) := hcj 2 _ rfl
      have s3 : wr.cell? ⟨b, off + j * 4 + 3, none⟩ = some (.bool l[j].counts) := hcj 3 _ rfl
      have hxk := HK.out l[j] (List.getElem_mem hlt)
      have htk : l.take (j + 1) = l.take j ++ [l[j]] := List.take_succ_eq_append_getElem hlt
      have hlen : (l.take j).length = j := List.length_take_of_le (by omega)
      have hcn := samplesP_cnt most owner (l.take j) (er f, cnt)
      have hone := fun W (hb : Below wr.heap.size wr W) => one_calls B mb most f1 (samplesP most owner (l.take j) (er f, cnt)).2.2 owner l[j] W (hL1.st.below hb) hxk (by have := HC.out; unfold maxLen; show (samplesP most owner (l.take j) (er f, cnt)).2.2 < _; have h2 : (samplesP most owner (l.take j) (er f, cnt)).2.2 ≤ cnt + (l.take j).length := hcn; omega)
      have hst : (er f1, (samplesP most owner (l.take j) (er f, cnt)).2.2) = (samplesP most owner (l.take j) (er f, cnt)).2 := by rw [he1]
      rw [hst] at hone
      have hsn := samplesP_snoc most owner (l.take j) l[j] (er f, cnt)
      have hone1 := hone _ ((Below.refl _ wr).alloc (Nat.le_refl _) (.cells #[.string l[j].nm, .int .i64 l[j].val, .int .i64 l[j].time, .bool l[j].counts] 34))
      have HSN := Aside0.mk hsn
      have HTK := Aside0.mk htk
      have HLN := Aside0.mk hlen
      have HE1 := Aside0.mk he1
      have HL1 := Aside0.mk hL1
      clear hwr hcell hcj hsn htk hlen hcn hone hst he1 hL1 hxk
      unfold smpL snL at hone1
      generalize hG : l[j] = x at *
      have HG := Aside0.mk hG
      clear hG
      generalize hO : oneP most owner (samplesP most owner (l.take j) (er f, cnt)).2 x = O at *
      have HO := Aside0.mk hO
      clear hO
      go_wp2_with fail
      refine hone1.mono ?_
      rintro e w2 ⟨rfl, f2, he2, hL2⟩
      have HE2 := Aside0.mk he2
      have HL2 := Aside0.mk hL2
      clear hone1 he2 hL2
      have hnf : ∀ k cs, (wr.alloc (.cells #[.string x.nm, .int .i64 x.val, .int .i64 x.time, .bool x.counts] 34)).heap[k]? = some (.cells cs 37 (0, 0)) → ¬ foot B mb f1 k := fun k cs hb => foot_not_cells (HL1.out.st.alloc _) hb (by decide) (by decide)
      have hrow2 := own_keptOff (hS.out.row.alloc _) HL2.out.kept hnf
      rw [HLN.out] at hrow2
      have HR2 := Aside0.mk hrow2
      clear hnf hrow2
      go_wp2_with (first
        | (at_builtin; refine print_append_cells (w0 := w2) w.heap.size rfl (.tmp 24) (.tmp 29) 28 37 (.agg #[.string ⟨#[]⟩, .int .i64 0, .int .i64 0, .bool false, .int .i64 0, .bool false, .int .i64 0]) 7 64 rfl Try.underlying28 info_seen rfl (by decide) (by decide) u6 j (snF (samplesP most owner (l.take j) (er f, cnt)).1) (snL O.1) rfl rfl rfl ?h1 HR2.out (Below.refl _ _) ?hb ?hl ?_))
      case h1 => simp [snL]; exact ⟨rfl, rfl, rfl, rfl, rfl, rfl, rfl⟩
      case hb => exact Nat.le_trans HL1.out.kept.size (Nat.le_trans (by rw [size_push]; omega) HL2.out.kept.size)
      case hl => omega
      intro v1 w3 hown _ hg3 hat3
      have HS3 : Aside0 (Seen1 w w3 B mb w.heap.size most owner f cnt (l.take (j + 1)) v1) := by
        have hL12 : Left w w2 B mb most f f2 O.2.2 := (HL1.out.alloc _).trans HL2.out
        have hmbl : mb < w.heap.size := H.out.map.lt
        refine ⟨⟨?_, ?_, Nat.le_refl _, f2, ?_, ?_⟩⟩
        · rw [HTK.out, HSN.out, List.length_append, HLN.out]
          show w3.ownsRow _ _ _ _ (j + 1) (snF (_ ++ [O.1]))
          unfold snF at hown ⊢
          rw [List.flatMap_append, List.flatMap_singleton]
          exact hown
        · have h1 := hS.out.gone.alloc (.cells #[.string x.nm, .int .i64 x.val, .int .i64 x.time, .bool x.counts] 34)
          obtain ⟨es, clock, hm⟩ := h1.obj
          have hnf := foot_not_map (HL1.out.st.alloc (.cells #[.string x.nm, .int .i64 x.val, .int .i64 x.time, .bool x.counts] 34)) hm (by intro cs t e; cases e) (by omega)
          have h2 := h1.kept (HL2.out.kept.block _ h1.lt hnf)
          obtain ⟨es2, clock2, hm2⟩ := h2.obj
          refine h2.grown hg3 fun e => ?_
          obtain ⟨_, cs, hc⟩ := own_ty HR2.out e.symm
          rw [hm2] at hc
          cases hc
        · rw [HTK.out, HSN.out]
          exact HE2.out
        · rw [HTK.out, HSN.out]
          refine hL12.grown hg3 fun k e => ?_
          obtain ⟨hk, cs, hc⟩ := own_ty HR2.out e
          exact ⟨hk, foot_not_cells HL2.out.st hc (by decide) (by decide)⟩
      clear hown hg3 hat3 HR2 HL2 HE2 HSN HO HTK HG HL1 HE1 hS
      go_wp2
      go_roundw
      case rel => exact ⟨j + 1, by omega, by go_num, HS3⟩
      case measure => simp [intOf]; omega
    · obtain rfl : j = l.length := by omega
      generalize hw1 : wr = w1 at *
      clear hw1
      rw [List.take_length] at hS
      have hlti : ¬ (l.length : Int) < (l.length : Int) := by omega
      obtain ⟨f1, he1, hL1⟩ := hS.out.store
      generalize hP : samplesP most owner l (er f, cnt) = Pn at *
      have HP := Aside0.mk hP
      have HE1 := Aside0.mk he1
      have HL1 := Aside0.mk hL1
      have c1 : w1.cell? ⟨B, 1, none⟩ = some (.map (some mb)) := (blk_cell hL1.st.blk 1).trans rfl
      have hsz := hL1.kept.size
      clear he1 hL1 hP
      go_wp2_with (first
        | (at_range; refine wpList_rangeM rfl (.tmp 35) 50 rfl 65 Try.underlying50 rfl HL1.out.st.map ?_; intro w3 hR3 hg3 hz3))
      have hgl := hS.out.gone.lt
      have HG3 : Aside0 (MapAt sK w3 w.heap.size (fun s => if due owner (er f1) s && !(((f1 s).map fun p => ptrV p.1).isSome) then some goneV else none) 0) := ⟨(hS.out.gone.grown hg3 (by simp)).congr fun s _ => by
        unfold due er
        cases f1 s <;> simp⟩
      have HR3 := Aside0.mk hR3
      have hmw : mb < w.heap.size := H.out.map.lt
      have hg3' : Below w1.heap.size w1 w3 := ⟨hg3.os, hg3.tape, hg3.output, hg3.size, fun k hk => hg3.block k hk (by simp)⟩
      have HB3 := Aside0.mk hg3'
      have HLZ : Aside0 (ReadsS (fun k => foot B mb f k ∨ w.heap.size ≤ k) w3 A l) := ⟨((HL.out.wide (F' := fun k => foot B mb f k ∨ w.heap.size ≤ k) (fun k hk hn hf => hf.elim hn (fun e => by omega))).kept (HL1.out.kept.mono fun k hk => Or.inl hk)).kept (Kept_below HB3.out)⟩
      clear hR3 hg3 hg3' c1
      go_loopw [10] (fun _ wr => ∃ (left : ByteArray → Bool) (todo : Nat) (gn : Nat), Aside0 (RangeAt sK wr mb w1.heap.size (fun s => (f1 s).map fun p => ptrV p.1) Pn.2.2 left todo) ∧ Aside0 (MapAt sK wr w.heap.size (fun s => if due owner (er f1) s && !(left s) then some goneV else none) gn) ∧ gn + todo ≤ Pn.2.2 ∧ Aside0 (KeptOff (fun k => k = w.heap.size ∨ k = w1.heap.size) w3 wr)) (fun _ wr => wr.rangeLeft mb w1.heap.size)
      case atStart => exact ⟨_, _, 0, HR3, HG3, by omega, ⟨KeptOff.refl _ _⟩⟩
      case round =>
        obtain ⟨left, todo, gn, HR, HM, hgt, HKq⟩ := hrel
        go_wp2_with (first
          | (at_next; refine wpList_nextStore rfl (.tmp 36) rfl rfl HR.out ?done ?more))
        case done =>
          intro h0 hl0
          generalize hw5 : wr = w5 at *
          clear hw5
          have HM5 : Aside0 (MapAt sK w5 w.heap.size (fun s => if due owner (er f1) s && !among (l.take 0) s then some goneV else none) gn) := ⟨HM.out.congr fun s hs => by rw [hl0 s hs]; rfl⟩
          clear hl0 HM HR
          go_wp2_with fail
          go_loopw [59] (fun v wr => ∃ (j gn : Nat), j ≤ l.length ∧ v = .int .i64 j ∧ Aside0 (MapAt sK wr w.heap.size (fun s => if due owner (er f1) s && !among (l.take j) s then some goneV else none) gn) ∧ Aside0 (KeptOff (fun k => k = w.heap.size ∨ k = w1.heap.size) w3 wr)) (fun v _ => l.length - (intOf v).toNat)
          case atStart => exact ⟨0, gn, Nat.zero_le _, by go_num, HM5, HKq⟩
          case round =>
            clear HM5 HKq
            obtain ⟨j, gn, hj, rfl, HM, HKq⟩ := hrel
            by_cases hlt : j < l.length
            · have hlti : (j : Int) < (l.length : Int) := by omega
              obtain ⟨b, off, rfl, hbw, hnF, hcell⟩ := (HLZ.out).resolve_left (fun e => by subst e; simp at hlt)
              have hcj := fun (k : Nat) (v : Value) (hv : (smpL (l[j]'hlt))[k]? = some v) => (cell_blk (off + j * 4 + k) (HKq.out.block b hbw (by rintro (e | e); exact hnF (Or.inr (by omega)); exact hnF (Or.inr (by omega))))).trans (hcell j l[j] (List.getElem?_eq_getElem hlt) k v hv)
              have s0 : wr.cell? ⟨b, off + j * 4, none⟩ = some (.string l[j].nm) := hcj 0 _ rfl
              have s1 : wr.cell? ⟨b, off + j * 4 + 1, none⟩ = some (.int .i64 l[j].val) := hcj 1 _ rfl
              have s2 : wr.cell? ⟨b, off + j * 4 + 2, none⟩ = some (.int .i64 l[j].time) := hcj 2 _ rfl
              have s3 : wr.cell? ⟨b, off + j * 4 + 3, none⟩ = some (.bool l[j].counts) := hcj 3 _ rfl
              have HXK : Aside0 (sK.ok l[j].nm) := ⟨HK.out l[j] (List.getElem_mem hlt)⟩
              have HTK : Aside0 (l.take (j + 1) = l.take j ++ [l[j]]) := ⟨List.take_succ_eq_append_getElem hlt⟩
              clear hcell hcj
              generalize hG : l[j] = x at *
              have HG := Aside0.mk hG
              clear hG
              go_wp2_with (first
                | (at_delete; refine wpList_delGone rfl (.tmp 63) (.tmp 65) rfl rfl (HM.out.alloc _) x.nm HXK.out rfl ?_; intro w6 hM6 ht6))
              have hM7 : MapAt sK w6 w.heap.size (fun s => if due owner (er f1) s && !among (l.take (j + 1)) s then some goneV else none) _ := hM6.congr fun y _ => by
                rw [HTK.out, among_snoc]
                by_cases hy : y = x.nm
                · subst hy
                  rw [upd_same, decide_eq_true rfl]
                  simp
                · rw [upd_other _ _ _ hy, decide_eq_false (fun e => hy e.symm)]
                  simp
              have hK7 : KeptOff (fun k => k = w.heap.size ∨ k = w1.heap.size) w3 w6 := (HKq.out.alloc _).grown ht6.grown fun k e => Or.inr (Or.inl (Option.some.inj e).symm)
              have HX := Aside0.mk (And.intro hM7 hK7)
              clear hM6 ht6 hM7 hK7
              go_wp2
              go_roundw
              case rel => exact ⟨j + 1, _, by omega, by go_num, ⟨HX.out.1⟩, ⟨HX.out.2⟩⟩
              case measure => simp [intOf]; omega
            · obtain rfl : j = l.length := by omega
              generalize hw6 : wr = w6 at *
              clear hw6
              have hlti : ¬ (l.length : Int) < (l.length : Int) := by omega
              rw [List.take_length] at HM
              have HM2 : Aside0 (MapAt sK w6 w.heap.size (goneF owner (er f1) l) gn) := HM
              clear HM
              go_wp2_with (first
                | (at_range; refine wpList_rangeM rfl (.tmp 67) 63 rfl _ Try.underlying63 rfl HM2.out ?_; intro w7 hR7 hg7 hz7))
              have hsz3 := HB3.out.size
              have hsz6 := HKq.out.size
              have hnog : ∀ k, foot B mb f1 k → k ≠ w.heap.size := fun k hk e => by
                obtain ⟨es, cl, hm⟩ := hS.out.gone.obj
                exact foot_not_map HL1.out.st hm (by intro cs t h; cases h) (by omega) (e ▸ hk)
              have hg7' : Below w6.heap.size w6 w7 := ⟨hg7.os, hg7.tape, hg7.output, hg7.size, fun k hk => hg7.block k hk (by simp)⟩
              have hst7 : StAt w7 B mb most f1 Pn.2.2 := ((HL1.out.st.below HB3.out).off HKq.out (fun k hk e => by
                rcases e with e | e
                · exact hnog k hk e
                · have := HL1.out.st.lt hk; omega)).below hg7'
              have hrow7 : w7.ownsRow w.heap.size 37 7 u6 l.length (snF Pn.1) := by
                have h1 := hS.out.row
                rw [HP.out] at h1
                have h3 := own_keptOff h1 (Kept_below HB3.out) (F := fun _ => False) (fun _ _ _ h => h)
                have h6 := own_keptOff h3 HKq.out (fun k cs hb e => by
                  rcases e with rfl | rfl
                  · obtain ⟨es, cl, hm⟩ := HG3.out.obj
                    rw [hb] at hm
                    cases hm
                  · obtain ⟨m, s, sn, c0, hm⟩ := HR3.out.obj
                    rw [hb] at hm
                    cases hm)
                exact own_keptOff h6 (Kept_below hg7') (F := fun _ => False) (fun _ _ _ h => h)
              have HK7 : Aside0 (KeptOff (foot B mb f) w w7) := ⟨((HL1.out.kept.below HB3.out).trans HKq.out (fun k e => Or.inr (by rcases e with e | e <;> omega))).below hg7'⟩
              have HST7 : Aside0 (StAt w7 B mb most (outF owner (er f1) f1 l (fun s => (goneF owner (er f1) l s).isSome)) Pn.2.2) := ⟨by rw [outF_start]; exact hst7⟩
              have HROW7 := Aside0.mk hrow7
              have HR7 := Aside0.mk hR7
              have HNG := Aside0.mk hnog
              have HLT7 := Aside0.mk (fun k (hk : foot B mb f1 k) => HL1.out.st.lt hk)
              clear hst7 hrow7 hg7 hg7' hR7 hnog HM2 HKq
              go_loopw [14] (fun _ wr => ∃ (left : ByteArray → Bool) (todo : Nat), Aside0 (RangeAt sK wr w.heap.size w6.heap.size (goneF owner (er f1) l) gn left todo) ∧
                Aside0 (StAt wr B mb most (outF owner (er f1) f1 l left) Pn.2.2) ∧ Aside0 (KeptOff (fun k => foot B mb f1 k ∨ k = w6.heap.size) w7 wr)) (fun _ wr => wr.rangeLeft w.heap.size w6.heap.size)
              case atStart => exact ⟨_, _, HR7, HST7, ⟨KeptOff.refl _ _⟩⟩
              case round =>
                obtain ⟨left, todo, HR, HST, HKr⟩ := hrel
                have HME : Aside0 (wr.rangeLeft w.heap.size w6.heap.size = todo) := ⟨HR.out.left_eq⟩
                go_wp2_with (first
                  | (at_next; refine wpList_nextGone rfl (.tmp 68) rfl rfl HR.out ?hgf ?done4 ?more4))
                case hgf =>
                  intro s v h
                  exact goneF_val h
                case done4 =>
                  intro _ hl4
                  have hfin : StAt wr B mb most (outF owner (er f1) f1 l (fun _ => false)) Pn.2.2 := HST.out.congr fun s hs => by
                    unfold outF
                    rw [hl4 s hs]
                  have hrowf := own_keptOff HROW7.out HKr.out (fun k cs hb e => by
                    rcases e with e | e
                    · exact foot_not_cells HST7.out hb (by decide) (by decide) (foot_outF.2 e)
                    · obtain ⟨m, s, sn, c0, hm⟩ := HR7.out.obj
                      rw [← e, hb] at hm
                      cases hm)
                  have hleft : Left w wr B mb most f (outF owner (er f1) f1 l (fun _ => false)) Pn.2.2 :=
                    ⟨hfin, HK7.out.trans HKr.out (fun k e => by
                      rcases e with e | e
                      · exact HL1.out.grows k e
                      · exact Or.inr (by omega)), fun k hk => HL1.out.grows k (foot_outF.1 hk)⟩
                  have HX := Aside0.mk (And.intro hrowf hleft)
                  clear hfin hrowf hleft hl4
                  go_wp2
                  go_ret
                  exact ⟨_, rfl, by rw [HP.out]; exact HX.out.1, _, by rw [HP.out, er_outF, HE1.out], by rw [HP.out]; exact HX.out.2⟩
                case more4 =>
                  intro s w8 todo' hs hls hgs hR8 hlt8 hg8 hz8 hen
                  have hd := goneF_due hgs
                  obtain ⟨⟨p, x⟩, hfs⟩ : ∃ px, f1 s = some px := by
                    cases hq : f1 s with
                    | some px => exact ⟨px, rfl⟩
                    | none => unfold due er at hd; rw [hq] at hd; simp at hd
                  have hfl : foot B mb f1 p := Or.inr (Or.inr ⟨s, x, hs, hfs⟩)
                  have hpl := HLT7.out p hfl
                  have hst8 : StAt w8 B mb most (outF owner (er f1) f1 l left) Pn.2.2 := HST.out.kept fun k hk => hg8.block k (HST.out.lt hk) (by intro e; have := Option.some.inj e; have := HLT7.out k (foot_outF.1 hk); omega)
                  have hos : outF owner (er f1) f1 l left s = some (p, x) := by
                    unfold outF
                    rw [hfs, hls]
                    simp
                  have hp8 := hst8.els s p x hs hos
                  have q1 : w8.cell? ⟨B, 1, none⟩ = some (.map (some mb)) := (blk_cell hst8.blk 1).trans rfl
                  have q2 : w8.cell? ⟨p, 4, none⟩ = some (.bool x.live) := (blk_cell hp8 4).trans rfl
                  have q3 : w8.frozen? ⟨p, 4, none⟩ = false := blk_frozen hp8 4
                  have q4 := look1_store hst8 hs hos
                  have hst9 := hst8.turn (w' := w8.setCell ⟨p, 4, none⟩ (.bool false)) hs hos (l := ⟨x.x, false, x.owner⟩) (blk_set hp8 4 (.bool false)) (fun k hk hkp => Below.heap_setCell w8 ⟨p, 4, none⟩ _ k hkp)
                  rw [outF_step owner (er f1) f1 l left hfs hd] at hst9
                  have hpg := HNG.out p hfl
                  have hR9 := hR8.kept (w' := w8.setCell ⟨p, 4, none⟩ (.bool false)) (Below.heap_setCell w8 ⟨p, 4, none⟩ _ _ (Ne.symm hpg)) (Below.heap_setCell w8 ⟨p, 4, none⟩ _ _ (by show w6.heap.size ≠ p; omega))
                  have hK9 : KeptOff (fun k => foot B mb f1 k ∨ k = w6.heap.size) w7 (w8.setCell ⟨p, 4, none⟩ (.bool false)) := (HKr.out.grown hg8 fun k e => Or.inr (Or.inr (Option.some.inj e).symm)).setCell (Or.inr (Or.inl hfl)) _
                  have HX := Aside0.mk (And.intro hR9 (And.intro hst9 hK9))
                  have HLT8 := Aside0.mk hlt8
                  clear hR9 hst9 hK9 hR8 hg8 hz8 hst8 hos hp8 hfs hd hgs hls HST HR HKr hpg hpl hfl hlt8
                  go_wp2
                  go_roundw
                  case rel => exact ⟨_, todo', ⟨HX.out.1⟩, ⟨HX.out.2.1⟩, ⟨HX.out.2.2⟩⟩
                  case measure => rw [HX.out.1.left_eq, HME.out]; exact HLT8.out
        case more =>
          intro s p x w4 todo' hs hls hfs hR4 hlt hg4 hz4 hen
          have hpb := HL1.out.st.els s p x hs hfs
          have hpl := blk_lt hpb
          have hpg : p ≠ w.heap.size := fun e => by
            subst e
            obtain ⟨es, cl, hm⟩ := hS.out.gone.obj
            rw [hpb] at hm
            cases hm
          have hp3 := blk_below hpb HB3.out
          have hpq := (HKq.out.block p (blk_lt hp3) (by rintro (e | e) <;> omega)).trans hp3
          have hp4 := (hg4.block p (blk_lt hpq) (by intro e; have := Option.some.inj e; omega)).trans hpq
          have d4 : w4.cell? ⟨p, 4, none⟩ = some (.bool x.live) := (blk_cell hp4 4).trans rfl
          have d5 : w4.cell? ⟨p, 5, none⟩ = some (.int .i64 x.owner) := (blk_cell hp4 5).trans rfl
          have hsz3 := HB3.out.size
          have HM4 : Aside0 (MapAt sK w4 w.heap.size (fun s => if due owner (er f1) s && !(left s) then some goneV else none) gn) := ⟨HM.out.grown hg4 (by intro e; have := Option.some.inj e; omega)⟩
          have HK4 : Aside0 (KeptOff (fun k => k = w.heap.size ∨ k = w1.heap.size) w3 w4) := ⟨HKq.out.grown hg4 fun k e => Or.inr (Or.inr (Option.some.inj e).symm)⟩
          have HR4 := Aside0.mk hR4
          have HLT := Aside0.mk hlt
          have HDUE := Aside0.mk (due_some (owner := owner) hfs)
          have HLS := Aside0.mk hls
          have HHS := Aside0.mk hs
          have HME : Aside0 (wr.rangeLeft mb w1.heap.size = todo) := ⟨HR.out.left_eq⟩
          clear hpb hpl hpg hp3 hpq hp4 hR4 hg4 hlt hfs hls hz4 HM HKq HR
          have HMX : Aside0 (gn < maxLen) := ⟨by have := HC.out; have h2 := samplesP_cnt most owner l (er f, cnt); rw [HP.out] at h2; have h3 : Pn.2.2 ≤ cnt + l.length := h2; unfold maxLen; omega⟩
          by_cases ho : x.owner = owner
          · have hob : (x.owner == owner) = true := by simpa using ho
            cases hlv : x.live with
            | true =>
              rw [hlv] at d4
              have hdue : due owner (er f1) s = true := by rw [HDUE.out, decide_eq_true ho, hlv]; rfl
              have HD := Aside0.mk hdue
              clear hdue ho hlv
              go_wp2_with (first
                | (at_mapUpdate; refine wpList_putGone rfl (.tmp 54) (.tmp 55) (.tmp 56) rfl rfl HM4.out HMX.out s HHS.out rfl rfl ?_; intro w5 hM5 hg5))
              skip
              have hsz5 := HK4.out.size
              have hR5 : RangeAt sK w5 mb w1.heap.size (fun s => (f1 s).map fun p => ptrV p.1) Pn.2.2 (fun y => left y && !decide (y = s)) todo' :=
                HR4.out.kept (hg5.block mb (by omega) (by intro e; have := Option.some.inj e; omega)) (hg5.block _ (by omega) (by intro e; have := Option.some.inj e; omega))
              have e0 : (if (due owner (er f1) s && !(left s)) = true then some goneV else none).isSome = false := by rw [HLS.out]; simp
              rw [e0, if_neg (by simp)] at hM5
              have hM6 : MapAt sK w5 w.heap.size (fun y => if due owner (er f1) y && !(left y && !decide (y = s)) then some goneV else none) (gn + 1) := hM5.congr fun y _ => by
                by_cases hy : y = s
                · subst hy
                  rw [upd_same, HD.out]
                  simp
                · rw [upd_other _ _ _ hy, decide_eq_false hy]
                  simp
              have hK5 : KeptOff (fun k => k = w.heap.size ∨ k = w1.heap.size) w3 w5 := HK4.out.grown hg5 fun k e => Or.inr (Or.inl (Option.some.inj e).symm)
              have HX := Aside0.mk (And.intro hR5 (And.intro hM6 hK5))
              clear hR5 hM6 hK5 hM5 hg5 e0
              go_frame
              go_roundw
              case rel => exact ⟨_, todo', gn + 1, ⟨HX.out.1⟩, ⟨HX.out.2.1⟩, by have := HLT.out; omega, ⟨HX.out.2.2⟩⟩
              case measure => rw [HX.out.1.left_eq, HME.out]; exact HLT.out
            | false =>
              rw [hlv] at d4
              have hdue : due owner (er f1) s = false := by rw [HDUE.out, hlv]; simp
              have HD := Aside0.mk hdue
              clear hdue ho hlv
              have hM5 : MapAt sK w4 w.heap.size (fun y => if due owner (er f1) y && !(left y && !decide (y = s)) then some goneV else none) gn := HM4.out.congr fun y _ => by
                  by_cases hy : y = s
                  · subst hy
                    rw [HD.out]
                    simp
                  · rw [decide_eq_false hy]
                    simp
              have HX := Aside0.mk hM5
              clear hM5
              go_wp2
              go_roundw
              case rel => exact ⟨_, todo', gn, HR4, HX, by have := HLT.out; omega, HK4⟩
              case measure => rw [HR4.out.left_eq, HME.out]; exact HLT.out
          · have hob : (x.owner == owner) = false := by simpa using ho
            have hdue : due owner (er f1) s = false := by rw [HDUE.out, decide_eq_false ho]; rfl
            have HD := Aside0.mk hdue
            clear hdue ho
            have hM5 : MapAt sK w4 w.heap.size (fun y => if due owner (er f1) y && !(left y && !decide (y = s)) then some goneV else none) gn := HM4.out.congr fun y _ => by
                by_cases hy : y = s
                · subst hy
                  rw [HD.out]
                  simp
                · rw [decide_eq_false hy]
                  simp
            have HX := Aside0.mk hM5
            clear hM5
            go_wp2
            go_roundw
            case rel => exact ⟨_, todo', gn, HR4, HX, by have := HLT.out; omega, HK4⟩
            case measure => rw [HR4.out.left_eq, HME.out]; exact HLT.out
end Go.Proofs.Ytneodhhoejjncaa
