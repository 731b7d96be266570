/- A text of this claim, pruned by a program of the session (prune.py) to what the theorem rests on. -/
import Derived.Test.YtneodhhoejjncaaQcGSort
namespace Go.Proofs.Ytneodhhoejjncaa
open Go.RowKit Go.Shelf Go.Sort Go.Proofs.YtneodhhoejjncaaW.PrintWords
set_option linter.unusedVariables false
set_option linter.unusedSimpArgs false
def Listed (S : StS) (xs : List (ByteArray × Lst)) : Prop :=
  xs.Pairwise (fun a b => Op.bytesLess a.1.data.toList b.1.data.toList = true) ∧ ∀ s x, (s, x) ∈ xs ↔ sK.ok s ∧ S s = some x
def bytesOf (a : ByteArray × Lst) : List UInt8 := a.1.data.toList
theorem listed_names {S : StS} {xs : List (ByteArray × Lst)} (hx : Listed S xs) {ss : List (List UInt8)} (hnd : ss.Nodup) (hm : ∀ x, x ∈ ss ↔ ∃ s v, sK.ok s ∧ S s = some v ∧ x = s.data.toList) :
    ss.mergeSort leS = xs.map bytesOf := by
  have hp : (xs.map bytesOf).Pairwise fun x y => Op.bytesLess x y = true := List.pairwise_map.2 hx.1
  have hnd2 : (xs.map bytesOf).Nodup := hp.imp fun {a b} h e => by
    rw [e, less_irrefl] at h
    cases h
  have hperm : (ss.mergeSort leS).Perm (xs.map bytesOf) := (List.mergeSort_perm ss leS).trans ((List.perm_ext_iff_of_nodup hnd hnd2).2 fun x => by
    rw [hm]
    constructor
    · rintro ⟨s, v, h1, h2, rfl⟩
      exact List.mem_map.2 ⟨(s, v), (hx.2 s v).2 ⟨h1, h2⟩, rfl⟩
    · intro h
      obtain ⟨⟨s, v⟩, h1, rfl⟩ := List.mem_map.1 h
      obtain ⟨h2, h3⟩ := (hx.2 s v).1 h1
      exact ⟨s, v, h2, h3, rfl⟩)
  have tr : ∀ a b c : List UInt8, leS a b = true → leS b c = true → leS a c = true := fun a b c h1 h2 => by
    simp only [leS, Bool.not_eq_true'] at *
    cases h : Op.bytesLess c a with
    | false => rfl
    | true =>
      have := less_swo.ntrans c b a h2 h1
      rw [this] at h
      cases h
  have tot : ∀ a b : List UInt8, (leS a b || leS b a) = true := fun a b => by
    simp only [leS, Bool.or_eq_true, Bool.not_eq_true']
    cases h : Op.bytesLess b a with
    | false => exact Or.inl rfl
    | true =>
      cases h2 : Op.bytesLess a b with
      | false => exact Or.inr rfl
      | true => have := less_trans h h2; rw [less_irrefl] at this; cases this
  refine List.Perm.eq_of_pairwise (le := fun a b => leS a b = true) (fun a b _ _ h1 h2 => ?_) (List.pairwise_mergeSort tr tot ss) (hp.imp fun {a b} h => ?_) hperm
  · simp only [leS, Bool.not_eq_true'] at h1 h2
    exact less_total h2 h1
  · simp only [leS, Bool.not_eq_true']
    cases h2 : Op.bytesLess b a with
    | false => rfl
    | true => have := less_trans h h2; rw [less_irrefl] at this; cases this
theorem str_keys {w : World} {b : Nat} {f : ByteArray → Option Value} {cnt : Nat} (h : MapAt sK w b f cnt) : ∃ D : DataW Value, w.ownsMap Try.prog 9 holdR b cnt D ∧ Maps.size D = cnt ∧ (strKeys D).length = cnt ∧ (strKeys D).Nodup ∧ ∀ x, x ∈ strKeys D ↔ ∃ s, sK.ok s ∧ (f s).isSome = true ∧ x = s.data.toList := by
  obtain ⟨es, ks, h1, h2, h3, h4, h5, h6⟩ := h.keysAt
  have e : strKeys (.map es : DataW Value) = ks.map fun s => s.data.toList := by
    have h7 := congrArg (List.map strOf) h3
    rw [List.map_map, List.map_map] at h7
    exact h7.symm
  refine ⟨.map es, h1, h2, by rw [e, List.length_map]; exact h5, ?_, fun x => ?_⟩
  · rw [e]
    exact List.pairwise_map.2 (h4.imp fun h e => h (bytes_of_data e))
  · rw [e, List.mem_map]
    constructor
    · rintro ⟨s, hs, rfl⟩
      exact ⟨s, ((h6 s).1 hs).1, ((h6 s).1 hs).2, rfl⟩
    · rintro ⟨s, h7, h8, rfl⟩
      exact ⟨s, (h6 s).2 ⟨h7, h8⟩, rfl⟩
set_option maxRecDepth 100000 in
set_option maxHeartbeats 4000000 in
theorem stops_st (lo hi n Bc B2 mb2 : Nat) (most : Int) (f : StF) (cnt : Nat) (xs : List (ByteArray × Lst)) (w : World) (hn : 9 ≤ n) (hhi : hi ≤ w.heap.size) (hlo : lo ≤ Bc) (hBh : Bc < hi) (hb : w.cell? ⟨Bc, 0, none⟩ = some (.pointer (some ⟨B2, 0, none⟩)))
    (hst : StAt w B2 mb2 most f cnt) (hf : ∀ k, foot B2 mb2 f k → lo ≤ k ∧ k < hi) (hc : cnt ≤ 4398046511104) (hx : Listed (er f) xs) :
    SeqStopsK Fence.wide n Try.prog 29 #[.pointer (some ⟨Bc, 0, none⟩)] pairV (KeepsIn lo hi w.heap.size) (fun ys => ys = xs) (fun pre => pre <+: xs) xs.length w := by
  intro l J Jx W hW hJ hJx hY h0
  have hBl : Bc < w.heap.size := by omega
  have hstW := hst.below hW
  have c0 : W.cell? ⟨Bc, 0, none⟩ = some (.pointer (some ⟨B2, 0, none⟩)) := (hW.cell (p := ⟨Bc, 0, none⟩) hBl).trans hb
  have c1 : W.cell? ⟨B2, 1, none⟩ = some (.map (some mb2)) := (blk_cell hstW.blk 1).trans rfl
  obtain ⟨D, hD1, hD2, hD5, hD3, hD4⟩ := str_keys hstW.map
  have cK : CallsIn Fence.wide (n - 1) Try.prog 31 #[.map (some mb2)] W fun e w' => e = .returned (.func (.func 35) #[] #[.pointer (some ⟨W.heap.size, 0, none⟩)]) ∧ w' = W.alloc (.cells #[.map (some mb2)] 50) := AnyZ.keys_in (ρ := Try.keysL_ren) Try.keysL Fence.wide (n - 1) trivial rfl (some mb2) W
  have hseq : SeqGives Fence.wide (n - 1 - 1 - 1 - 1) Try.prog 35 #[.pointer (some ⟨W.heap.size, 0, none⟩)] encStr (fun ss => ss.Perm (strKeys D)) (Maps.size D) (W.alloc (.cells #[.map (some mb2)] 50)) :=
    AnyZ.keys_gives (ρ := Try.keysL_ren) { Try.keysL with } Fence.wide _ trivial rfl (by omega) W.heap.size mb2 cnt D _ (by simp) (by simp) (by
      obtain ⟨es, clock, h1, h2⟩ := hD1
      exact ⟨es, clock, (Below.heap_alloc _ _ mb2 hstW.map.lt).trans h1, h2⟩)
  have cS := sortedFunc_in (n - 1) (by omega) 35 #[.pointer (some ⟨W.heap.size, 0, none⟩)] (enters_of Try.func35 (by kernel_rfl) rfl) _ _ (by rw [hD2]; unfold maxLen; omega) (by rw [hD2]; omega) _ hseq
  have h1 : 1 ≤ n := by omega
  have hf1 : Fence.wide.fn 31 := trivial
  have hf2 : Fence.wide.fn 30 := trivial
  have HD3 := Aside0.mk hD3
  have HD4 := Aside0.mk hD4
  have HY := Aside0.mk hY
  have HJ := Aside0.mk hJ
  have HX := Aside0.mk hx
  have HF := Aside0.mk hf
  have HST := Aside0.mk hstW
  have HW := Aside0.mk hW
  have H0 := Aside0.mk h0
  clear hD1 hD2 hD3 hD4 hY hJ hx hf hst hstW hW h0 hb hseq hJx
  refine callsIn_of_wp Try.func29 rfl trivial ?_ rfl
  simp only [Try.ntmps29, List.size_toArray, List.length_cons, List.length_nil, Nat.reduceAdd, Nat.reduceSub, Array.replicate_succ, Array.replicate_zero, List.push_toArray, List.append_toArray, List.nil_append, List.cons_append]
  gi_wp2_with (first
    | (gi_at_call 31; refine cK.mono ?_; rintro e w' ⟨rfl, rfl⟩)
    | (gi_at_call 30; refine cS.mono ?_; rintro e w4 ⟨v, ss, rfl, hS, hrow, hb4⟩; obtain ⟨A, cap, rfl⟩ := own_slice hrow))
  have hnm : ss.mergeSort leS = xs.map bytesOf := listed_names HX.out (hS.nodup_iff.2 HD3.out) fun x => by
    rw [hS.mem_iff, HD4.out x]
    constructor
    · rintro ⟨s, a, b, rfl⟩
      obtain ⟨v, hv⟩ := Option.isSome_iff_exists.1 b
      obtain ⟨p, hp, _⟩ := Option.map_eq_some_iff.1 hv
      exact ⟨s, p.2, a, by unfold er; rw [hp]; rfl, rfl⟩
    · rintro ⟨s, v, a, b, rfl⟩
      obtain ⟨p, hp, _⟩ := Option.map_eq_some_iff.1 b
      exact ⟨s, a, by rw [hp]; rfl, rfl⟩
  have hln : ss.length = xs.length := by
    have := congrArg List.length hnm
    rwa [List.length_mergeSort, List.length_map] at this
  rw [hnm, hln] at hrow
  rw [hln]
  have hbW : Below W.heap.size W w4 := ((Below.refl _ W).alloc (Nat.le_refl _) _).trans (hb4.mono (by simp))
  have hJ4 : J [] w4 := HJ.out [] W w4 none H0.out ⟨hbW.os, hbW.tape, hbW.output, hbW.size, fun k hk _ => hbW.block k hk⟩ (by simp)
  have HROW := Aside0.mk hrow
  have HB4 := Aside0.mk hbW
  have hxl : xs.length ≤ 4398046511104 := by rw [← hln, hS.length_eq, hD5]; exact hc
  clear hS hnm hrow hb4 hbW cK cS HD3 HD4 hD5 hln
  gi_wp2_with fail
  gi_loopw [14] (fun p wr => ∃ i : Nat, i ≤ xs.length ∧ p = .int .i64 i ∧ Aside0 (KeepsIn lo hi w.heap.size w4 wr) ∧ J (xs.take i) wr) (fun p _ => xs.length - (intOf p).toNat)
  case atStart => exact ⟨0, Nat.zero_le _, by go_num, ⟨keepsIn_r _⟩, hJ4⟩
  case round =>
    obtain ⟨i, hi, rfl, HK, hJi⟩ := hrel
    by_cases hlt : i < xs.length
    · have hlti : (i : Int) < (xs.length : Int) := by omega
      obtain ⟨gr, cap', hvl, hcap, hgr, ⟨css, hgb⟩, hcs⟩ := own_cells HROW.out (by omega)
      obtain ⟨rfl, rfl⟩ : A = some ⟨gr, 0, none⟩ ∧ cap = cap' := by simpa using hvl
      have hxi := List.getElem?_eq_getElem hlt
      have htk : xs.take (i + 1) = xs.take i ++ [xs[i]] := List.take_succ_eq_append_getElem hlt
      have hgw : wr.heap[gr]? = w4.heap[gr]? := (HK.out.2.2 gr _ (by have := HW.out.size; simp at hgr; omega) hgb rfl).trans hgb.symm
      have hn1 : wr.cell? ⟨gr, i, none⟩ = some (.string xs[i].1) := by
        refine (cell_blk _ hgw).trans (hcs i _ ?_)
        rw [List.getElem?_map, List.getElem?_map, hxi]
        simp [bytesOf, encStr]
      obtain ⟨hok, hSx⟩ := (HX.out.2 xs[i].1 xs[i].2).1 (List.getElem_mem hlt)
      obtain ⟨⟨p, y⟩, hfp, hyx⟩ := Option.map_eq_some_iff.1 hSx
      have hyx' : y = xs[i].2 := hyx
      subst hyx'
      have hstr : StAt wr B2 mb2 most f cnt := HST.out.kept fun k hk => by
        have := HF.out k hk
        exact (HK.out.2.1 k this.1 this.2).trans (HB4.out.block k (HST.out.lt hk))
      have hpb := hstr.els _ p _ hok hfp
      have d0 : wr.cell? ⟨Bc, 0, none⟩ = some (.pointer (some ⟨B2, 0, none⟩)) := ((cell_blk 0 (HK.out.2.1 Bc hlo hBh)).trans (HB4.out.cell (p := ⟨Bc, 0, none⟩) (Nat.lt_of_lt_of_le hBl HW.out.size))).trans c0
      have d1 : wr.cell? ⟨B2, 1, none⟩ = some (.map (some mb2)) := (blk_cell hstr.blk 1).trans rfl
      have q4 := look1_store hstr hok hfp
      obtain ⟨fn, tmps, assign, body, hy, hR⟩ := HY.out (xs.take i) xs[i] wr hJi (by rw [List.length_take]; omega)
      have HR := Aside0.mk hR
      have HTK := Aside0.mk htk
      generalize hxx : xs[i] = z at *
      have p0 : wr.cell? ⟨p, 0, none⟩ = some (.string z.2.x.nm) := (blk_cell hpb 0).trans rfl
      have p1 : wr.cell? ⟨p, 1, none⟩ = some (.int .i64 z.2.x.val) := (blk_cell hpb 1).trans rfl
      have p2 : wr.cell? ⟨p, 2, none⟩ = some (.int .i64 z.2.x.time) := (blk_cell hpb 2).trans rfl
      have p3 : wr.cell? ⟨p, 3, none⟩ = some (.bool z.2.x.counts) := (blk_cell hpb 3).trans rfl
      have p4 : wr.cell? ⟨p, 4, none⟩ = some (.bool z.2.live) := (blk_cell hpb 4).trans rfl
      have p5 : wr.cell? ⟨p, 5, none⟩ = some (.int .i64 z.2.owner) := (blk_cell hpb 5).trans rfl
      have HXX := Aside0.mk hxx
      simp only [pairV, lstL] at hy
      clear hR htk hvl hcs hgb hgw hSx hyx hstr hpb hfp hok hxi hxx
      gi_wp2_with fail
      refine HR.out.mono ?_
      rintro e W3 (⟨rfl, hJ3, hk3⟩ | ⟨rfl, hJx3⟩)
      · have HK3 := Aside0.mk (keepsIn_t HK.out hk3)
        have HJ3 : Aside0 (J (xs.take (i + 1)) W3) := ⟨by rw [HTK.out]; exact hJ3⟩
        clear hJ3 hk3 HR HK
        gi_wp2
        go_roundw
        case rel => exact ⟨i + 1, by omega, by go_num, HK3, HJ3.out⟩
        case measure => simp [intOf]; omega
      · have HP : Aside0 (∃ pre, pre <+: xs ∧ Jx pre W3) := ⟨_, (by rw [← HTK.out]; exact List.take_prefix _ _), hJx3⟩
        clear hJx3 HR HK
        gi_wp2
        refine bodyPost_ret (results_none rfl _ _ _) rfl ?_
        exact ⟨⟨_, rfl⟩, .inr HP.out⟩
    · obtain rfl : i = xs.length := by omega
      rw [List.take_length] at hJi
      have HJi := Aside0.mk hJi
      clear hJi
      gi_wp2_with fail
      go_end0
      exact ⟨⟨_, rfl⟩, .inl ⟨_, rfl, HJi.out⟩⟩
theorem all_calls (B mb : Nat) (most : Int) (f : StF) (cnt : Nat) (w : World) (h : StAt w B mb most f cnt) (hm : 0 ≤ most) (hc : cnt ≤ 4398046511104) (xs : List (ByteArray × Lst)) (hx : Listed (er f) xs) :
    Calls Try.prog 21 #[.pointer (some ⟨B, 0, none⟩)] w (AllAt xs w) := by
  have hcp := copy_calls B mb most f cnt w h hm (by unfold maxLen; omega)
  have HX := Aside0.mk hx
  clear h hx
  go_enter Try.func21, Try.ntmps21
  go_wp2_with (go_at_call 16; refine hcp.mono ?_; rintro e w1 ⟨B2, mb2, f2, rfl, hst, her, hfr, hb1⟩)
  go_ret
  have hb := Boxed.new w1 25 (.pointer (some ⟨B2, 0, none⟩))
  have hbw : Below w.heap.size w (w1.alloc (.cells #[.pointer (some ⟨B2, 0, none⟩)] 25)) := hb1.alloc hb1.size _
  refine ⟨_, rfl, hbw, _, rfl, fun w2 hw n hn => ?_⟩
  have hst2 := (hst.alloc (.cells #[.pointer (some ⟨B2, 0, none⟩)] 25)).below hw
  refine stops_st w.heap.size _ n _ B2 mb2 most f2 cnt xs w2 hn hw.size hb1.size (by simp) ((hw.cell (p := ⟨_, 0, none⟩) hb.lt).trans hb.cell) hst2 (fun k hk => ⟨hfr k hk, ?_⟩) hc (by rw [her]; exact HX.out)
  have := hst.lt hk
  simp
  omega
end Go.Proofs.Ytneodhhoejjncaa
