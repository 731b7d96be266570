/- A text of this claim, pruned by a program of the session (prune.py) to what the theorem rests on. -/
import Derived.Test.YtneodhhoejjncaaQpGRefZ
import Derived.Test.YtneodhhoejjncaaQpGStMe
namespace Go.Proofs.Ytneodhhoejjncaa
open Go.RowKit Go.Proofs.YtneodhhoejjncaaW.PrintWords Go.Proofs.YtneodhhoejjncaaW.PrintMore Go.Proofs.Ytneodhhoejjncaa.PFew
set_option linter.unusedVariables false
set_option linter.unusedSimpArgs false
structure Played (w wr : World) (B mb R : Nat) (m : Int) (i : Nat) (f : StF) (cnt : Nat) (xs : List Sr) (v : Value) : Prop where
  st : StAt wr B mb m f cnt
  rf : RefAt wr w.heap.size R m xs v
  ls : Listed (er f) xs
  len : xs.length = cnt
  few : cnt ≤ 200 * i
  below : Below w.heap.size w wr
  foot : ∀ k, foot B mb f k → w.heap.size ≤ k
  rfoot : ∀ k, rfoot R v k → w.heap.size ≤ k
theorem Played.step {w wr W : World} {B mb R : Nat} {m : Int} {i : Nat} {f : StF} {cnt : Nat} {xs : List Sr} {v : Value} (h : Played w wr B mb R m i f cnt xs v) (hb : Below wr.heap.size wr W) : Played w W B mb R m i f cnt xs v :=
  ⟨h.st.below hb, h.rf.below hb, h.ls, h.len, h.few, h.below.trans (hb.mono h.below.size), h.foot, h.rfoot⟩
theorem Played.off {w wr W : World} {B mb R : Nat} {m : Int} {i : Nat} {f : StF} {cnt : Nat} {xs : List Sr} {v : Value} {F : Nat → Prop} (h : Played w wr B mb R m i f cnt xs v) (hk : KeptOff F wr W) (hF : ∀ k, F k → w.heap.size ≤ k ∧ ∃ cs, wr.heap[k]? = some (.cells cs 34 (0, 0))) : Played w W B mb R m i f cnt xs v :=
  ⟨h.st.off hk fun k hf e => (by
      obtain ⟨_, cs, hc⟩ := hF k e
      exact foot_not_cells h.st hc (by decide) (by decide) hf),
   h.rf.off hk fun k hf e => (by
      obtain ⟨_, cs, hc⟩ := hF k e
      exact rfoot_ne h.rf hc (by decide) (by decide) hf), h.ls, h.len, h.few, h.below.trans (hk.toBelow h.below.size fun k e => (hF k e).1), h.foot, h.rfoot⟩
theorem played_put {w w4 w5 w6 : World} {B mb R n : Nat} {m ow : Int} {i : Nat} {f f5 : StF} {cnt : Nat} {xs : List Sr} {v v6 : Value} {Li : List Smp} (h : Played w w4 B mb R m i f cnt xs v) (hk : ∀ x ∈ Li, sK.ok x.nm) (hn : Li.length = n) (hn2 : n ≤ 200)
    (he : er f5 = outS ow Li (samplesP m ow Li (er f, cnt)).2.1) (hL : Left w4 w5 B mb m f f5 (samplesP m ow Li (er f, cnt)).2.2) (hR : RLeft w5 w6 w.heap.size R m v v6 (outL ow Li (samplesL m ow Li (er f, xs)).2)) :
    Played w w6 B mb R m (i + 1) f5 (samplesP m ow Li (er f, cnt)).2.2 (outL ow Li (samplesL m ow Li (er f, xs)).2) v6 := by
  obtain ⟨e1, e2, e3⟩ := listed_samples m ow Li (er f) xs hk h.ls
  rw [h.len] at e1 e2 e3
  have hcn : (samplesP m ow Li (er f, cnt)).2.2 ≤ cnt + Li.length := samplesP_cnt m ow Li (er f, cnt)
  have hrf5 : RefAt w5 w.heap.size R m xs v := h.rf.off hL.kept fun k hk => rfoot_not h.st h.rf hk
  have hf5 : ∀ k, foot B mb f5 k → w.heap.size ≤ k := fun k hk => by
    rcases hL.grows k hk with g | g
    · exact h.foot k g
    · have := h.below.size; omega
  refine ⟨?_, hR.st, ?_, ?_, ?_, ?_, hf5, fun k hk => ?_⟩
  · exact hL.st.off hR.kept fun k hf e => rfoot_not hL.st hrf5 e hf
  · rw [he]
    exact listed_out e2 ow Li
  · rw [outL_len]
    exact e3
  · have := h.few; omega
  · have hb5 : Below w.heap.size w w5 := h.below.trans (hL.kept.toBelow h.below.size h.foot)
    exact hb5.trans (hR.kept.toBelow hb5.size h.rfoot)
  · rcases hR.grows k hk with g | g
    · exact h.rfoot k g
    · have := h.below.size; have := hL.kept.size; omega
theorem addr_add (b off j : Nat) : (⟨b, off, none⟩ : Addr).add j = ⟨b, off + j, none⟩ := by
  unfold Addr.add
  split <;> simp_all
theorem snF_len (l : List Sn) : (snF l).length = l.length * 7 := by
  induction l with
  | nil => rfl
  | cons x r ih => unfold snF at *; rw [List.flatMap_cons, List.length_append, ih]; simp [snL]; omega
structure RPut (w w5 w6 : World) (R n : Nat) (m ow : Int) (S : StS) (cnt : Nat) (xs : List Sr) (v : Value) (Li : List Smp) (Ar : Option Addr) (cr : Nat) : Prop where
  row : w6.ownsRow w5.heap.size 37 7 (.slice Ar n cr) n (snF (samplesP m ow Li (S, cnt)).1)
  st : ∃ v6, RLeft w5 w6 w.heap.size R m v v6 (outL ow Li (samplesL m ow Li (S, xs)).2)
set_option maxRecDepth 100000 in
theorem wpList_copyS {ops : Array Oper} {rest : List Oper} {o : Oper} {a : Act} {Q : Exit → Act → World → Prop} {W : World} {F : Nat → Prop} (hgd : o.guard = none) (x : Operand) (ho : o.op = .call { callee := .builtin .append, args := #[.const (.slice none 0 0), x], argTypes := #[27, 27] })
    (A : Option Addr) (n c : Nat) (l : List Smp) (hx : a.eval x = .slice A n c) (hn : l.length = n) (hn2 : n ≤ 200) (hr : ReadsS F W A l)
    (h : ∀ v' w', w'.ownsRow W.heap.size 34 4 v' n (smpF l) → Below W.heap.size W w' → wpList Try.prog ops Q rest (a.put o.dst v') w') : wpList Try.prog ops Q (o :: rest) a W := by
  obtain ⟨i, hi, hzz⟩ := Option.map_eq_some_iff.1 info_smp
  simp only [Prod.mk.injEq] at hzz
  obtain ⟨hz0, hz1, hz2⟩ := hzz
  have ht : Try.prog.underlying 27 = some (.slice 34) := Try.underlying27
  have hs : a.eval (.const (.slice none 0 0)) = .slice none 0 0 := rfl
  have hb : ∀ w', W.grownBy w' (Value.slice none 0 0).ownBlock → Below W.heap.size W w' := fun w' hg => ⟨hg.os, hg.tape, hg.output, hg.size, fun k hk => hg.block k hk (fun e => by cases e)⟩
  have go : ∀ ad, A = some ad → (∀ j u, (smpF l)[j]? = some u → W.cell? (ad.add j) = some u) → wpList Try.prog ops Q (o :: rest) a W := fun ad hA hc => by
    subst hA
    refine wpList_append_own_at W hgd (.const (.slice none 0 0)) x 27 ho W.heap.size 34 i _ 4 40 ht hi hz0 hz1 hz2 rfl (by decide) (.slice none 0 0) 0 [] hs (own_nil _ _ _ _) ad n c (smpF l) hx (by rw [smpF_len, hn]) hc (smpF_one l) (by simp only [maxLen]; omega) (by omega) (Nat.le_refl _) ?_
    intro v' w' hown hg _ _
    rw [Nat.zero_add, List.nil_append] at hown
    exact h v' w' hown (hb w' hg)
  rcases hr with rfl | ⟨b, off, hA, hbl, _, hc⟩
  · cases A with
    | some ad => exact go ad rfl (fun j u hu => by simp [smpF] at hu)
    | none =>
      have hn0 : n = 0 := by simpa using hn.symm
      subst hn0
      have hrun : (Builtin.append_ #[27, 27] o.type #[.slice none 0 0, .slice none 0 c]).run Try.prog W = .ok (.slice none 0 0) W := by simp [Builtin.append_, run_underlying ht, sizeOf, typeInfo, hi, Builtin.lenOf, Builtin.firstCells]
      refine wpList_plain hgd fun K hK => ?_
      unfold Oper.wp execOp
      simp only [ho, resolve, invoke, builtin, Sem.run_bind, Sem.run_pure, Result.andThen_ok, List.map_toArray, List.map_cons, List.map_nil, hs, hx, hrun]
      exact hK _ _ (h _ W (own_nil _ _ _ _) (Below.refl _ _))
  · refine go ⟨b, off, none⟩ hA (fun j u hu => ?_)
    have hj : j < l.length * 4 := by have := (List.getElem?_eq_some_iff.1 hu).1; rw [smpF_len] at this; exact this
    have hk : j / 4 < l.length := by omega
    have hx := List.getElem?_eq_getElem hk
    have e : j = j / 4 * 4 + j % 4 := by omega
    rw [e, smpF_get l (j / 4) _ (j % 4) hx (by omega)] at hu
    have := hc (j / 4) _ hx (j % 4) u hu
    have e2 : (⟨b, off, none⟩ : Addr).add j = ⟨b, off + j / 4 * 4 + j % 4, none⟩ := by
      have e3 : off + j / 4 * 4 + j % 4 = off + j := by omega
      rw [e3]
      exact addr_add b off j
    rw [e2]
    exact this
set_option maxRecDepth 100000 in
set_option maxHeartbeats 8000000 in
theorem plays_few (most leave : Int) (A : Option Addr) (c : Nat) (l : List S31) (w : World) (hr : Kd.C k31 w A l.length l) (hc : l.length ≤ c) (hn : ∀ p ∈ l, ∀ x ∈ p.f1, x.f0.size ≤ 140737488351232) (hf : odometerlaw16_few.f 32 l 30 = some true) (h30 : l.length ≤ 30) (h200 : ∀ p ∈ l, p.f1.length ≤ 200) :
    Calls Try.prog 4 #[.int .i64 most, .slice A l.length c, .int .i64 leave] w fun e w' => e = .returned (.bool true) ∧ Below w.heap.size w w' := by
  have hfew := odometerlaw16_few.calls 32 A c l 30 true w hr hc hf
  obtain ⟨m, hm⟩ : ∃ m, m = (if most < 0 then 0 else most) := ⟨_, rfl⟩
  have hm0 : 0 ≤ m := by rw [hm]; split <;> omega
  have hmax : ∀ W, (Builtin.max_ #[3, 3] 3 #[.int .i64 most, .int .i64 0]).run Try.prog W = .ok (.int .i64 m) W := fun W => by
    rw [hm, max_two, max2_int]
    rfl
  have hnew := fun W => new_calls most W
  rw [← hm] at hnew
  have hrnew := fun W => rnew_calls most m w.heap.size hmax W
  have hno : sK.ok ⟨#[110, 111, 32, 115, 117, 99, 104, 32, 110, 97, 109, 101]⟩ := by
    show (12 : Nat) ≤ maxLen
    unfold maxLen
    omega
  have hsame := fun W (i : Nat) (hi : i ≤ 30) B mb R f cnt xs v (hP : Played w W B mb R m i f cnt xs v) => same_calls B mb m f cnt w.heap.size R m xs v leave W hP.st hP.rf hP.ls hm0 (by have := hP.few; omega) hP.len hno (by have := hP.few; have := hP.len; omega)
  have HSAME := Aside0.mk hsame
  have HM := Aside0.mk hm
  have HR := Aside0.mk hr
  have HN := Aside0.mk hn
  have H2 := Aside0.mk h200
  clear hm hr hn h200 hf hsame hno
  go_enter Try.func4, Try.ntmps4
  go_wp2_with fail
  refine hfew.mono ?_
  rintro e w1 ⟨rfl, hd⟩
  have hb1 := hd.below
  have hz1 : w1.heap.size = w.heap.size := by obtain ⟨n, rfl⟩ := hd.out; rfl
  clear hfew hd hmax
  go_wp2_with fail
  refine (hnew w1).mono ?_
  rintro e w2 ⟨B, mb, rfl, hB, hmb, hst, hb2⟩
  go_wp2_with fail
  refine (hrnew w2).mono ?_
  rintro e w3 ⟨R, rfl, hRl, hrf, hb3⟩
  have hsz2 := hb2.size
  have HO : Aside0 (Played w w3 B mb R m 0 (fun _ => none) 0 [] (.slice none 0 0)) := ⟨⟨hst.below hb3, hrf, ⟨List.Pairwise.nil, fun s x => ⟨fun h => (by cases h), fun h => (by cases h.2)⟩⟩, rfl, Nat.le_refl _, hb1.trans ((hb2.mono (by omega)).trans (hb3.mono (by omega))), (by
      rintro k (e | e | ⟨s, x, _, e⟩)
      · omega
      · omega
      · cases e), (by
      rintro k (e | e)
      · omega
      · cases e)⟩⟩
  clear hst hb1 hb2 hnew hrnew hrf hb3 hsz2 hB hmb hRl hz1
  go_wp2_with fail
  refine (HSAME.out w3 0 (by omega) B mb R _ _ _ _ HO.out).mono ?_
  rintro e w4 ⟨rfl, hb4⟩
  have HO4 := Aside0.mk (HO.out.step hb4)
  clear HO hb4
  go_wp2_with fail
  go_loopw [9] (fun v0 wr => ∃ (i : Nat) (f : StF) (cnt : Nat) (xs : List Sr) (v : Value), i ≤ l.length ∧ v0 = .int .i64 i ∧ Aside0 (Played w wr B mb R m i f cnt xs v)) (fun v _ => l.length - (intOf v).toNat)
  case atStart => exact ⟨0, _, 0, [], _, Nat.zero_le _, by go_num, HO4⟩
  case round =>
    clear HO4
    obtain ⟨i, f, cnt, xs, v, hi, rfl, HO⟩ := hrel
    by_cases hlt : i < l.length
    · have hlti : (i : Int) < (l.length : Int) := by omega
      obtain ⟨g, off, rfl, hg, hcc⟩ := C_at HR.out (by omega) (show 0 < k31.sz by decide)
      obtain ⟨cs, _, hK, hcell⟩ := hcc i l[i] (List.getElem?_eq_getElem hlt)
      obtain ⟨Ai, ci, rfl, hci, hCi⟩ := k31_open hK
      have g0 : wr.cell? ⟨g, off + i * 2, none⟩ = some (.int .i64 l[i].f0) := (HO.out.below.cell (p := ⟨g, off + i * 2, none⟩) hg).trans (hcell 0 _ rfl)
      have g1 : wr.cell? ⟨g, off + i * 2 + 1, none⟩ = some (.slice Ai l[i].f1.length ci) := (HO.out.below.cell (p := ⟨g, off + i * 2 + 1, none⟩) hg).trans (hcell 1 _ rfl)
      have hlen := H2.out l[i] (List.getElem_mem hlt)
      have hnm := HN.out l[i] (List.getElem_mem hlt)
      clear hcc hcell hK
      generalize l[i] = P at *
      have hlm : (P.f1.map smpOf).length = P.f1.length := List.length_map _
      have hlk : ∀ x ∈ P.f1.map smpOf, sK.ok x.nm := fun x hx => by
        obtain ⟨y, hy, rfl⟩ := List.mem_map.1 hx
        have := hnm y hy
        show y.f0.size ≤ maxLen
        unfold maxLen
        omega
      have HRD0 : Aside0 (ReadsS (fun k => w.heap.size ≤ k) wr Ai (P.f1.map smpOf)) := ⟨(reads_of hCi (F := fun k => w.heap.size ≤ k) (fun k hk => by omega)).kept (Kept_below HO.out.below)⟩
      have HLM := Aside0.mk hlm
      have HLK := Aside0.mk hlk
      clear hlm hlk hnm hCi
      generalize hLi : P.f1.map smpOf = Li at *
      generalize hnP : P.f1.length = n at *
      generalize hoP : P.f0 = ow at *
      clear hLi hnP hoP
      have hgl : g < wr.heap.size := World.block_lt_of_cell? _ _ g0
      have HOB := Aside0.mk HO.out
      go_wp2_with (first
        | (at_builtin; refine wpList_copyS rfl (.tmp 40) rfl Ai n ci Li rfl HLM.out hlen HRD0.out ?_; intro vo w4 hown hbo; obtain ⟨Ao, co, rfl⟩ := own_slice hown; have k0 := pw_cell_below hbo g0; have k1 := pw_cell_below hbo g1; have HOWN := Aside0.mk hown; have HO4 := Aside0.mk (HO.out.step hbo); have HBO := Aside0.mk hbo; clear hown hbo g0 g1))
      have HRD4 : Aside0 (ReadsS (fun k => w.heap.size ≤ k) w4 Ai Li) := ⟨HRD0.out.kept (Kept_below HBO.out)⟩
      have hzw := HO.out.below.size
      have hown_reads : ReadsS (foot B mb f) w4 Ao Li := by
        have hlm := HLM.out
        cases hLi : Li with
        | nil => exact Or.inl rfl
        | cons x0 r0 =>
          rw [hLi] at hlm
          have hn0 : 0 < n := by simp at hlm; omega
          obtain ⟨go, cpo, hvo, _, hgo, ⟨cso, hco⟩, hcc⟩ := own_cells HOWN.out hn0
          obtain ⟨rfl, rfl⟩ : Ao = some ⟨go, 0, none⟩ ∧ co = cpo := by simpa using hvo
          refine Or.inr ⟨go, 0, rfl, blk_lt hco, foot_not_cells HO4.out.st hco (by decide) (by decide), fun q y hy j u hu => ?_⟩
          have hj : j < 4 := (List.getElem?_eq_some_iff.1 hu).1
          rw [Nat.zero_add]
          rw [← hLi] at hy
          exact hcc (q * 4 + j) u ((smpF_get Li q y j hy hj).trans hu)
      have hput := put_calls B mb m ow f cnt Ao co Li w4 HO4.out.st hown_reads HLK.out (by have := HO.out.few; have := HLM.out; omega)
      rw [HLM.out] at hput
      clear hown_reads
      refine hput.mono ?_
      rintro e w5 ⟨vs, rfl, hrow5, f5, he5, hL5⟩
      obtain ⟨As, cs5, rfl⟩ := own_slice hrow5
      have hgw := fun o => cell_blk o (hL5.kept.block g (by have := HBO.out.size; omega) (fun hk => by have := HO4.out.foot g hk; omega))
      have k2 : w5.cell? ⟨g, off + i * 2, none⟩ = some (.int .i64 ow) := (hgw _).trans k0
      have k3 : w5.cell? ⟨g, off + i * 2 + 1, none⟩ = some (.slice Ai n ci) := (hgw _).trans k1
      have hz4 := HBO.out.size
      have hz5 := hL5.kept.size
      have HL5 := Aside0.mk hL5
      have HE5 := Aside0.mk he5
      have HROW5 := Aside0.mk hrow5
      have hrf5 : RefAt w5 w.heap.size R m xs v := HO4.out.rf.off hL5.kept fun k hk => rfoot_not HO4.out.st HO4.out.rf hk
      have hrd5 : ReadsS (rfoot R v) w5.drew Ai Li := ((HRD4.out.kept (hL5.kept.mono HO4.out.foot)).kept (Kept_below (below_drew (Below.refl _ _)))).wide fun k hk hn hf => hn (HO4.out.rfoot k hf)
      have hput2 : Calls Try.prog 15 #[.pointer (some ⟨R, 0, none⟩), .int .i64 ow, .slice Ai n ci] w5.drew fun e w' => ∃ Ar cr, e = .returned (.slice Ar n cr) ∧ (w'.cell? ⟨g, off + i * 2, none⟩ = some (.int .i64 ow) ∧ w'.cell? ⟨g, off + i * 2 + 1, none⟩ = some (.slice Ai n ci)) ∧ Aside0 (RPut w w5 w' R n m ow (er f) cnt xs v Li Ar cr) := by
        have h9 := rput_calls w.heap.size R m ow xs v (er f) Ai ci Li w5.drew (hrf5.below (below_drew (Below.refl _ _))) (by show w.heap.size ≤ w5.heap.size; omega) HO4.out.ls hrd5 HLK.out (by have := HO.out.few; have := HO.out.len; have := HLM.out; omega)
        rw [HLM.out, HO4.out.len] at h9
        refine h9.mono ?_
        rintro e w' ⟨vr, rfl, hrow, v6, hR6⟩
        obtain ⟨Ar, cr, rfl⟩ := own_slice hrow
        have hR7 : RLeft w5 w' w.heap.size R m v v6 (outL ow Li (samplesL m ow Li (er f, xs)).2) := (RLeft.same hrf5 (below_drew (Below.refl _ _))).trans hR6
        have hgw6 := fun o => cell_blk o (hR7.kept.block g (by omega) (fun hk => by have := HO4.out.rfoot g hk; omega))
        exact ⟨Ar, cr, rfl, ⟨(hgw6 _).trans k2, (hgw6 _).trans k3⟩, ⟨⟨hrow, v6, hR7⟩⟩⟩
      have HSS : Aside0 (∀ w6 Ar cr, RPut w w5 w6 R n m ow (er f) cnt xs v Li Ar cr → Calls Try.prog 14 #[.slice As n cs5, .slice Ar n cr] w6 fun e w' => e = .returned (.bool true) ∧ Below w6.heap.size w6 w') := ⟨fun w6 Ar cr hq => by
        obtain ⟨v6, hR6⟩ := hq.st
        refine rsame_seen _ _ As Ar cs5 cr n _ w6 (own_keptOff HROW5.out hR6.kept fun k cs hb => rfoot_ne hrf5 hb (by decide) (by decide)) hq.row ?_ (by omega)
        have := HROW5.out.1
        rw [snF_len] at this
        omega⟩
      have HPL : Aside0 (∀ w6 Ar cr w7, RPut w w5 w6 R n m ow (er f) cnt xs v Li Ar cr → Below w6.heap.size w6 w7 → ∃ v6, Played w w7 B mb R m (i + 1) f5 (samplesP m ow Li (er f, cnt)).2.2 (outL ow Li (samplesL m ow Li (er f, xs)).2) v6) := ⟨fun w6 Ar cr w7 hq hb => by
        obtain ⟨v6, hR6⟩ := hq.st
        exact ⟨v6, (played_put HO4.out HLK.out HLM.out hlen HE5.out HL5.out hR6).step hb⟩⟩
      have HSM : Aside0 (∀ w6 Ar cr w7, RPut w w5 w6 R n m ow (er f) cnt xs v Li Ar cr → Below w6.heap.size w6 w7 → Calls Try.prog 13 #[.pointer (some ⟨B, 0, none⟩), .pointer (some ⟨R, 0, none⟩), .int .i64 leave] w7 fun e w' => e = .returned (.bool true) ∧ Below w7.heap.size w7 w') := ⟨fun w6 Ar cr w7 hq hb => by
        obtain ⟨v6, hP⟩ := HPL.out w6 Ar cr w7 hq hb
        exact HSAME.out w7 (i + 1) (by omega) B mb R _ _ _ _ hP⟩
      have HRF5 := Aside0.mk hrf5
      clear hrow5 he5 hL5 hrf5 hrd5 hput hgw k0 k1
      go_wp2_with fail
      go_region_held3 (fun w' => w'.cell? ⟨g, off + i * 2, none⟩ = some (.int .i64 ow) ∧ w'.cell? ⟨g, off + i * 2 + 1, none⟩ = some (.slice Ai n ci)) (first | go_keep)
        (first
          | (go_at_call 15; refine hput2.mono ?_; rintro e w6 ⟨Ar, cr, rfl, ⟨k4, k5⟩, HQ⟩)
          | (go_at_call 14; refine (HSS.out _ _ _ HQ.out).mono ?_; rintro e w7 ⟨rfl, hb7⟩; have k6 := pw_cell_below hb7 k4; have k7 := pw_cell_below hb7 k5; have HB7 := Aside0.mk hb7)
          | (go_at_call 13; refine (HSM.out _ _ _ _ HQ.out HB7.out).mono ?_; rintro e w8 ⟨rfl, hb8⟩; have k8 := pw_cell_below hb8 k6; have k9 := pw_cell_below hb8 k7; have HB8 := Aside0.mk hb8))
      obtain ⟨v6, hP7⟩ := HPL.out _ _ _ _ HQ.out HB7.out
      have HP8 := Aside0.mk (hP7.step HB8.out)
      have hrow8 : w8.ownsRow wr.heap.size 34 4 (.slice Ao n co) n (smpF Li) := by
        obtain ⟨v6, hR6⟩ := HQ.out.st
        have r5 := own_keptOff HOWN.out HL5.out.kept fun k cs hb => foot_not_cells HO4.out.st hb (by decide) (by decide)
        have r6 := own_keptOff r5 hR6.kept fun k cs hb => rfoot_ne HRF5.out hb (by decide) (by decide)
        exact pw_own_below (pw_own_below r6 HB7.out) HB8.out
      have HROW8 := Aside0.mk hrow8
      clear hP7 hrow8 hput2 HSS HPL HSM HQ HB7 HB8 HL5 HE5 HROW5 HRF5 HRD4 HRD0 HO4 hb7 hb8 k2 k3 k4 k5 k6 k7 k8 k9
      go_wp2_with fail
      generalize hq0 : wr = wq at *
      clear hq0
      go_loopw [12] (fun k0 W2 => ∃ (q : Nat) (L2 : List Smp), q ≤ n ∧ k0 = .int .i64 q ∧ L2.length = n ∧ Aside0 (W2.ownsRow wq.heap.size 34 4 (.slice Ao n co) n (smpF L2)) ∧ Aside0 (KeptOff (fun k => (Value.slice Ao n co).ownBlock = some k) w8 W2)) (fun k0 _ => n - (intOf k0).toNat)
      case atStart => exact ⟨0, Li, Nat.zero_le _, by go_num, HLM.out, HROW8, ⟨KeptOff.refl _ _⟩⟩
      case round =>
        obtain ⟨q, L2, hq, rfl, hl2, hrow, hkp⟩ := hrel
        by_cases hqn : q < n
        · have hqi : (q : Int) < (n : Int) := by omega
          obtain ⟨go, cpo, hvo, hcpo, hgo, ⟨cso, hco⟩, hcc⟩ := own_cells hrow.out (by omega)
          obtain ⟨rfl, rfl⟩ : Ao = some ⟨go, 0, none⟩ ∧ co = cpo := by simpa using hvo
          have hx : L2[q]? = some (L2[q]'(by omega)) := List.getElem?_eq_getElem _
          generalize L2[q]'(by omega) = x at *
          have c1 : wr.cell? ⟨go, q * 4 + 1, none⟩ = some (.int .i64 x.val) := hcc (q * 4 + 1) _ ((smpF_get L2 q x 1 hx (by omega)).trans rfl)
          have f1 : wr.frozen? ⟨go, q * 4 + 1, none⟩ = false := blk_frozen hco _
          have hst := fun u => (hrow.out.stored (q * 4 + 1) u).1
          have HX := Aside0.mk hx
          have HST := Aside0.mk hst
          have HL2 := Aside0.mk hl2
          clear hcc hvo hst hx hl2
          go_wp2_with fail
          refine ⟨⟨q + 1, L2.set q ⟨x.nm, wrap64 (x.val + 1), x.time, x.counts⟩, by omega, by go_num, by rw [List.length_set]; exact HL2.out, ⟨?_⟩, ⟨hkp.out.setCell (p := ⟨go, q * 4 + 1, none⟩) (Or.inr rfl) _⟩⟩, by simp [intOf]; omega⟩
          rw [← set_val L2 q x _ HX.out]
          exact HST.out _
        · have hqe : q = n := by omega
          have hqi : ¬ (q : Int) < (n : Int) := by omega
          have HPx := Aside0.mk (HP8.out.off hkp.out fun k hk => (by
            obtain ⟨h1, h2⟩ := own_ty HROW8.out hk
            exact ⟨by omega, h2⟩))
          have HQE := Aside0.mk hqe
          clear hqe hrow hkp
          go_wp2_with fail
          refine (HSAME.out wr (i + 1) (by omega) B mb R _ _ _ _ HPx.out).mono ?_
          rintro e w9 ⟨rfl, hb9⟩
          have HP9 := Aside0.mk (HPx.out.step hb9)
          clear hb9
          go_wp2_with fail
          exact ⟨⟨i + 1, _, _, _, _, by omega, by go_num, HP9⟩, by simp [intOf]; omega⟩
    · obtain rfl : i = l.length := by omega
      have hlti : ¬ (l.length : Int) < (l.length : Int) := by omega
      have hbz := HO.out.below
      clear HO
      go_wp2_with fail
      refine (known_calls wr).mono ?_
      rintro e w5 ⟨rfl, hb5⟩
      go_wp2_with fail
      go_ret
      exact ⟨rfl, hbz.trans (hb5.mono hbz.size)⟩
set_option maxRecDepth 100000 in
set_option maxHeartbeats 1000000 in
theorem plays_else (most leave : Int) (A : Option Addr) (c : Nat) (l : List S31) (w : World) (hr : Kd.C k31 w A l.length l) (hc : l.length ≤ c) (hf : odometerlaw16_few.f 32 l 30 = some false) :
    Calls Try.prog 4 #[.int .i64 most, .slice A l.length c, .int .i64 leave] w fun e w' => e = .returned (.bool true) ∧ Below w.heap.size w w' := by
  have hfew := odometerlaw16_few.calls 32 A c l 30 false w hr hc hf
  clear hr hf
  go_enter Try.func4, Try.ntmps4
  go_wp2_with fail
  refine hfew.mono ?_
  rintro e w1 ⟨rfl, hd⟩
  have hb1 := hd.below
  clear hfew hd
  go_wp2_with fail
  refine (known_calls w1).mono ?_
  rintro e w5 ⟨rfl, hb5⟩
  go_wp2_with fail
  go_ret
  exact ⟨rfl, hb1.trans (hb5.mono hb1.size)⟩
theorem plays_calls (most leave : Int) (A : Option Addr) (c : Nat) (l : List S31) (w : World) (hr : Kd.C k31 w A l.length l) (hc : l.length ≤ c) (ho : ∀ p ∈ l, PutOk p) :
    Calls Try.prog 4 #[.int .i64 most, .slice A l.length c, .int .i64 leave] w fun e w' => e = .returned (.bool true) ∧ Below w.heap.size w w' := by
  obtain ⟨b, hb, hbt⟩ := few_f l fun p hp => (ho p hp).1
  cases b with
  | false => exact plays_else most leave A c l w hr hc hb
  | true => exact plays_few most leave A c l w hr hc (fun p hp => (ho p hp).2) hb (hbt rfl).1 (hbt rfl).2
open Classical in
noncomputable def odometerlaw16_StorePlays.f (_ : Nat) (_ : Int) (l : List S31) (_ : Int) : Option Bool := if ∀ p ∈ l, PutOk p then some true else none
theorem odometerlaw16_StorePlays.calls (kk : Nat) (most : Int) (A : Option Addr) (c : Nat) (l : List S31) (leave : Int) (r : Bool) (w : World) (hr : Kd.C k31 w A l.length l) (hc : l.length ≤ c) (hf : odometerlaw16_StorePlays.f kk most l leave = some r) :
    Calls Try.prog 4 #[.int .i64 most, .slice A l.length c, .int .i64 leave] w fun e w' => e = .returned (.bool r) ∧ Below w.heap.size w w' := by
  unfold odometerlaw16_StorePlays.f at hf
  split at hf
  · rename_i ho
    obtain rfl := Option.some.inj hf
    exact plays_calls most leave A c l w hr hc ho
  · cases hf
theorem PurePlays (most : Int) (l : List S31) (leave : Int) (ho : ∀ p ∈ l, PutOk p) : ∃ k, odometerlaw16_StorePlays.f k most l leave = some true := ⟨0, if_pos ho⟩
end Go.Proofs.Ytneodhhoejjncaa
