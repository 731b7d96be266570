/- A text of this claim, pruned by a program of the session (prune.py) to what the theorem rests on. -/
import Derived.Test.YtneodhhoejjncaaQcGRefQ
namespace Go.Proofs.Ytneodhhoejjncaa
open Go.RowKit Go.Proofs.YtneodhhoejjncaaW.PrintWords
set_option linter.unusedVariables false
set_option linter.unusedSimpArgs false
structure RSeen (w wr : World) (base R : Nat) (most owner : Int) (S : StS) (xs : List Sr) (v : Value) (l : List Smp) (out : Value) : Prop where
  row : wr.ownsRow w.heap.size 37 7 out l.length (snF (samplesP most owner l (S, xs.length)).1)
  st : ∃ v', RLeft w wr base R most v v' (samplesL most owner l (S, xs)).2
theorem outL_len (owner : Int) (l : List Smp) (xs : List Sr) : (outL owner l xs).length = xs.length := List.length_map _
theorem outL_snoc (owner : Int) (l : List Smp) (xs : List Sr) (a : Sr) : outL owner l (xs ++ [a]) = outL owner l xs ++ [if a.2.owner = owner ∧ among l a.1 = false then (a.1, ⟨a.2.x, false, a.2.owner⟩) else a] := by
  unfold outL
  rw [List.map_append, List.map_singleton]
def outAt (owner : Int) (l : List Smp) (ys : List Sr) (i : Nat) : List Sr := outL owner l (ys.take i) ++ ys.drop i
theorem outAt_len (owner : Int) (l : List Smp) (ys : List Sr) (i : Nat) : (outAt owner l ys i).length = ys.length := by
  unfold outAt
  rw [List.length_append, outL_len, ← List.length_append, List.take_append_drop]
theorem outAt_get (owner : Int) (l : List Smp) (ys : List Sr) (i : Nat) (a : Sr) (h : ys[i]? = some a) : (outAt owner l ys i)[i]? = some a := by
  have hi : i < ys.length := (List.getElem?_eq_some_iff.1 h).1
  unfold outAt
  rw [List.getElem?_append_right (by rw [outL_len, List.length_take_of_le (by omega)]; omega), outL_len, List.length_take_of_le (by omega), Nat.sub_self, List.getElem?_drop, Nat.add_zero]
  exact h
theorem outAt_succ (owner : Int) (l : List Smp) (ys : List Sr) (i : Nat) (a : Sr) (h : ys[i]? = some a) :
    outAt owner l ys (i + 1) = (outAt owner l ys i).set i (if a.2.owner = owner ∧ among l a.1 = false then (a.1, ⟨a.2.x, false, a.2.owner⟩) else a) := by
  have hi : i < ys.length := (List.getElem?_eq_some_iff.1 h).1
  have ha : ys[i] = a := by rw [List.getElem?_eq_getElem hi] at h; exact Option.some.inj h
  have hl : (outL owner l (ys.take i)).length = i := by rw [outL_len, List.length_take_of_le (by omega)]
  unfold outAt
  rw [List.take_succ_eq_append_getElem hi, ha, outL_snoc, List.set_append_right _ _ (by omega), hl, Nat.sub_self, List.append_assoc]
  congr 1
  rw [List.drop_eq_getElem_cons hi]
  rfl
theorem set_same {α : Type} : ∀ (l : List α) (i : Nat) (a : α), l[i]? = some a → l.set i a = l
  | [], i, a, h => by simp at h
  | b :: r, 0, a, h => by
    obtain rfl : b = a := by simpa using h
    rfl
  | b :: r, i + 1, a, h => by
    show b :: r.set i a = b :: r
    rw [set_same r i a (by simpa using h)]
theorem set_live : ∀ (xs : List Sr) (k : Nat) (a : Sr), xs[k]? = some a → (oneC xs).set (k * 7 + 1 + 4) (.bool false) = oneC (xs.set k (a.1, ⟨a.2.x, false, a.2.owner⟩))
  | [], k, a, h => by simp at h
  | b :: r, 0, a, h => by
    obtain rfl : b = a := by simpa using h
    simp [oneC, oneV, lstL]
  | b :: r, k + 1, a, h => by
    show (oneV b ++ oneC r).set _ _ = oneV b ++ oneC (r.set k _)
    rw [List.set_append_right _ _ (by rw [oneV_len]; omega), oneV_len, show (k + 1) * 7 + 1 + 4 - 7 = k * 7 + 1 + 4 by omega, set_live r k a (by simpa using h)]
theorem ref_live {W : World} {base R g c : Nat} {most : Int} {zs : List Sr} {n : Nat} (hn : n = zs.length) (h : RefAt W base R most zs (.slice (some ⟨g, 0, none⟩) n c)) (k : Nat) (a : Sr) (hk : zs[k]? = some a) :
    RefAt (W.setCell ⟨g, k * 7 + 1 + 4, none⟩ (.bool false)) base R most (zs.set k (a.1, ⟨a.2.x, false, a.2.owner⟩)) (.slice (some ⟨g, 0, none⟩) n c) := by
  subst hn
  have hr := (h.row.stored (k * 7 + 1 + 4) (.bool false)).1
  rw [set_live zs k a hk] at hr
  obtain ⟨_, _, hb⟩ := own_ty h.row (k := g) rfl
  have hg : R ≠ g := fun e => by
    have := h.blk
    rw [e, hb] at this
    cases this
  exact ⟨(Below.heap_setCell W ⟨g, k * 7 + 1 + 4, none⟩ _ R hg).trans h.blk, by rw [List.length_set]; exact hr⟩
theorem ref_cell {w : World} {base R g n c : Nat} {most : Int} {zs : List Sr} (h : RefAt w base R most zs (.slice (some ⟨g, 0, none⟩) n c)) (i : Nat) (a : Sr) (ha : zs[i]? = some a) (hn : n = zs.length) (j : Nat) (u : Value) (hu : (oneV a)[j]? = some u) : w.cell? ⟨g, i * 7 + j, none⟩ = some u := by
  subst hn
  have hc := h.row.cells (g := g) rfl (i * 7 + j) u (oneC_get zs i a ha j u hu)
  rwa [add_plain] at hc
set_option maxRecDepth 100000 in
set_option maxHeartbeats 4000000 in
theorem rput_calls (base R : Nat) (most owner : Int) (xs : List Sr) (v : Value) (S : StS) (A : Option Addr) (c : Nat) (l : List Smp) (w : World) (h : RefAt w base R most xs v) (hbase : base ≤ w.heap.size) (hL : Listed S xs) (hl : ReadsS (rfoot R v) w A l) (hk : ∀ x ∈ l, sK.ok x.nm) (hc : xs.length + l.length ≤ 1099511627775) :
    Calls Try.prog 15 #[.pointer (some ⟨R, 0, none⟩), .int .i64 owner, .slice A l.length c] w fun e w' => ∃ o, e = .returned o ∧ w'.ownsRow w.heap.size 37 7 o l.length (snF (samplesP most owner l (S, xs.length)).1) ∧
      ∃ v', RLeft w w' base R most v v' (outL owner l (samplesL most owner l (S, xs)).2) := by
  have hll : l.length ≤ 1099511627776 := by omega
  have hRl : R < w.heap.size := blk_lt h.blk
  have H := Aside0.mk h
  have HL := Aside0.mk hl
  have HK := Aside0.mk hk
  have HC := Aside0.mk hc
  have HLL := Aside0.mk hL
  have HBASE := Aside0.mk hbase
  clear h hl hk hc hL hbase
  go_enter Try.func15, Try.ntmps15
  go_wp2_with fail
  go_loopw [8, 7] (fun v0 out wr => ∃ j : Nat, j ≤ l.length ∧ v0 = .int .i64 j ∧ Aside0 (RSeen w wr base R most owner S xs v (l.take j) out)) (fun v _ _ => l.length - (intOf v).toNat)
  case atStart =>
    exact ⟨0, Nat.zero_le _, by go_num, ⟨own_nil _ _ _ _, v, H.out, KeptOff.refl _ w, fun k hk => Or.inl hk⟩⟩
  case round =>
    obtain ⟨j, hj, rfl, hS⟩ := hrel
    by_cases hlt : j < l.length
    · have hlti : (j : Int) < (l.length : Int) := by omega
      obtain ⟨v1, hL1⟩ := hS.out.st
      obtain ⟨b, off, rfl, hbw, hnF, hcell⟩ := (HL.out).resolve_left (fun e => by subst e; simp at hlt)
      have hwr := hL1.kept
      have hcj := fun (k : Nat) (v : Value) (hv : (smpL (l[j]'hlt))[k]? = some v) => (cell_blk (off + j * 4 + k) (hwr.block b hbw hnF)).trans (hcell j l[j] (List.getElem?_eq_getElem hlt) k v hv)
      have s0 : wr.cell? ⟨b, off + j * 4, none⟩ = some (.string l[j].nm) := hcj 0 _ rfl
      have s1 : wr.cell? ⟨b, off + j * 4 + 1, none⟩ = some (.int .i64 l[j].val) := hcj 1 _ rfl
      have s2 : wr.cell? ⟨b, off + j * 4 + 2, none⟩ = some (.int .i64 l[j].time) := hcj 2 _ rfl
      have s3 : wr.cell? ⟨b, off + j * 4 + 3, none⟩ = some (.bool l[j].counts) := hcj 3 _ rfl
      have hxk := HK.out l[j] (List.getElem_mem hlt)
      have htk : l.take (j + 1) = l.take j ++ [l[j]] := List.take_succ_eq_append_getElem hlt
      have hlen : (l.take j).length = j := List.length_take_of_le (by omega)
      have hcn := samplesP_cnt most owner (l.take j) (S, xs.length)
      obtain ⟨e1, e2, e3⟩ := listed_samples most owner (l.take j) S xs (fun x hx => HK.out x (List.mem_of_mem_take hx)) HLL.out
      have hyl : (samplesL most owner (l.take j) (S, xs)).2.length ≤ 1099511627776 := by
        have := HC.out
        have h2 : (samplesP most owner (l.take j) (S, xs.length)).2.2 ≤ xs.length + (l.take j).length := hcn
        omega
      have hone1 := rone_calls base R most owner _ v1 _ l[j] wr hL1.st (Nat.le_trans HBASE.out hwr.size) hyl e2 hxk
      have hsn := samplesP_snoc most owner (l.take j) l[j] (S, xs.length)
      have hsl := samplesL_snoc most owner l[j] (l.take j) (S, xs)
      rw [e1, e3] at hsl
      rw [e3] at hone1
      have HSN := Aside0.mk hsn
      have HSL := Aside0.mk hsl
      have HTK := Aside0.mk htk
      have HLN := Aside0.mk hlen
      have HL1 := Aside0.mk hL1
      clear hwr hcell hcj hsn hsl htk hlen hcn hL1 hxk e1 e2 e3 hyl
      unfold smpL snL at hone1
      generalize hG : l[j] = x at *
      have HG := Aside0.mk hG
      clear hG
      generalize hO : oneP most owner (samplesP most owner (l.take j) (S, xs.length)).2 x = O at *
      have HO := Aside0.mk hO
      clear hO
      go_wp2_with fail
      refine hone1.mono ?_
      rintro e w2 ⟨rfl, v2, hL2⟩
      have HL2 := Aside0.mk hL2
      clear hone1 hL2
      have hrow2 := own_keptOff hS.out.row HL2.out.kept (fun k cs hb => rfoot_ne HL1.out.st hb (by decide) (by decide))
      rw [HLN.out] at hrow2
      have HR2 := Aside0.mk hrow2
      clear hrow2
      go_wp2_with (first
        | (at_builtin; refine print_append_cells (w0 := w2) w.heap.size rfl (.tmp 18) (.tmp 26) 28 37 (.agg #[.string ⟨#[]⟩, .int .i64 0, .int .i64 0, .bool false, .int .i64 0, .bool false, .int .i64 0]) 7 64 rfl Try.underlying28 info_seen rfl (by decide) (by decide) u7 j (snF (samplesP most owner (l.take j) (S, xs.length)).1) (snL O.1) rfl rfl rfl ?h1 HR2.out (Below.refl _ _) ?hb ?hl ?_))
      case h1 => simp [snL]; exact ⟨rfl, rfl, rfl, rfl, rfl, rfl, rfl⟩
      case hb => exact Nat.le_trans HL1.out.kept.size HL2.out.kept.size
      case hl => omega
      intro v3 w3 hown _ hg3 hat3
      have HS3 : Aside0 (RSeen w w3 base R most owner S xs v (l.take (j + 1)) v3) := by
        refine ⟨⟨?_, v2, ?_⟩⟩
        · rw [HTK.out, HSN.out, List.length_append, HLN.out]
          show w3.ownsRow _ _ _ _ (j + 1) (snF (_ ++ [O.1]))
          unfold snF at hown ⊢
          rw [List.flatMap_append, List.flatMap_singleton]
          exact hown
        · rw [HTK.out, HSL.out]
          refine (HL1.out.trans HL2.out).grown hg3 fun k e => ?_
          obtain ⟨hk, cs, hc⟩ := own_ty HR2.out e
          exact ⟨hk, rfoot_ne HL2.out.st hc (by decide) (by decide)⟩
      clear hown hg3 hat3 HR2 HL2 HSN HSL HO HTK HG HL1 hS
      go_wp2
      go_roundw
      case rel => exact ⟨j + 1, by omega, by go_num, HS3⟩
      case measure => simp [intOf]; omega
    · obtain rfl : j = l.length := by omega
      generalize hw1 : wr = w1 at *
      clear hw1
      rw [List.take_length] at hS
      have hlti : ¬ (l.length : Int) < (l.length : Int) := by omega
      obtain ⟨v1, hL1⟩ := hS.out.st
      obtain ⟨e1, e2, e3⟩ := listed_samples most owner l S xs HK.out HLL.out
      have hyl : (samplesL most owner l (S, xs)).2.length ≤ 1099511627775 := by
        have := HC.out
        have h2 : (samplesP most owner l (S, xs.length)).2.2 ≤ xs.length + l.length := samplesP_cnt most owner l (S, xs.length)
        omega
      generalize hP : (samplesL most owner l (S, xs)).2 = ys at *
      have HP := Aside0.mk hP
      have HL1 := Aside0.mk hL1
      have HROW := Aside0.mk hS.out.row
      clear hP hL1 hS e1 e2 e3
      obtain ⟨B, d, rfl, hcap, hrd⟩ := HL1.out.st.reads
      have HRD := Aside0.mk hrd
      clear hrd
      go_wp2_with fail
      go_loopw [9] (fun v0 wr => ∃ i : Nat, i ≤ ys.length ∧ v0 = .int .i64 i ∧ Aside0 (RefAt wr base R most (outAt owner l ys i) (.slice B ys.length d)) ∧ Aside0 (KeptOff (rfoot R (.slice B ys.length d)) w1 wr)) (fun v _ => ys.length - (intOf v).toNat)
      case atStart =>
        refine ⟨0, Nat.zero_le _, by go_num, ⟨?_⟩, ⟨KeptOff.refl _ _⟩⟩
        have e : outAt owner l ys 0 = ys := rfl
        rw [e]
        exact HL1.out.st
      case round =>
        obtain ⟨i, hi, rfl, hR, hK⟩ := hrel
        have c0 : wr.cell? ⟨R, 0, none⟩ = some (.slice B ys.length d) := (blk_cell hR.out.blk 0).trans rfl
        by_cases hlt : i < ys.length
        · have hlti : (i : Int) < (ys.length : Int) := by omega
          have hga : ys[i]? = some ys[i] := List.getElem?_eq_getElem hlt
          obtain ⟨g, rfl, _, _, _, _, _⟩ := HRD.out.resolve_left (fun e => by obtain ⟨_, _, rfl⟩ := e; simp at hlt)
          generalize ys[i] = a at *
          have hcell := ref_cell hR.out i a (outAt_get owner l ys i a hga) (outAt_len owner l ys i).symm
          have n0 : wr.cell? ⟨g, i * 7, none⟩ = some (.string a.1) := hcell 0 _ rfl
          have n5 : wr.cell? ⟨g, i * 7 + 1 + 4, none⟩ = some (.bool a.2.live) := hcell 5 _ rfl
          have n6 : wr.cell? ⟨g, i * 7 + 1 + 5, none⟩ = some (.int .i64 a.2.owner) := hcell 6 _ rfl
          have nf : ∀ off, wr.frozen? ⟨g, off, none⟩ = false := fun off => by
            obtain ⟨_, cs, hcs⟩ := own_ty hR.out.row (k := g) rfl
            exact blk_frozen hcs off
          have HGA := Aside0.mk hga
          have HST : Aside0 (KeptOff (rfoot R v) w wr) := ⟨HL1.out.kept.trans hK.out HL1.out.grows⟩
          clear hcell hga
          go_wp2_with fail
          go_loopw [11, 10] (fun k0 am w5 => ∃ q n : Nat, q ≤ l.length ∧ k0 = .int .i64 q ∧ am = .bool (among (l.take q) a.1) ∧ w5 = wr.drewN n) (fun k _ _ => l.length - (intOf k).toNat)
          case atStart => exact ⟨0, 0, Nat.zero_le _, by go_num, rfl, rfl⟩
          case round =>
            obtain ⟨q, n, hq, rfl, rfl, rfl⟩ := hrel
            by_cases hql : q < l.length
            · have hqi : (q : Int) < (l.length : Int) := by omega
              obtain ⟨b, off, rfl, hbw, hnF, hcell⟩ := (HL.out).resolve_left (fun e => by subst e; simp at hql)
              have s0 : wr.cell? ⟨b, off + q * 4, none⟩ = some (.string l[q].nm) := (cell_blk (off + q * 4 + 0) (HST.out.block b hbw hnF)).trans (hcell q l[q] (List.getElem?_eq_getElem hql) 0 _ rfl)
              have htk : among (l.take (q + 1)) a.1 = (among (l.take q) a.1 || decide (l[q].nm = a.1)) := by rw [List.take_succ_eq_append_getElem hql, among_snoc]
              have HTK := Aside0.mk htk
              clear hcell htk
              generalize l[q] = x at *
              cases ham : among (l.take q) a.1 with
              | true =>
                have HAM := Aside0.mk ham
                clear ham
                go_wp2_with fail
                go_quiet (fail)
                go_wp2_with fail
                go_roundw
                case rel => exact ⟨q + 1, _, by omega, by go_num, by rw [HTK.out, HAM.out]; rfl, rfl⟩
                case measure => simp [intOf]; omega
              | false =>
                have HAM := Aside0.mk ham
                clear ham
                by_cases hxa : x.nm = a.1
                · have hx2 := tl_eq hxa
                  have HXA := Aside0.mk hxa
                  clear hxa
                  go_wp2_with fail
                  go_quiet (fail)
                  go_wp2_with fail
                  go_roundw
                  case rel => exact ⟨q + 1, _, by omega, by go_num, by rw [HTK.out, HAM.out, decide_eq_true HXA.out]; rfl, rfl⟩
                  case measure => simp [intOf]; omega
                · have hx2 := tl_ne hxa
                  have HXA := Aside0.mk hxa
                  clear hxa
                  go_wp2_with fail
                  go_quiet (fail)
                  go_wp2_with fail
                  go_roundw
                  case rel => exact ⟨q + 1, _, by omega, by go_num, by rw [HTK.out, HAM.out, decide_eq_false HXA.out]; rfl, rfl⟩
                  case measure => simp [intOf]; omega
            · obtain rfl : q = l.length := by omega
              have hqi : ¬ (l.length : Int) < (l.length : Int) := by omega
              rw [List.take_length]
              have HSUC := Aside0.mk (outAt_succ owner l ys i a HGA.out)
              have HGET := Aside0.mk (outAt_get owner l ys i a HGA.out)
              cases ham : among l a.1 with
              | true =>
                have HAM := Aside0.mk ham
                clear ham
                have HEQ : Aside0 (outAt owner l ys (i + 1) = outAt owner l ys i) := ⟨by rw [HSUC.out, if_neg (fun e => by rw [HAM.out] at e; cases e.2), set_same _ _ _ HGET.out]⟩
                go_wp2_with fail
                all_goals refine ⟨⟨i + 1, by omega, by go_num, ⟨?_⟩, ⟨hK.out.drewN n⟩⟩, by simp [intOf]; omega⟩
                all_goals rw [HEQ.out]
                all_goals exact hR.out.kept fun _ _ => rfl
              | false =>
                have HAM := Aside0.mk ham
                clear ham
                by_cases how : a.2.owner = owner
                · have ho2 : (a.2.owner == owner) = true := by simpa using how
                  have HEQ : Aside0 (outAt owner l ys (i + 1) = (outAt owner l ys i).set i (a.1, ⟨a.2.x, false, a.2.owner⟩)) := ⟨by rw [HSUC.out, if_pos ⟨how, HAM.out⟩]⟩
                  clear how
                  go_wp2_with fail
                  refine ⟨⟨i + 1, by omega, by go_num, ⟨?_⟩, ⟨(hK.out.drewN n).setCell (p := ⟨g, i * 7 + 1 + 4, none⟩) (Or.inr (Or.inr rfl)) _⟩⟩, by simp [intOf]; omega⟩
                  rw [HEQ.out]
                  exact ref_live (outAt_len owner l ys i).symm (hR.out.kept (w' := wr.drewN n) fun _ _ => rfl) i a HGET.out
                · have ho2 : (a.2.owner == owner) = false := by simpa using how
                  have HEQ : Aside0 (outAt owner l ys (i + 1) = outAt owner l ys i) := ⟨by rw [HSUC.out, if_neg (fun e => how e.1), set_same _ _ _ HGET.out]⟩
                  clear how
                  go_wp2_with fail
                  all_goals refine ⟨⟨i + 1, by omega, by go_num, ⟨?_⟩, ⟨hK.out.drewN n⟩⟩, by simp [intOf]; omega⟩
                  all_goals rw [HEQ.out]
                  all_goals exact hR.out.kept fun _ _ => rfl
        · have hie : i = ys.length := by omega
          have hlti : ¬ (i : Int) < (ys.length : Int) := by omega
          have HIE := Aside0.mk hie
          clear hie
          go_wp2_with fail
          go_ret
          refine ⟨_, rfl, own_keptOff HROW.out hK.out (fun k cs hb => rfoot_ne HL1.out.st hb (by decide) (by decide)), .slice B ys.length d, ?_, ?_, ?_⟩
          · have e : outAt owner l ys i = outL owner l ys := by
              unfold outAt
              rw [HIE.out, List.take_length, List.drop_length, List.append_nil]
            rw [HP.out, ← e]
            exact hR.out
          · exact HL1.out.kept.trans hK.out HL1.out.grows
          · exact HL1.out.grows
end Go.Proofs.Ytneodhhoejjncaa
