/- A text of this claim, pruned by a program of the session (prune.py) to what the theorem rests on. -/
import Derived.Test.YtedchpflcemdkaaQkGTwo
namespace Go.Proofs.Ytedchpflcemdkaa
open Go.RowKit Go.Proofs.YtedchpflcemdkaaW.PrintWords Go.Proofs.YtedchpflcemdkaaW.PrintLast Go.Proofs.YtedchpflcemdkaaW.PrintMore
set_option linter.unusedVariables false
set_option linter.unusedSimpArgs false
theorem own_cells {w : World} {base e size n : Nat} {v : Value} {xs : List Value} (h : w.ownsRow base e size v n xs) (hn : 0 < n) : ∃ g cap, v = .slice (some ⟨g, 0, none⟩) n cap ∧ n ≤ cap ∧ base ≤ g ∧ (∃ cs, w.heap[g]? = some (.cells cs e (0, 0))) ∧ ∀ j u, xs[j]? = some u → w.cell? ⟨g, j, none⟩ = some u := by
  rcases h.2 with ⟨rfl, h0⟩ | ⟨g, cap, cur, rfl, hg, hb, hle, hcap, hc, ht⟩
  · omega
  · refine ⟨g, cap, rfl, hle, hg, ⟨cur, hb⟩, fun j u hj => ?_⟩
    rw [blk_cell hb j, ← Array.getElem?_toList]
    rw [← ht] at hj
    rw [List.getElem?_take] at hj
    split at hj
    · exact hj
    · cases hj
structure Two (w : World) (z : Nat) (x : Cfg) (A1 : Option Addr) (c1 : Nat) (A2 : Option Addr) (c2 : Nat) (p q : Nat) (E1 : Option Addr) (e1 : Nat) (E2 : Option Addr) (e2 : Nat) (F1 : Option Addr) (f1 : Nat) (F2 : Option Addr) (f2 : Nat)
    (SE SF : Nat → Prop) (ts : List Tgt) (ws : List ByteArray) (W : World) : Prop where
  below : Below w.heap.size w W
  lt : w.heap.size < z
  ba : CfgB W w.heap.size A1 c1 A2 c2 x
  kE : ∀ k, SE k → z ≤ k ∧ k < W.heap.size
  kEF : ∀ k, SE k → ¬ SF k
  pE : ¬ SE p
  qE : ¬ SE q
  bp : CfgB W p E1 e1 E2 e2 x
  bq : CfgB W q F1 f1 F2 f2 x
  lts : ts.length = x.ts.length
  lws : ws.length = x.ws.length
  rE : kT.R 23 W z SE (.slice E1 x.ts.length e1) ts
  sE : Kd.string.R 9 W z SE (.slice E2 x.ws.length e2) ws
  rF : kT.R 23 W z SF (.slice F1 x.ts.length f1) x.ts
  sF : Kd.string.R 9 W z SF (.slice F2 x.ws.length f2) x.ws
  nE : E2.isNone = A2.isNone
  nF : F2.isNone = A2.isNone
theorem cfgL_inj {B1 B2 C1 C2 : Option Addr} {d1 d2 e1 e2 : Nat} {x : Cfg} (h : Value.agg (cfgL B1 d1 B2 d2 x).toArray = .agg (cfgL C1 e1 C2 e2 x).toArray) : B1 = C1 ∧ d1 = e1 ∧ B2 = C2 ∧ d2 = e2 := by
  injection h with h
  have h := congrArg Array.toList h
  have h0 := congrArg (fun l : List Value => l[0]?) h
  have h3 := congrArg (fun l : List Value => l[3]?) h
  have h0 : some (Value.slice B1 x.ts.length d1) = some (.slice C1 x.ts.length e1) := h0
  have h3 : some (Value.slice B2 x.ws.length d2) = some (.slice C2 x.ws.length e2) := h3
  injection h0 with h0
  injection h0 with h00 h01 h02
  injection h3 with h3
  injection h3 with h30 h31 h32
  exact ⟨h00, h02, h30, h32⟩
theorem J1.done {w w3 : World} {x : Cfg} {A1 A2 : Option Addr} {c1 c2 : Nat} {t5 t6 t33 t35 : Value} {W : World} (h : J1 w3 x A2.isNone true true t5 t6 t33 t35 W) (hb : Below w.heap.size w w3) (ha : CfgB w3 w.heap.size A1 c1 A2 c2 x) :
    ∃ p q E1 e1 E2 e2 F1 f1 F2 f2 SE SF, t5 = .pointer (some ⟨p, 0, none⟩) ∧ t6 = .pointer (some ⟨q, 0, none⟩) ∧ Two w w3.heap.size x A1 c1 A2 c2 p q E1 e1 E2 e2 F1 f1 F2 f2 SE SF x.ts x.ws W := by
  obtain ⟨h0, SE, SF, p, q, k1, k2, k3, ⟨E1, e1, E2, e2, hv, hE1, hE2, hE3⟩, ⟨F1, f1, F2, f2, hu, hF1, hF2, hF3⟩, rfl, e2', e4, e5, rfl, f2', f4, f5, hpq, hz1, hz2⟩ := h
  obtain ⟨_, _, _, _, hv2, hp⟩ := hz1
  obtain ⟨_, _, _, _, hu2, hq⟩ := hz2
  obtain ⟨rfl, rfl, rfl, rfl⟩ := cfgL_inj (hv.symm.trans hv2)
  obtain ⟨rfl, rfl, rfl, rfl⟩ := cfgL_inj (hu.symm.trans hu2)
  exact ⟨p, q, E1, e1, E2, e2, F1, f1, F2, f2, SE, SF, rfl, rfl, hb.trans (h0.mono hb.size), blk_lt ha, ha.below h0, k1, k3, e4, f4, hp, hq, rfl, rfl, hE1, hE2, hF1, hF2, hE3, hF3⟩
section
variable {w : World} {z : Nat} {x : Cfg} {A1 A2 : Option Addr} {c1 c2 : Nat} {p q : Nat} {E1 E2 F1 F2 : Option Addr} {e1 e2 f1 f2 : Nat} {SE SF : Nat → Prop} {ts : List Tgt} {ws : List ByteArray} {W W' : World}
theorem Two.grow (h : Two w z x A1 c1 A2 c2 p q E1 e1 E2 e2 F1 f1 F2 f2 SE SF ts ws W) (hb : Below W.heap.size W W') : Two w z x A1 c1 A2 c2 p q E1 e1 E2 e2 F1 f1 F2 f2 SE SF ts ws W' :=
  ⟨h.below.trans (hb.mono h.below.size), h.lt, h.ba.below hb, fun k hk => ⟨(h.kE k hk).1, Nat.lt_of_lt_of_le (h.kE k hk).2 hb.size⟩, h.kEF, h.pE, h.qE, h.bp.below hb, h.bq.below hb, h.lts, h.lws, Kd.R_below h.rE hb, Kd.R_below h.sE hb, Kd.R_below h.rF hb, Kd.R_below h.sF hb, h.nE, h.nF⟩
theorem Two.cellE (h : Two w z x A1 c1 A2 c2 p q E1 e1 E2 e2 F1 f1 F2 f2 SE SF ts ws W) {i : Nat} (hi : i < x.ts.length) : ∃ g, E1 = some ⟨g, 0, none⟩ ∧ ∃ m : Int, W.cell? ⟨g, i * 5 + 3, none⟩ = some (.int .i64 m) ∧ W.frozen? ⟨g, i * 5 + 3, none⟩ = false ∧
    ∀ m' : Int, ∃ ts', Two w z x A1 c1 A2 c2 p q E1 e1 E2 e2 F1 f1 F2 f2 SE SF ts' ws (W.setCell ⟨g, i * 5 + 3, none⟩ (.int .i64 m')) := by
  obtain ⟨inner, ho⟩ := Kd.R_own h.rE
  obtain ⟨g, cap, hv, hle, hbg, ⟨cs, hcs⟩, -⟩ := own_cells ho (by rw [h.lts]; omega)
  simp only [Value.slice.injEq] at hv
  obtain ⟨rfl, -, rfl⟩ := hv
  have hg : SE g := h.rE.1 g (by simp [Value.ownBlock])
  have hil : i < ts.length := by rw [h.lts]; exact hi
  obtain ⟨c, hcl, hM, hc, hf⟩ := Kd.R_elem h.rE (ts[i]) (i : Int) (by omega) (by omega)
  have hM' := kT_M' hM
  subst hM'
  simp only [Int.toNat_natCast] at hc hf
  refine ⟨g, rfl, _, hc 3 _ rfl, hf 3, fun m' => ?_⟩
  obtain ⟨hR, hgr⟩ := Kd.R_seg h.rE (i : Int) (by omega) (by omega) hcl (by simpa using hc) (seg := [.int .i64 m']) (j := 3) (by show 3 + 1 ≤ 5; omega) (x' := { ts.getD (i : Int).toNat ts[i] with iv := m' }) (okp := fun k => False) (kT_M _) (fun k hk => hk.elim)
  have hW : (W.setCells g ((i : Int).toNat * kT.sz + 3) [.int .i64 m']) = W.setCell ⟨g, i * 5 + 3, none⟩ (.int .i64 m') := rfl
  rw [hW] at hR hgr
  have hz := (h.kE g hg).1
  have hlt := h.lt
  refine ⟨_, h.below.setCell (p := ⟨g, i * 5 + 3, none⟩) (Nat.le_trans (Nat.le_of_lt hlt) hz) _, h.lt, blk_far h.ba (by show w.heap.size ≠ g; omega) _, (fun k hk => by rw [World.size_setCell]; exact h.kE k hk), h.kEF, h.pE, h.qE, blk_far h.bp (fun e => h.pE (e ▸ hg)) _, blk_far h.bq (fun e => h.qE (e ▸ hg)) _, ?_, h.lws, hR, Kd.R_set h.sE hcs (by decide) _ _,
    Kd.R_far (p := ⟨g, i * 5 + 3, none⟩) h.rF (fun k hk e => h.kEF g hg (show SF g from (show k = g from e) ▸ hk)) _, Kd.R_far (p := ⟨g, i * 5 + 3, none⟩) h.sF (fun k hk e => h.kEF g hg (show SF g from (show k = g from e) ▸ hk)) _, h.nE, h.nF⟩
  rw [List.length_set]; exact h.lts
theorem Two.wordE (h : Two w z x A1 c1 A2 c2 p q E1 e1 E2 e2 F1 f1 F2 f2 SE SF ts ws W) {i : Nat} (hi : i < x.ws.length) : ∃ g, E2 = some ⟨g, 0, none⟩ ∧ ∃ s, ws[i]? = some s ∧ W.cell? ⟨g, i, none⟩ = some (.string s) ∧ W.frozen? ⟨g, i, none⟩ = false ∧
    ∀ s', Two w z x A1 c1 A2 c2 p q E1 e1 E2 e2 F1 f1 F2 f2 SE SF ts (ws.set i s') (W.setCell ⟨g, i, none⟩ (.string s')) := by
  obtain ⟨inner, ho⟩ := Kd.R_own h.sE
  obtain ⟨g, cap, hv, hle, hbg, ⟨cs, hcs⟩, -⟩ := own_cells ho (by rw [h.lws]; omega)
  simp only [Value.slice.injEq] at hv
  obtain ⟨rfl, -, rfl⟩ := hv
  have hg : SE g := h.sE.1 g (by simp [Value.ownBlock])
  have hil : i < ws.length := by rw [h.lws]; exact hi
  obtain ⟨c, hcl, hM, hc, hf⟩ := Kd.R_elem h.sE (ws[i]) (i : Int) (by omega) (by omega)
  have hM' : c = [.string (ws.getD (i : Int).toNat ws[i])] := hM
  subst hM'
  simp only [Int.toNat_natCast] at hc hf
  have hx : ws.getD i ws[i] = ws[i] := by rw [List.getD_eq_getElem?_getD, List.getElem?_eq_getElem hil]; rfl
  refine ⟨g, rfl, ws[i], List.getElem?_eq_getElem hil, ?_, ?_, fun s' => ?_⟩
  · have := hc 0 _ rfl
    rw [hx] at this
    have hm : i * Kd.string.sz + 0 = i := Nat.mul_one i
    rwa [hm] at this
  · have := hf 0
    have hm : i * Kd.string.sz + 0 = i := Nat.mul_one i
    rwa [hm] at this
  obtain ⟨hR, hgr⟩ := Kd.R_seg h.sE (i : Int) (by omega) (by omega) hcl (by simpa using hc) (seg := [.string s']) (j := 0) (by show 0 + 1 ≤ 1; omega) (x' := s') (okp := fun k => False) rfl (fun k hk => hk.elim)
  have hW : (W.setCells g ((i : Int).toNat * Kd.string.sz + 0) [.string s']) = W.setCell ⟨g, i, none⟩ (.string s') := by
    show W.setCell ⟨g, i * 1 + 0, none⟩ _ = _
    rw [Nat.mul_one, Nat.add_zero]
  rw [hW] at hR hgr
  have hz := (h.kE g hg).1
  have hlt := h.lt
  refine ⟨h.below.setCell (p := ⟨g, i, none⟩) (Nat.le_trans (Nat.le_of_lt hlt) hz) _, h.lt, blk_far h.ba (by show w.heap.size ≠ g; omega) _, (fun k hk => by rw [World.size_setCell]; exact h.kE k hk), h.kEF, h.pE, h.qE, blk_far h.bp (fun e => h.pE (e ▸ hg)) _, blk_far h.bq (fun e => h.qE (e ▸ hg)) _, h.lts, ?_, Kd.R_set h.rE hcs (by decide) _ _, hR,
    Kd.R_far (p := ⟨g, i, none⟩) h.rF (fun k hk e => h.kEF g hg (show SF g from (show k = g from e) ▸ hk)) _, Kd.R_far (p := ⟨g, i, none⟩) h.sF (fun k hk e => h.kEF g hg (show SF g from (show k = g from e) ▸ hk)) _, h.nE, h.nF⟩
  rw [List.length_set]; exact h.lws
theorem CfgAt.copy {B1 B2 : Option Addr} {d1 d2 base : Nat} {S : Nat → Prop} (hx : CfgAt w A1 A2 x) (h1 : kT.R 23 W base S (.slice B1 x.ts.length d1) x.ts) (h2 : Kd.string.R 9 W base S (.slice B2 x.ws.length d2) x.ws) (hn : B2.isNone = A2.isNone) : CfgAt W B1 B2 x := by
  obtain ⟨_, _, he, _, hC⟩ := Kd.R_reads h1
  simp only [Value.slice.injEq] at he
  obtain ⟨rfl, -, rfl⟩ := he
  obtain ⟨_, _, he, _, hD⟩ := Kd.R_reads h2
  simp only [Value.slice.injEq] at he
  obtain ⟨rfl, -, rfl⟩ := he
  exact ⟨hC, hD, hx.no.trans hn.symm, hx.lt, hx.ls, hx.sz⟩
end
end Go.Proofs.Ytedchpflcemdkaa
