/- A text of this claim, pruned by a program of the session (prune.py) to what the theorem rests on. -/
import Derived.Test.YtedchpflcemdkaaGreatQmGCls
import Derived.Test.YtedchpflcemdkaaGreatQmGCompare
import Derived.Laws.EntriesVeiled
namespace Go.Proofs.YtedchpflcemdkaaGreat
open Go.RowKit Go.Maps Go.Proofs.YtedchpflcemdkaaGreatW.PrintWords Go.Proofs.YtedchpflcemdkaaGreatW.PrintLast Go.Proofs.YtedchpflcemdkaaGreatW.PrintMore
set_option linter.unusedVariables false
set_option linter.unusedSimpArgs false
theorem wp_at {P : Program} {code : Code} {Q : Exit → Act → World → Prop} {a : Act} {w : World} (p : World → Prop) (hp : p w) (h : ∀ w', p w' → Code.wp P code Q a w') : Code.wp P code Q a w := h w hp
section
variable {α : Type}
noncomputable def tst (T : TgK α) (v : CfV) (l : List α) : Nat → Bool
  | 0 => inB v.n1 1 16
  | 1 => !anyBad T [] l
  | 2 => inB v.win 1 1073741824 && inB v.late 0 1073741824
  | 3 => inB v.ser 1 4096 && inB v.wins 1 64
  | 4 => inB v.que 1 64 && inB v.con v.n1 32
  | 5 => inB v.bod 1 1048576
  | 6 => inB v.bas 1 v.mos && decide (v.mos ≤ 1073741824)
  | _ => true
noncomputable def rst (T : TgK α) (v : CfV) (l : List α) : Nat → Bool
  | 0 => tst T v l 0 && (tst T v l 1 && (tst T v l 2 && (tst T v l 3 && (tst T v l 4 && (tst T v l 5 && (tst T v l 6 && true))))))
  | 1 => tst T v l 1 && (tst T v l 2 && (tst T v l 3 && (tst T v l 4 && (tst T v l 5 && (tst T v l 6 && true)))))
  | 2 => tst T v l 2 && (tst T v l 3 && (tst T v l 4 && (tst T v l 5 && (tst T v l 6 && true))))
  | 3 => tst T v l 3 && (tst T v l 4 && (tst T v l 5 && (tst T v l 6 && true)))
  | 4 => tst T v l 4 && (tst T v l 5 && (tst T v l 6 && true))
  | 5 => tst T v l 5 && (tst T v l 6 && true)
  | 6 => tst T v l 6 && true
  | _ => true
def wordsOK (wordB : ByteArray → Bool) (big : Bool) : Option ByteArray → List ByteArray → Bool
  | _, [] => true
  | prev, x :: r => wordB x && ((match prev with | none => true | some p => Op.bytesLess p.toList x.toList) && (!big && wordsOK wordB big (some x) r))
theorem wordsOK_cons (wordB : ByteArray → Bool) (big : Bool) (prev : Option ByteArray) (x : ByteArray) (r : List ByteArray) : wordsOK wordB big prev (x :: r) = (wordB x && ((match prev with | none => true | some p => Op.bytesLess p.toList x.toList) && (!big && wordsOK wordB big (some x) r))) := by
  cases prev <;> rfl
def prv (ws : List ByteArray) : Nat → Option ByteArray
  | 0 => none
  | k + 1 => ws[k]?
theorem strC {w : World} {A : Option Addr} {xs : List ByteArray} (h : Kd.string.C w A xs.length xs) (hn : 0 < xs.length) : ∃ b off, A = some ⟨b, off, none⟩ ∧ b < w.heap.size ∧ ∀ j p, xs[j]? = some p → w.cell? ⟨b, off + j, none⟩ = some (.string p) := by
  obtain ⟨b, off, e, hb, hc⟩ := C_at h hn (by decide)
  refine ⟨b, off, e, hb, fun j p hp => ?_⟩
  obtain ⟨c, _, hK, hcc⟩ := hc j p hp
  obtain rfl : c = [.string p] := hK
  have := hcc 0 _ rfl
  simpa [show Kd.string.sz = 1 from rfl] using this
def MayPost (rows words : Bool) (W : World) (e : Ending) (w' : World) : Prop := e = .returned (.int .i64 (if rows then (if words then 0 else 5) else 2)) ∧ Below W.heap.size W w'
theorem blk_new' (w : World) (o : Obj) (n : Nat) (h : w.heap.size = n) : (w.alloc o).heap[n]? = some o := h ▸ blk_new w o
def RowAt (W : World) (cb ab rb : Nat) : Prop := W.heap[rb]? = some (.cells #[.func (.func 20) #[] #[.pointer (some ⟨cb, 0, none⟩)], .func (.func 21) #[] #[.pointer (some ⟨cb, 0, none⟩), .pointer (some ⟨ab, 0, none⟩)], .func (.func 23) #[] #[.pointer (some ⟨cb, 0, none⟩)], .func (.func 24) #[] #[.pointer (some ⟨cb, 0, none⟩)], .func (.func 25) #[] #[.pointer (some ⟨cb, 0, none⟩)], .func (.func 26) #[] #[.pointer (some ⟨cb, 0, none⟩)], .func (.func 27) #[] #[.pointer (some ⟨cb, 0, none⟩)]] 27 (0, 0))
def MaySt (v : CfV) (W W1 : World) (S : Bool) : Prop := v.At W1 W.heap.size ∧ RowAt W1 W.heap.size (W.heap.size + 3) (W.heap.size + 4) ∧ W1.cell? ⟨W.heap.size + 3, 0, none⟩ = some (.func (.func 19) #[] #[.pointer (some ⟨W.heap.size + 2, 0, none⟩)]) ∧ (S = true → SeenAt W1 (W.heap.size + 2) (W.heap.size + 1) []) ∧ Below W.heap.size W W1
theorem MaySt.below {v : CfV} {W W1 W2 : World} {S : Bool} (h : MaySt v W W1 S) (hb : Below W1.heap.size W1 W2) : MaySt v W W2 S :=
  ⟨h.1.below hb, blk_below h.2.1 hb, (hb.cell (World.block_lt_of_cell? W1 _ h.2.2.1)).trans h.2.2.1, fun e => (h.2.2.2.1 e).below hb, h.2.2.2.2.trans (hb.mono h.2.2.2.2.size)⟩
theorem MaySt.grown {v : CfV} {W W1 W2 : World} {S : Bool} (h : MaySt v W W1 S) (hb : W1.grownBy W2 (some (W.heap.size + 1))) : MaySt v W W2 false :=
  ⟨h.1.grown hb (by omega), (hb.block _ (blk_lt h.2.1) (by simp)).trans h.2.1, grown_cell hb (World.block_lt_of_cell? W1 _ h.2.2.1) (by simp) h.2.2.1, nofun,
    ⟨hb.os.trans h.2.2.2.2.os, hb.tape.trans h.2.2.2.2.tape, hb.output.trans h.2.2.2.2.output, Nat.le_trans h.2.2.2.2.size hb.size, fun i hi => (hb.block i (Nat.lt_of_lt_of_le hi h.2.2.2.2.size) (by simp; omega)).trans (h.2.2.2.2.block i hi)⟩⟩
end
set_option maxRecDepth 100000 in
set_option maxHeartbeats 8000000 in
theorem may_calls {α : Type} (T : TgK α) (wordB : ByteArray → Bool) (v : CfV) (l : List α) (ws : List ByteArray) (hn : v.n1 = l.length) (hn2 : v.n2 = ws.length) (W : World) (hR : T.d.C W v.A1 l.length l) (hRw : Kd.string.C W v.A2 ws.length ws) (hT : ∀ x ∈ l, T.Ok x) (hl : l.length ≤ 8796093022208) (hlw : ws.length ≤ 8796093022208)
    (hWd : ∀ x ∈ ws, ∀ W', Calls Tryz.prog 28 #[.string x] W' fun e w' => e = .returned (.bool (wordB x)) ∧ Below W'.heap.size W' w') :
    Calls Tryz.prog 8 #[.agg v.L.toArray] W (MayPost (rst T v l 0) (wordsOK wordB (decide (16 < v.n2)) none ws) W) := by
  have hmk : ∀ w : World, (Instr.makeMap 40 none).run Tryz.prog w = .ok (.map (some w.heap.size)) (w.alloc (.map #[] 0)) := fun W => run_makeMap _ _
  have HT := Aside0.mk hT
  have HW := Aside0.mk hWd
  have HL := Aside0.mk hl
  have hm1 : ∀ b o, v.A1 = some ⟨b, o, none⟩ → 0 < l.length → b < W.heap.size := fun b o e h0 => by
    obtain ⟨b', o', e', hb, _⟩ := T.cells hR h0
    rw [e] at e'
    cases e'
    exact hb
  have HN := Aside0.mk hn
  have HN2 := Aside0.mk hn2
  have HM1 := Aside0.mk hm1
  clear hT hWd hn hn2 hl hm1
  obtain ⟨rows, hrows⟩ : ∃ b, rst T v l 0 = b := ⟨_, rfl⟩
  obtain ⟨words, hwords⟩ : ∃ b, wordsOK wordB (decide (16 < v.n2)) none ws = b := ⟨_, rfl⟩
  rw [hrows, hwords]
  have HRO := Aside0.mk hrows
  have HWO := Aside0.mk hwords
  clear hrows hwords
  unfold CfV.L
  go_enter Tryz.func8, Tryz.ntmps8
  go_wp2_with fail
  refine wp_at (fun W0 => MaySt v W W0 true) ?_ ?_
  · refine ⟨blk_alloc (blk_alloc (blk_alloc (blk_alloc (blk_new W _) _) _) _) _, blk_new' _ _ _ (by simp), ?_, fun _ => ⟨?_, by omega, 0, Nat.le_refl _, ?_⟩, ((((Below.refl _ W).alloc (Nat.le_refl _) _).alloc (by simp) _).alloc (by simp; omega) _).alloc (by simp; omega) _ |>.alloc (by simp; omega) _⟩
    · exact (blk_cell (blk_alloc (blk_new' _ _ _ (by simp)) _) 0).trans rfl
    · exact (blk_cell (blk_alloc (blk_alloc (blk_new' _ _ _ (by simp)) _) _) 0).trans rfl
    · have h := MapAt.made whoKey (W.alloc (.cells #[.slice v.A1 v.n1 v.c1, .int .i64 v.win, .int .i64 v.late, .slice v.A2 v.n2 v.c2, .int .i64 v.ser, .int .i64 v.wins, .int .i64 v.que, .int .i64 v.con, .int .i64 v.bod, .int .i64 v.bas, .int .i64 v.mos] 25))
      rw [World.size_alloc] at h
      have e : (fun _ : Who => (none : Option Value)) = seenF [] := by funext x; simp [seenF]
      rw [e] at h
      exact ((h.alloc _).alloc _).alloc _
  intro W0 hst
  have HST := Aside0.mk hst
  clear hst hmk

  go_loopw [22] (fun u wr => (u = .int .i64 0 ∧ Aside0 (MaySt v W wr true) ∧ Aside0 (rows = rst T v l 0)) ∨ (u = .int .i64 1 ∧ Aside0 (MaySt v W wr true) ∧ Aside0 (rows = rst T v l 1)) ∨ (u = .int .i64 2 ∧ Aside0 (MaySt v W wr false) ∧ Aside0 (rows = rst T v l 2)) ∨ (u = .int .i64 3 ∧ Aside0 (MaySt v W wr false) ∧ Aside0 (rows = rst T v l 3)) ∨ (u = .int .i64 4 ∧ Aside0 (MaySt v W wr false) ∧ Aside0 (rows = rst T v l 4)) ∨ (u = .int .i64 5 ∧ Aside0 (MaySt v W wr false) ∧ Aside0 (rows = rst T v l 5)) ∨ (u = .int .i64 6 ∧ Aside0 (MaySt v W wr false) ∧ Aside0 (rows = rst T v l 6)) ∨ (u = .int .i64 7 ∧ Aside0 (MaySt v W wr false) ∧ Aside0 (rows = rst T v l 7))) (fun u _ => 7 - (intOf u).toNat)
  case atStart => exact .inl ⟨by go_num, HST, Aside0.mk HRO.out.symm⟩
  case round =>
    rcases hrel with ⟨rfl, HS, HR⟩ | ⟨rfl, HS, HR⟩ | ⟨rfl, HS, HR⟩ | ⟨rfl, HS, HR⟩ | ⟨rfl, HS, HR⟩ | ⟨rfl, HS, HR⟩ | ⟨rfl, HS, HR⟩ | ⟨rfl, HS, HR⟩
    · have hk := HS.out.2.1
      have k0 := (blk_cell hk 0).trans (show _ = some (Value.func (.func 20) #[] #[.pointer (some ⟨W.heap.size, 0, none⟩)]) from rfl)
      have hcl := cl2 v _ wr HS.out.1
      have HCL := Aside0.mk hcl
      clear hk hcl
      go_wp2_with fail
      refine HCL.out.mono ?_
      rintro e w2 ⟨rfl, hb⟩
      have HS2 := Aside0.mk (HS.out.below hb)
      obtain ⟨b, hb2⟩ : ∃ b, tst T v l 0 = b := ⟨_, rfl⟩
      have HR2 := Aside0.mk (show rows = (b && rst T v l 1) from hb2 ▸ HR.out)
      simp only [tst] at hb2
      rw [hb2]
      clear hb hb2 HCL HR k0
      cases b with
      | false =>
        go_wp2_with fail
        go_ret
        exact ⟨by rw [HR2.out]; rfl, HS2.out.2.2.2.2⟩
      | true =>
        go_wp2_with fail
        exact ⟨.inr (.inl ⟨by go_num, HS2, Aside0.mk (by rw [HR2.out, Bool.true_and])⟩), by simp [intOf]⟩
    · have hk := HS.out.2.1
      have k1 := (blk_cell hk 1).trans (show _ = some (Value.func (.func 21) #[] #[.pointer (some ⟨W.heap.size, 0, none⟩), .pointer (some ⟨W.heap.size + 3, 0, none⟩)]) from rfl)
      have hcl := cl3 T v l HN.out W.heap.size (W.heap.size + 3) (W.heap.size + 2) (W.heap.size + 1) wr HS.out.1 HS.out.2.2.1 (HS.out.2.2.2.1 rfl) (Kd.C_below hR HS.out.2.2.2.2) HT.out HL.out (fun h0 b o e => by have := HM1.out b o e h0; omega)
      have HCL := Aside0.mk hcl
      clear hk hcl
      go_wp2_with fail
      refine HCL.out.mono ?_
      rintro e w2 ⟨rfl, hb⟩
      have HS2 := Aside0.mk (HS.out.grown hb)
      obtain ⟨b, hb2⟩ : ∃ b, tst T v l 1 = b := ⟨_, rfl⟩
      have HR2 := Aside0.mk (show rows = (b && rst T v l 2) from hb2 ▸ HR.out)
      simp only [tst] at hb2
      rw [hb2]
      clear hb hb2 HCL HR k1
      cases b with
      | false =>
        go_wp2_with fail
        go_ret
        exact ⟨by rw [HR2.out]; rfl, HS2.out.2.2.2.2⟩
      | true =>
        go_wp2_with fail
        exact ⟨.inr (.inr (.inl ⟨by go_num, Aside0.mk ⟨HS2.out.1, HS2.out.2.1, HS2.out.2.2.1, nofun, HS2.out.2.2.2.2⟩, Aside0.mk (by rw [HR2.out, Bool.true_and])⟩)), by simp [intOf]⟩
    · have hk := HS.out.2.1
      have k2 := (blk_cell hk 2).trans (show _ = some (Value.func (.func 23) #[] #[.pointer (some ⟨W.heap.size, 0, none⟩)]) from rfl)
      have hcl := cl4 v _ wr HS.out.1
      have HCL := Aside0.mk hcl
      clear hk hcl
      go_wp2_with fail
      refine HCL.out.mono ?_
      rintro e w2 ⟨rfl, hb⟩
      have HS2 := Aside0.mk (HS.out.below hb)
      obtain ⟨b, hb2⟩ : ∃ b, tst T v l 2 = b := ⟨_, rfl⟩
      have HR2 := Aside0.mk (show rows = (b && rst T v l 3) from hb2 ▸ HR.out)
      simp only [tst] at hb2
      rw [hb2]
      clear hb hb2 HCL HR k2
      cases b with
      | false =>
        go_wp2_with fail
        go_ret
        exact ⟨by rw [HR2.out]; rfl, HS2.out.2.2.2.2⟩
      | true =>
        go_wp2_with fail
        exact ⟨.inr (.inr (.inr (.inl ⟨by go_num, Aside0.mk ⟨HS2.out.1, HS2.out.2.1, HS2.out.2.2.1, nofun, HS2.out.2.2.2.2⟩, Aside0.mk (by rw [HR2.out, Bool.true_and])⟩))), by simp [intOf]⟩
    · have hk := HS.out.2.1
      have k3 := (blk_cell hk 3).trans (show _ = some (Value.func (.func 24) #[] #[.pointer (some ⟨W.heap.size, 0, none⟩)]) from rfl)
      have hcl := cl5 v _ wr HS.out.1
      have HCL := Aside0.mk hcl
      clear hk hcl
      go_wp2_with fail
      refine HCL.out.mono ?_
      rintro e w2 ⟨rfl, hb⟩
      have HS2 := Aside0.mk (HS.out.below hb)
      obtain ⟨b, hb2⟩ : ∃ b, tst T v l 3 = b := ⟨_, rfl⟩
      have HR2 := Aside0.mk (show rows = (b && rst T v l 4) from hb2 ▸ HR.out)
      simp only [tst] at hb2
      rw [hb2]
      clear hb hb2 HCL HR k3
      cases b with
      | false =>
        go_wp2_with fail
        go_ret
        exact ⟨by rw [HR2.out]; rfl, HS2.out.2.2.2.2⟩
      | true =>
        go_wp2_with fail
        exact ⟨.inr (.inr (.inr (.inr (.inl ⟨by go_num, Aside0.mk ⟨HS2.out.1, HS2.out.2.1, HS2.out.2.2.1, nofun, HS2.out.2.2.2.2⟩, Aside0.mk (by rw [HR2.out, Bool.true_and])⟩)))), by simp [intOf]⟩
    · have hk := HS.out.2.1
      have k4 := (blk_cell hk 4).trans (show _ = some (Value.func (.func 25) #[] #[.pointer (some ⟨W.heap.size, 0, none⟩)]) from rfl)
      have hcl := cl6 v _ wr HS.out.1
      have HCL := Aside0.mk hcl
      clear hk hcl
      go_wp2_with fail
      refine HCL.out.mono ?_
      rintro e w2 ⟨rfl, hb⟩
      have HS2 := Aside0.mk (HS.out.below hb)
      obtain ⟨b, hb2⟩ : ∃ b, tst T v l 4 = b := ⟨_, rfl⟩
      have HR2 := Aside0.mk (show rows = (b && rst T v l 5) from hb2 ▸ HR.out)
      simp only [tst] at hb2
      rw [hb2]
      clear hb hb2 HCL HR k4
      cases b with
      | false =>
        go_wp2_with fail
        go_ret
        exact ⟨by rw [HR2.out]; rfl, HS2.out.2.2.2.2⟩
      | true =>
        go_wp2_with fail
        exact ⟨.inr (.inr (.inr (.inr (.inr (.inl ⟨by go_num, Aside0.mk ⟨HS2.out.1, HS2.out.2.1, HS2.out.2.2.1, nofun, HS2.out.2.2.2.2⟩, Aside0.mk (by rw [HR2.out, Bool.true_and])⟩))))), by simp [intOf]⟩
    · have hk := HS.out.2.1
      have k5 := (blk_cell hk 5).trans (show _ = some (Value.func (.func 26) #[] #[.pointer (some ⟨W.heap.size, 0, none⟩)]) from rfl)
      have hcl := cl7 v _ wr HS.out.1
      have HCL := Aside0.mk hcl
      clear hk hcl
      go_wp2_with fail
      refine HCL.out.mono ?_
      rintro e w2 ⟨rfl, hb⟩
      have HS2 := Aside0.mk (HS.out.below hb)
      obtain ⟨b, hb2⟩ : ∃ b, tst T v l 5 = b := ⟨_, rfl⟩
      have HR2 := Aside0.mk (show rows = (b && rst T v l 6) from hb2 ▸ HR.out)
      simp only [tst] at hb2
      rw [hb2]
      clear hb hb2 HCL HR k5
      cases b with
      | false =>
        go_wp2_with fail
        go_ret
        exact ⟨by rw [HR2.out]; rfl, HS2.out.2.2.2.2⟩
      | true =>
        go_wp2_with fail
        exact ⟨.inr (.inr (.inr (.inr (.inr (.inr (.inl ⟨by go_num, Aside0.mk ⟨HS2.out.1, HS2.out.2.1, HS2.out.2.2.1, nofun, HS2.out.2.2.2.2⟩, Aside0.mk (by rw [HR2.out, Bool.true_and])⟩)))))), by simp [intOf]⟩
    · have hk := HS.out.2.1
      have k6 := (blk_cell hk 6).trans (show _ = some (Value.func (.func 27) #[] #[.pointer (some ⟨W.heap.size, 0, none⟩)]) from rfl)
      have hcl := cl8 v _ wr HS.out.1
      have HCL := Aside0.mk hcl
      clear hk hcl
      go_wp2_with fail
      refine HCL.out.mono ?_
      rintro e w2 ⟨rfl, hb⟩
      have HS2 := Aside0.mk (HS.out.below hb)
      obtain ⟨b, hb2⟩ : ∃ b, tst T v l 6 = b := ⟨_, rfl⟩
      have HR2 := Aside0.mk (show rows = (b && rst T v l 7) from hb2 ▸ HR.out)
      simp only [tst] at hb2
      rw [hb2]
      clear hb hb2 HCL HR k6
      cases b with
      | false =>
        go_wp2_with fail
        go_ret
        exact ⟨by rw [HR2.out]; rfl, HS2.out.2.2.2.2⟩
      | true =>
        go_wp2_with fail
        exact ⟨.inr (.inr (.inr (.inr (.inr (.inr (.inr (⟨by go_num, Aside0.mk ⟨HS2.out.1, HS2.out.2.1, HS2.out.2.2.1, nofun, HS2.out.2.2.2.2⟩, Aside0.mk (by rw [HR2.out, Bool.true_and])⟩))))))), by simp [intOf]⟩
    · have x3 := HS.out.1.cell 3 _ rfl
      obtain rfl : rows = true := HR.out
      have HB := Aside0.mk HS.out.2.2.2.2
      have HC := Aside0.mk HS.out.1
      have HF : Aside0 (wordsOK wordB (decide (16 < v.n2)) none ws = words) := HWO
      clear HS HR HM1 HT HL hR HRO HWO HST HN
      go_wp2_with fail
      go_loopw [33] (fun u wr => ∃ i : Nat, i ≤ ws.length ∧ u = .int .i64 i ∧ Aside0 (v.At wr W.heap.size ∧ Below W.heap.size W wr) ∧ Aside0 (words = wordsOK wordB (decide (16 < v.n2)) (prv ws i) (ws.drop i))) (fun u _ => ws.length - (intOf u).toNat)
      case atStart => exact ⟨0, Nat.zero_le _, by go_num, Aside0.mk ⟨HC.out, HB.out⟩, Aside0.mk HF.out.symm⟩
      case round =>
        clear x3 HB HC HF
        obtain ⟨i, hi, rfl, HB, HF⟩ := hrel
        have hn2 := HN2.out
        have x3 := HB.out.1.cell 3 _ rfl
        generalize hv0 : v = v0 at *
        obtain ⟨A1, n1, c1, win, late, A2, n2, c2, ser, wins, que, con, bod, bas, mos⟩ := v0
        dsimp only at hn2 x3 hRw HF ⊢
        subst hn2
        by_cases hlt : i < ws.length
        · have hlti : (i : Int) < (ws.length : Int) := by omega
          obtain ⟨h1, o1, rfl, hg1, hc1⟩ := strC (Kd.C_below hRw HB.out.2) (by omega)
          have hx := List.getElem?_eq_getElem hlt
          have hd : ws.drop i = ws[i] :: ws.drop (i + 1) := List.drop_eq_getElem_cons hlt
          have hxm : ws[i] ∈ ws := List.getElem_mem hlt
          have hpv : prv ws (i + 1) = some ws[i] := hx
          generalize ws[i] = s at *
          have n0 : wr.cell? ⟨h1, o1 + i, none⟩ = some (.string s) := hc1 i s hx
          have hw := HW.out s hxm wr
          obtain ⟨b, hb⟩ : ∃ b, wordB s = b := ⟨_, rfl⟩
          rw [hb] at hw
          have HF2 : Aside0 (words = (b && ((match prv ws i with | none => true | some p => Op.bytesLess p.toList s.toList) && (!decide (16 < ws.length) && wordsOK wordB (decide (16 < ws.length)) (prv ws (i + 1)) (ws.drop (i + 1)))))) := Aside0.mk (by rw [HF.out, hd, wordsOK_cons, hb, hpv])
          clear hb hd hxm HF hpv
          have HCC := Aside0.mk hc1
          clear hc1
          go_wp2_with fail
          refine hw.mono ?_
          rintro e w5 ⟨rfl, hb5⟩
          have HB5 := Aside0.mk (show (CfV.mk A1 n1 c1 win late (some ⟨h1, o1, none⟩) ws.length c2 ser wins que con bod bas mos).At w5 W.heap.size ∧ Below W.heap.size W w5 from ⟨HB.out.1.below hb5, HB.out.2.trans (hb5.mono HB.out.2.size)⟩)
          have y3 := HB5.out.1.cell 3 _ rfl
          have HC5 := Aside0.mk (fun j q hq => (hb5.cell (p := ⟨h1, o1 + j, none⟩) hg1).trans (HCC.out j q hq))
          clear hw hb5 n0 x3 HB HCC
          cases b with
          | false =>
            go_wp2_with fail
            go_ret
            exact ⟨by rw [HF2.out]; rfl, HB5.out.2⟩
          | true =>
            by_cases hbig : 16 < ws.length
            · have hbigi : (16 : Int) < (ws.length : Int) := by omega
              have HF3 : Aside0 (words = false) := Aside0.mk (by rw [HF2.out, decide_eq_true hbig]; simp)
              obtain rfl := HF3.out
              clear HF2 HF3
              rcases i with _ | k
              · go_wp2_with fail
                go_ret
                exact ⟨rfl, HB5.out.2⟩
              · obtain ⟨p, hp⟩ : ∃ p, ws[k]? = some p := ⟨_, List.getElem?_eq_getElem (by omega)⟩
                have n1 : w5.cell? ⟨h1, o1 + k, none⟩ = some (.string p) := HC5.out k p hp
                have hk0 : (0 : Int) < ((k + 1 : Nat) : Int) := by omega
                have hk1 : wrap64 (((k + 1 : Nat) : Int) - 1) = k := by unfold wrap64; omega
                have hk2 : (k : Int) < (ws.length : Int) := by omega
                have hk3 : (0 : Int) ≤ (k : Int) := by omega
                cases hbl : Op.bytesLess p.toList s.toList with
                | true =>
                  go_wp2_with fail
                  go_ret
                  exact ⟨rfl, HB5.out.2⟩
                | false =>
                  go_wp2_with fail
                  go_ret
                  exact ⟨rfl, HB5.out.2⟩
            · have hbigi : ¬ (16 : Int) < (ws.length : Int) := by omega
              rw [decide_eq_false hbig] at HF2
              rcases i with _ | k
              · go_wp2_with fail
                exact ⟨⟨1, by omega, by go_num, HB5, Aside0.mk (by rw [HF2.out, decide_eq_false hbig]; rfl)⟩, by simp [intOf]; omega⟩
              · obtain ⟨p, hp⟩ : ∃ p, ws[k]? = some p := ⟨_, List.getElem?_eq_getElem (by omega)⟩
                have n1 : w5.cell? ⟨h1, o1 + k, none⟩ = some (.string p) := HC5.out k p hp
                have HP := Aside0.mk (show prv ws (k + 1) = some p from hp)
                have hk0 : (0 : Int) < ((k + 1 : Nat) : Int) := by omega
                have hk1 : wrap64 (((k + 1 : Nat) : Int) - 1) = k := by unfold wrap64; omega
                have hk2 : (k : Int) < (ws.length : Int) := by omega
                have hk3 : (0 : Int) ≤ (k : Int) := by omega
                cases hbl : Op.bytesLess p.toList s.toList with
                | true =>
                  have HF4 : Aside0 (words = wordsOK wordB false (prv ws (k + 1 + 1)) (ws.drop (k + 1 + 1))) := Aside0.mk (by rw [HF2.out, HP.out]; simp [hbl])
                  clear HF2 HP
                  go_wp2_with fail
                  exact ⟨⟨k + 1 + 1, by omega, by go_num, HB5, Aside0.mk (by rw [HF4.out, decide_eq_false hbig])⟩, by simp [intOf]; omega⟩
                | false =>
                  have HF4 : Aside0 (words = false) := Aside0.mk (by rw [HF2.out, HP.out]; simp [hbl])
                  obtain rfl := HF4.out
                  clear HF2 HP HF4
                  go_wp2_with fail
                  go_ret
                  exact ⟨rfl, HB5.out.2⟩
        · have hlti : ¬ (i : Int) < (ws.length : Int) := by omega
          have HF3 : Aside0 (words = true) := Aside0.mk (by rw [HF.out, List.drop_eq_nil_of_le (by omega)]; rfl)
          obtain rfl := HF3.out
          clear HF HF3
          go_wp2_with fail
          go_ret
          exact ⟨rfl, HB.out.2⟩
end Go.Proofs.YtedchpflcemdkaaGreat
