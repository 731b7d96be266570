/- A text of this claim, pruned by a program of the session (prune.py) to what the theorem rests on. -/
import Derived.Test.YtedchpflcemdkaaQkGCpy
import Derived.Test.YtedchpflcemdkaaQkGLoad
import Derived.Test.YtedchpflcemdkaaQkGInv
namespace Go.Proofs.Ytedchpflcemdkaa
open Go.RowKit Go.Proofs.YtedchpflcemdkaaW.PrintWords Go.Proofs.YtedchpflcemdkaaW.PrintLast Go.Proofs.YtedchpflcemdkaaW.PrintMore
set_option linter.unusedVariables false
set_option linter.unusedSimpArgs false
theorem heap_setCells (b : Nat) : ∀ (vs : List Value) (o : Nat) (W : World) (k : Nat), k ≠ b → (W.setCells b o vs).heap[k]? = W.heap[k]?
  | [], _, _, _, _ => rfl
  | v :: r, o, W, k, hk => by rw [World.setCells, heap_setCells b r (o + 1) _ k hk]; exact Below.heap_setCell W ⟨b, o, none⟩ v k hk
theorem size_setCells (b : Nat) : ∀ (vs : List Value) (o : Nat) (W : World), (W.setCells b o vs).heap.size = W.heap.size
  | [], _, _ => rfl
  | v :: r, o, W => by rw [World.setCells, size_setCells b r (o + 1)]; exact World.size_setCell W _ v
theorem below_setCells {B b : Nat} (hB : B ≤ b) : ∀ (vs : List Value) (o : Nat) {w W : World}, Below B w W → Below B w (W.setCells b o vs)
  | [], _, _, _, h => h
  | v :: r, o, w, W, h => below_setCells hB r (o + 1) (h.setCell (p := ⟨b, o, none⟩) hB v)
def ZeroB (W : World) (p : Nat) : Prop := W.heap[p]? = some (.cells #[.slice none 0 0, .int .i64 0, .int .i64 0, .slice none 0 0, .int .i64 0, .int .i64 0, .int .i64 0, .int .i64 0, .int .i64 0, .int .i64 0, .int .i64 0] 38 (0, 0))
def CopyV (x : Cfg) (no : Bool) (W : World) (base : Nat) (S : Nat → Prop) (v : Value) : Prop :=
  ∃ B1 d1 B2 d2, v = .agg (cfgL B1 d1 B2 d2 x).toArray ∧ kT.R 23 W base S (.slice B1 x.ts.length d1) x.ts ∧ Kd.string.R 9 W base S (.slice B2 x.ws.length d2) x.ws ∧ B2.isNone = no
def BlkV (x : Cfg) (W : World) (p : Nat) (v : Value) : Prop := ∃ B1 d1 B2 d2, v = .agg (cfgL B1 d1 B2 d2 x).toArray ∧ CfgB W p B1 d1 B2 d2 x
section
variable {x : Cfg} {no : Bool} {W W' : World} {base base' : Nat} {S S' : Nat → Prop} {v : Value}
theorem CopyV.step (h : CopyV x no W base S v) (hm : ∀ k, S k → k < W.heap.size → W'.heap[k]? = W.heap[k]?) : CopyV x no W' base S v := by
  obtain ⟨B1, d1, B2, d2, e, h1, h2, h3⟩ := h
  exact ⟨B1, d1, B2, d2, e, Kd.R_step h1 hm, Kd.R_step h2 hm, h3⟩
theorem CopyV.below (h : CopyV x no W base S v) (hb : Below W.heap.size W W') : CopyV x no W' base S v := h.step (fun k _ hk => hb.block k hk)
theorem CopyV.lower (h : CopyV x no W base S v) (hb : base' ≤ base) : CopyV x no W base' S v := by
  obtain ⟨B1, d1, B2, d2, e, h1, h2, h3⟩ := h
  exact ⟨B1, d1, B2, d2, e, Kd.R_lower h1 hb, Kd.R_lower h2 hb, h3⟩
theorem CopyV.bound (h : CopyV x no W base S v) : CopyV x no W base (fun k => base ≤ k ∧ k < W.heap.size) v := by
  obtain ⟨B1, d1, B2, d2, e, h1, h2, h3⟩ := h
  exact ⟨B1, d1, B2, d2, e, Kd.R_mono (Kd.R_bound h1) (fun k hk => ⟨hk.2.1, hk.2.2.1⟩), Kd.R_mono (Kd.R_bound h2) (fun k hk => ⟨hk.2.1, hk.2.2.1⟩), h3⟩
theorem copyV_of {w : World} {A2 : Option Addr} {e : Ending} (h : CopyOf w A2 x e W) : ∃ v, e = .returned v ∧ CopyV x A2.isNone W w.heap.size (fun k => w.heap.size ≤ k ∧ k < W.heap.size) v ∧ Below w.heap.size w W := by
  obtain ⟨B1, d1, B2, d2, e, h1, h2, h3, hb⟩ := h
  exact ⟨_, e, CopyV.bound ⟨B1, d1, B2, d2, rfl, h1, h2, h3⟩, hb⟩
theorem zeroB_store {p : Nat} (hz : ZeroB W p) {B1 B2 : Option Addr} {d1 d2 : Nat} : CfgB (W.setCells p 0 (cfgL B1 d1 B2 d2 x)) p B1 d1 B2 d2 x := set11 W p hz _ _ _ _ _ _ _ _ _ _ _
theorem zeroB_there {p n : Nat} (hz : ZeroB W p) (hn : n = 11) : W.there p 0 n := fun j hj => by
  subst hn
  rw [Nat.zero_add]
  refine ⟨?_, blk_frozen hz j⟩
  rw [blk_cell hz j, Array.getElem?_eq_getElem (show j < 11 from hj)]
  rfl
theorem cfgL_one {B1 B2 : Option Addr} {d1 d2 : Nat} : (cfgL B1 d1 B2 d2 x).toArray.all (·.oneCell') = true := all_oneCell_toArray (by
  intro v hv
  simp only [cfgL, List.mem_cons, List.not_mem_nil, or_false] at hv
  rcases hv with rfl | rfl | rfl | rfl | rfl | rfl | rfl | rfl | rfl | rfl | rfl <;> rfl)
end
theorem wp_store_cfg {ops : Array Oper} {o : Oper} {a : Act} {W : World} {K : Act → World → Prop} {Q : Exit → Act → World → Prop} {E : Prop} (hw : Region.wanted o (yielded ops a.tmps) = true)
    (u z : Operand) (ho : o.op = .store 38 u z) {p : Nat} {B1 B2 : Option Addr} {d1 d2 : Nat} {x : Cfg} (hu : a.eval u = .pointer (some ⟨p, 0, none⟩)) (hz : a.eval z = .agg (cfgL B1 d1 B2 d2 x).toArray) (hB : ZeroB W p)
    (h : K (a.put o.dst undef) (W.setCells p 0 (cfgL B1 d1 B2 d2 x))) : if Region.wanted o (yielded ops a.tmps) then o.wp Try.prog a W K Q else E := by
  rw [if_pos hw]
  exact wp_store_mid _ u z ho p 0 _ hu hz (zeroB_there hB rfl) (by kernel_rfl) cfgL_one h
def J0 (w3 : World) (x : Cfg) (no : Bool) (VX : Value) (b0 b1 b2 b3 b4 b5 : Bool) (t5 t6 t32 t33 t34 t35 : Value) (W : World) : Prop :=
  Below w3.heap.size w3 W ∧ (b0 = true → t32 = VX) ∧ (b2 = true → t34 = VX) ∧ ∃ (SE SF : Nat → Prop) (p q : Nat),
    (∀ k, SE k → w3.heap.size ≤ k ∧ k < W.heap.size) ∧ (∀ k, SF k → w3.heap.size ≤ k ∧ k < W.heap.size) ∧ (∀ k, SE k → ¬ SF k) ∧
    (b1 = true → CopyV x no W w3.heap.size SE t33) ∧ (b3 = true → CopyV x no W w3.heap.size SF t35) ∧
    (b4 = true → t5 = .pointer (some ⟨p, 0, none⟩) ∧ w3.heap.size ≤ p ∧ ZeroB W p ∧ ¬ SE p ∧ ¬ SF p) ∧
    (b5 = true → t6 = .pointer (some ⟨q, 0, none⟩) ∧ w3.heap.size ≤ q ∧ ZeroB W q ∧ ¬ SE q ∧ ¬ SF q) ∧ (b4 = true → b5 = true → p ≠ q)
def J1 (w3 : World) (x : Cfg) (no b6 b7 : Bool) (t5 t6 t33 t35 : Value) (W : World) : Prop :=
  Below w3.heap.size w3 W ∧ ∃ (SE SF : Nat → Prop) (p q : Nat),
    (∀ k, SE k → w3.heap.size ≤ k ∧ k < W.heap.size) ∧ (∀ k, SF k → w3.heap.size ≤ k ∧ k < W.heap.size) ∧ (∀ k, SE k → ¬ SF k) ∧
    CopyV x no W w3.heap.size SE t33 ∧ CopyV x no W w3.heap.size SF t35 ∧
    t5 = .pointer (some ⟨p, 0, none⟩) ∧ w3.heap.size ≤ p ∧ ¬ SE p ∧ ¬ SF p ∧ t6 = .pointer (some ⟨q, 0, none⟩) ∧ w3.heap.size ≤ q ∧ ¬ SE q ∧ ¬ SF q ∧ p ≠ q ∧
    (if b6 then BlkV x W p t33 else ZeroB W p) ∧ (if b7 then BlkV x W q t35 else ZeroB W q)
section
variable {w3 : World} {x : Cfg} {no : Bool} {VX : Value} {b0 b1 b2 b3 b4 b5 : Bool} {t5 t6 t32 t33 t34 t35 : Value} {W W' : World}
theorem J0.start : J0 w3 x no VX false false false false false false t5 t6 t32 t33 t34 t35 w3.drew :=
  ⟨below_drew (Below.refl _ _), nofun, nofun, fun _ => False, fun _ => False, 0, 0, nofun, nofun, nofun, nofun, nofun, nofun, nofun, nofun⟩
theorem J0.load0 (h : J0 w3 x no VX b0 b1 b2 b3 b4 b5 t5 t6 t32 t33 t34 t35 W) : J0 w3 x no VX true b1 b2 b3 b4 b5 t5 t6 VX t33 t34 t35 W := ⟨h.1, fun _ => rfl, h.2.2⟩
theorem J0.load2 (h : J0 w3 x no VX b0 b1 b2 b3 b4 b5 t5 t6 t32 t33 t34 t35 W) : J0 w3 x no VX b0 b1 true b3 b4 b5 t5 t6 t32 t33 VX t35 W := ⟨h.1, h.2.1, fun _ => rfl, h.2.2.2⟩
theorem J0.call1 {v : Value} (h : J0 w3 x no VX b0 b1 b2 b3 b4 b5 t5 t6 t32 t33 t34 t35 W) (hc : CopyV x no W' W.heap.size (fun k => W.heap.size ≤ k ∧ k < W'.heap.size) v) (hb : Below W.heap.size W W') :
    J0 w3 x no VX b0 true b2 b3 b4 b5 t5 t6 t32 v t34 t35 W' := by
  obtain ⟨h0, h1, h2, SE, SF, p, q, k1, k2, k3, k4, k5, k6, k7, k8⟩ := h
  have hz := h0.size
  have hs := hb.size
  refine ⟨h0.trans (hb.mono hz), h1, h2, (fun k => W.heap.size ≤ k ∧ k < W'.heap.size), SF, p, q, (fun k hk => ⟨by have := hk.1; omega, hk.2⟩), (fun k hk => ⟨(k2 k hk).1, by have := (k2 k hk).2; omega⟩), (fun k hk hf => by have := (k2 k hf).2; have := hk.1; omega),
    (fun _ => hc.lower hz), (fun e => (k5 e).below hb), (fun e => ?_), (fun e => ?_), k8⟩
  · obtain ⟨e1, e2, e3, e4, e5⟩ := k6 e
    exact ⟨e1, e2, blk_below e3 hb, (fun hk => by have := blk_lt e3; have := hk.1; omega), e5⟩
  · obtain ⟨e1, e2, e3, e4, e5⟩ := k7 e
    exact ⟨e1, e2, blk_below e3 hb, (fun hk => by have := blk_lt e3; have := hk.1; omega), e5⟩
theorem J0.call3 {v : Value} (h : J0 w3 x no VX b0 b1 b2 b3 b4 b5 t5 t6 t32 t33 t34 t35 W) (hc : CopyV x no W' W.heap.size (fun k => W.heap.size ≤ k ∧ k < W'.heap.size) v) (hb : Below W.heap.size W W') :
    J0 w3 x no VX b0 b1 b2 true b4 b5 t5 t6 t32 t33 t34 v W' := by
  obtain ⟨h0, h1, h2, SE, SF, p, q, k1, k2, k3, k4, k5, k6, k7, k8⟩ := h
  have hz := h0.size
  have hs := hb.size
  refine ⟨h0.trans (hb.mono hz), h1, h2, SE, (fun k => W.heap.size ≤ k ∧ k < W'.heap.size), p, q, (fun k hk => ⟨(k1 k hk).1, by have := (k1 k hk).2; omega⟩), (fun k hk => ⟨by have := hk.1; omega, hk.2⟩), (fun k hk hf => by have := (k1 k hk).2; have := hf.1; omega),
    (fun e => (k4 e).below hb), (fun _ => hc.lower hz), (fun e => ?_), (fun e => ?_), k8⟩
  · obtain ⟨e1, e2, e3, e4, e5⟩ := k6 e
    exact ⟨e1, e2, blk_below e3 hb, e4, (fun hk => by have := blk_lt e3; have := hk.1; omega)⟩
  · obtain ⟨e1, e2, e3, e4, e5⟩ := k7 e
    exact ⟨e1, e2, blk_below e3 hb, e4, (fun hk => by have := blk_lt e3; have := hk.1; omega)⟩
theorem J0.alloc4 (h : J0 w3 x no VX b0 b1 b2 b3 b4 b5 t5 t6 t32 t33 t34 t35 W) :
    J0 w3 x no VX b0 b1 b2 b3 true b5 (.pointer (some ⟨W.heap.size, 0, none⟩)) t6 t32 t33 t34 t35 (W.alloc (.cells #[.slice none 0 0, .int .i64 0, .int .i64 0, .slice none 0 0, .int .i64 0, .int .i64 0, .int .i64 0, .int .i64 0, .int .i64 0, .int .i64 0, .int .i64 0] 38)) := by
  obtain ⟨h0, h1, h2, SE, SF, p, q, k1, k2, k3, k4, k5, k6, k7, k8⟩ := h
  have hz := h0.size
  have hb : Below W.heap.size W (W.alloc (.cells #[.slice none 0 0, .int .i64 0, .int .i64 0, .slice none 0 0, .int .i64 0, .int .i64 0, .int .i64 0, .int .i64 0, .int .i64 0, .int .i64 0, .int .i64 0] 38)) := below_alloc (Below.refl _ _) _
  have hs := hb.size
  refine ⟨h0.trans (hb.mono hz), h1, h2, SE, SF, W.heap.size, q, (fun k hk => ⟨(k1 k hk).1, by have := (k1 k hk).2; omega⟩), (fun k hk => ⟨(k2 k hk).1, by have := (k2 k hk).2; omega⟩), k3,
    (fun e => (k4 e).below hb), (fun e => (k5 e).below hb), (fun _ => ⟨rfl, hz, blk_new W _, (fun hk => by have := (k1 _ hk).2; omega), (fun hk => by have := (k2 _ hk).2; omega)⟩), (fun e => ?_), (fun _ e => ?_)⟩
  · obtain ⟨e1, e2, e3, e4, e5⟩ := k7 e
    exact ⟨e1, e2, blk_below e3 hb, e4, e5⟩
  · have := blk_lt (k7 e).2.2.1
    omega
theorem J0.alloc5 (h : J0 w3 x no VX b0 b1 b2 b3 b4 b5 t5 t6 t32 t33 t34 t35 W) :
    J0 w3 x no VX b0 b1 b2 b3 b4 true t5 (.pointer (some ⟨W.heap.size, 0, none⟩)) t32 t33 t34 t35 (W.alloc (.cells #[.slice none 0 0, .int .i64 0, .int .i64 0, .slice none 0 0, .int .i64 0, .int .i64 0, .int .i64 0, .int .i64 0, .int .i64 0, .int .i64 0, .int .i64 0] 38)) := by
  obtain ⟨h0, h1, h2, SE, SF, p, q, k1, k2, k3, k4, k5, k6, k7, k8⟩ := h
  have hz := h0.size
  have hb : Below W.heap.size W (W.alloc (.cells #[.slice none 0 0, .int .i64 0, .int .i64 0, .slice none 0 0, .int .i64 0, .int .i64 0, .int .i64 0, .int .i64 0, .int .i64 0, .int .i64 0, .int .i64 0] 38)) := below_alloc (Below.refl _ _) _
  have hs := hb.size
  refine ⟨h0.trans (hb.mono hz), h1, h2, SE, SF, p, W.heap.size, (fun k hk => ⟨(k1 k hk).1, by have := (k1 k hk).2; omega⟩), (fun k hk => ⟨(k2 k hk).1, by have := (k2 k hk).2; omega⟩), k3,
    (fun e => (k4 e).below hb), (fun e => (k5 e).below hb), (fun e => ?_), (fun _ => ⟨rfl, hz, blk_new W _, (fun hk => by have := (k1 _ hk).2; omega), (fun hk => by have := (k2 _ hk).2; omega)⟩), (fun e _ => ?_)⟩
  · obtain ⟨e1, e2, e3, e4, e5⟩ := k6 e
    exact ⟨e1, e2, blk_below e3 hb, e4, e5⟩
  · have := blk_lt (k6 e).2.2.1
    omega
theorem J0.full (h : J0 w3 x no VX true true true true true true t5 t6 t32 t33 t34 t35 W) : J1 w3 x no false false t5 t6 t33 t35 W := by
  obtain ⟨h0, h1, h2, SE, SF, p, q, k1, k2, k3, k4, k5, k6, k7, k8⟩ := h
  obtain ⟨e1, e2, e3, e4, e5⟩ := k6 rfl
  obtain ⟨f1, f2, f3, f4, f5⟩ := k7 rfl
  exact ⟨h0, SE, SF, p, q, k1, k2, k3, k4 rfl, k5 rfl, e1, e2, e4, e5, f1, f2, f4, f5, k8 rfl rfl, e3, f3⟩
theorem J1.store6 (h : J1 w3 x no false false t5 t6 t33 t35 W) : ∃ p B1 d1 B2 d2, t5 = .pointer (some ⟨p, 0, none⟩) ∧ t33 = .agg (cfgL B1 d1 B2 d2 x).toArray ∧ ZeroB W p ∧ J1 w3 x no true false t5 t6 t33 t35 (W.setCells p 0 (cfgL B1 d1 B2 d2 x)) := by
  obtain ⟨h0, SE, SF, p, q, k1, k2, k3, k4, k5, e1, e2, e4, e5, f1, f2, f4, f5, hpq, hz1, hz2⟩ := h
  obtain ⟨B1, d1, B2, d2, e, -⟩ := id k4
  refine ⟨p, B1, d1, B2, d2, e1, e, hz1, below_setCells e2 _ _ h0, SE, SF, p, q, (fun k hk => by rw [size_setCells]; exact k1 k hk), (fun k hk => by rw [size_setCells]; exact k2 k hk), k3, k4.step (fun k hk _ => heap_setCells _ _ _ _ _ (fun hh => e4 (hh ▸ hk))), k5.step (fun k hk _ => heap_setCells _ _ _ _ _ (fun hh => e5 (hh ▸ hk))), e1, e2, e4, e5, f1, f2, f4, f5, hpq, ?_, ?_⟩
  · exact ⟨B1, d1, B2, d2, e, zeroB_store hz1⟩
  · exact (heap_setCells _ _ _ _ _ (Ne.symm hpq)).trans hz2
theorem J1.store7 (h : J1 w3 x no true false t5 t6 t33 t35 W) : ∃ q B1 d1 B2 d2, t6 = .pointer (some ⟨q, 0, none⟩) ∧ t35 = .agg (cfgL B1 d1 B2 d2 x).toArray ∧ ZeroB W q ∧ J1 w3 x no true true t5 t6 t33 t35 (W.setCells q 0 (cfgL B1 d1 B2 d2 x)) := by
  obtain ⟨h0, SE, SF, p, q, k1, k2, k3, k4, k5, e1, e2, e4, e5, f1, f2, f4, f5, hpq, hz1, hz2⟩ := h
  obtain ⟨B1, d1, B2, d2, e, -⟩ := id k5
  refine ⟨q, B1, d1, B2, d2, f1, e, hz2, below_setCells f2 _ _ h0, SE, SF, p, q, (fun k hk => by rw [size_setCells]; exact k1 k hk), (fun k hk => by rw [size_setCells]; exact k2 k hk), k3, k4.step (fun k hk _ => heap_setCells _ _ _ _ _ (fun hh => f4 (hh ▸ hk))), k5.step (fun k hk _ => heap_setCells _ _ _ _ _ (fun hh => f5 (hh ▸ hk))), e1, e2, e4, e5, f1, f2, f4, f5, hpq, ?_, ?_⟩
  · obtain ⟨C1, c1, C2, c2, he, hc⟩ := hz1
    exact ⟨C1, c1, C2, c2, he, (heap_setCells _ _ _ _ _ hpq).trans hc⟩
  · exact ⟨B1, d1, B2, d2, e, zeroB_store hz2⟩
end
end Go.Proofs.Ytedchpflcemdkaa
