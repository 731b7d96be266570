/- A text of this claim, pruned by a program of the session (prune.py) to what the theorem rests on. -/
import Derived.Test.YtneodhhoejjncaaQcGStN
import Derived.Test.YtneodhhoejjncaaQcGMapK
namespace Go.Proofs.Ytneodhhoejjncaa
open Go.RowKit Go.Proofs.YtneodhhoejjncaaW.PrintWords
set_option linter.unusedVariables false
set_option linter.unusedSimpArgs false
section
variable {ops : Array Oper} {rest : List Oper} {o : Oper} {a : Act} {Q : Exit → Act → World → Prop} {w : World}
theorem wpList_putStore {B mb : Nat} {most : Int} {f : StF} {cnt : Nat} (hg : o.guard = none) (m x v : Operand) (hop : o.op = Op.mapUpdate 50 m x v) (hm : a.eval m = .map (some mb)) (h : StAt w B mb most f cnt) (hc : cnt < maxLen)
    (s : ByteArray) (hs : sK.ok s) (hf : f s = none) (hx : a.eval x = .string s) (p : Nat) (l : Lst) (hv : a.eval v = ptrV p) (hp : w.heap[p]? = some (.cells (lstL l).toArray 54 (0, 0))) (hnew : ¬ foot B mb f p)
    (hK : ∀ w', StAt w' B mb most (updF f s (some (p, l))) (cnt + 1) → w.grownBy w' (some mb) → wpList Try.prog ops Q rest (a.put o.dst undef) w') :
    wpList Try.prog ops Q (o :: rest) a w := by
  refine wpList_plain hg fun K' hK' => ?_
  obtain ⟨hrun, _, _⟩ := h.map.putW Try.underlying50 hc hs (ptrV p)
  obtain ⟨r1, r2⟩ := h.put hs hf hc p l hp hnew
  rw [show sK.val s = Value.string s from rfl] at hrun
  unfold Oper.wp
  simp [execOp, hop, hm, hx, hv, hrun, Result.andThen]
  exact hK' _ _ (hK _ r1 r2)
end
structure Copied (w wr : World) (r B2 mb2 : Nat) (most : Int) (f f2 : StF) (left : ByteArray → Bool) (cnt2 : Nat) : Prop where
  st : StAt wr B2 mb2 most f2 cnt2
  has : ∀ s, sK.ok s → er f2 s = if left s = true then none else er f s
  off : ∀ s, ¬ sK.ok s → f2 s = f s
  fresh : ∀ k, foot B2 mb2 f2 k → w.heap.size ≤ k
  ne : ∀ k, foot B2 mb2 f2 k → k ≠ r
  below : Below w.heap.size w wr
open Classical in
noncomputable def offF (f : StF) : StF := fun s => if sK.ok s then none else f s
theorem offF_at (f : StF) {s : ByteArray} (h : sK.ok s) : offF f s = none := if_pos h
set_option maxRecDepth 100000 in
set_option maxHeartbeats 4000000 in
theorem copy_calls (B mb : Nat) (most : Int) (f : StF) (cnt : Nat) (w : World) (h : StAt w B mb most f cnt) (hm : 0 ≤ most) (hc : cnt ≤ maxLen) :
    Calls Try.prog 16 #[.pointer (some ⟨B, 0, none⟩)] w fun e w' => ∃ B2 mb2 f2, e = .returned (.pointer (some ⟨B2, 0, none⟩)) ∧ StAt w' B2 mb2 most f2 cnt ∧ er f2 = er f ∧ (∀ k, foot B2 mb2 f2 k → w.heap.size ≤ k) ∧ Below w.heap.size w w' := by
  have hnew := fun W => new_calls most W
  rw [if_neg (by omega)] at hnew
  have c0 : w.cell? ⟨B, 0, none⟩ = some (.int .i64 most) := (blk_cell h.blk 0).trans rfl
  have hBl := blk_lt h.blk
  have H := Aside0.mk h
  have HC := Aside0.mk hc
  clear h hc hm
  go_enter Try.func16, Try.ntmps16
  go_wp2_with fail
  refine (hnew _).mono ?_
  rintro e w2 ⟨B2, mb2, rfl, hB2, hmb2, hst2, hb2⟩
  have c1 : w2.cell? ⟨B, 1, none⟩ = some (.map (some mb)) := (hb2.cell (p := ⟨B, 1, none⟩) hBl).trans ((blk_cell H.out.blk 1).trans rfl)
  have HST2 := Aside0.mk hst2
  have HB2 := Aside0.mk hb2
  have hmap2 := H.out.map.below hb2
  have HM2 := Aside0.mk hmap2
  clear hnew hst2 hb2 hmap2
  go_wp2_with (first
    | (at_range; refine wpList_rangeM rfl (.tmp 17) 50 rfl 65 Try.underlying50 rfl HM2.out ?_; intro w3 hR3 hg3 hz3))
  have HR3 := Aside0.mk hR3
  have hg3' : Below w2.heap.size w2 w3 := ⟨hg3.os, hg3.tape, hg3.output, hg3.size, fun k hk => hg3.block k hk (by simp)⟩
  have hlt2 : ∀ k, foot B2 mb2 (fun _ => none) k → k < w2.heap.size := fun k hk => HST2.out.lt hk
  have HC3 : Aside0 (Copied w w3 w2.heap.size B2 mb2 most f (offF f) (fun s => ((f s).map fun p => ptrV p.1).isSome) 0) := by
    have hst : StAt w2 B2 mb2 most (offF f) 0 := HST2.out.congr fun s hs => (offF_at f hs).symm
    have hft : ∀ k, foot B2 mb2 (offF f) k → k = B2 ∨ k = mb2 := fun k hk => by
      rcases hk with e | e | ⟨s, x, hs, e⟩
      · exact Or.inl e
      · exact Or.inr e
      · rw [offF_at f hs] at e
        cases e
    refine ⟨⟨hst.below hg3', fun s hs => ?_, fun s hs => if_neg hs, fun k hk => ?_, fun k hk => ?_, HB2.out.trans (hg3'.mono HB2.out.size)⟩⟩
    · unfold er
      rw [offF_at f hs]
      cases f s <;> simp
    · rcases hft k hk with rfl | rfl <;> assumption
    · have := hst.lt hk
      omega
  have hws : w.heap.size ≤ w2.heap.size := HB2.out.size
  clear hR3 hg3 hg3' hlt2 c0 c1
  go_frame
  go_loopw [19] (fun _ wr => ∃ (left : ByteArray → Bool) (todo gn : Nat) (f2 : StF), Aside0 (RangeAt sK wr mb w2.heap.size (fun s => (f s).map fun p => ptrV p.1) cnt left todo) ∧ Aside0 (Copied w wr w2.heap.size B2 mb2 most f f2 left gn) ∧ gn + todo ≤ cnt) (fun _ wr => wr.rangeLeft mb w2.heap.size)
  case atStart => exact ⟨_, cnt, 0, _, HR3, HC3, by omega⟩
  case round =>
    clear HC3 HR3
    obtain ⟨left, todo, gn, f2, HR, HCP, hgt⟩ := hrel
    have HME : Aside0 (wr.rangeLeft mb w2.heap.size = todo) := ⟨HR.out.left_eq⟩
    go_wp2_with (first
      | (at_next; refine wpList_nextStore rfl (.tmp 18) rfl rfl HR.out ?done ?more))
    case done =>
      intro h0 hl0
      have hhas : ∀ s, sK.ok s → er f2 s = er f s := fun s hs => by rw [HCP.out.has s hs, hl0 s hs]; rfl
      have hiso : ∀ (g : StF) s, ((g s).map fun p => ptrV p.1).isSome = (er g s).isSome := fun g s => by unfold er; cases g s <;> rfl
      obtain rfl : gn = cnt := HCP.out.st.map.same_count HR.out.owns fun s hs => by
        show ((f2 s).map fun p => ptrV p.1).isSome = ((f s).map fun p => ptrV p.1).isSome
        rw [hiso, hiso, hhas s hs]
      have her : er f2 = er f := funext fun s => by
        by_cases hs : sK.ok s
        · exact hhas s hs
        · unfold er
          rw [HCP.out.off s hs]
      have HE := Aside0.mk her
      clear hhas hiso her hl0 HR
      go_wp2
      go_ret
      exact ⟨B2, mb2, f2, rfl, HCP.out.st, HE.out, HCP.out.fresh, HCP.out.below⟩
    case more =>
      intro s p x w8 todo' hs hls hfs hR8 hlt8 hg8 hz8 hen
      have hf2 : f2 s = none := by
        have h1 := HCP.out.has s hs
        rw [if_pos hls] at h1
        unfold er at h1
        cases hq : f2 s with
        | none => rfl
        | some v => rw [hq] at h1; cases h1
      have hB8 : Below w.heap.size w w8 := HCP.out.below.grown hg8 HCP.out.below.size (fun k e => by have := Option.some.inj e; omega)
      have hp8 : w8.heap[p]? = some (.cells (lstL x).toArray 54 (0, 0)) := (hB8.block p (blk_lt (H.out.els s p x hs hfs))).trans (H.out.els s p x hs hfs)
      have hst8 : StAt w8 B2 mb2 most f2 gn := HCP.out.st.kept fun k hk => hg8.block k (HCP.out.st.lt hk) (fun e => HCP.out.ne k hk (Option.some.inj e))
      have p0 : w8.cell? ⟨p, 0, none⟩ = some (.string x.x.nm) := (blk_cell hp8 0).trans rfl
      have p1 : w8.cell? ⟨p, 1, none⟩ = some (.int .i64 x.x.val) := (blk_cell hp8 1).trans rfl
      have p2 : w8.cell? ⟨p, 2, none⟩ = some (.int .i64 x.x.time) := (blk_cell hp8 2).trans rfl
      have p3 : w8.cell? ⟨p, 3, none⟩ = some (.bool x.x.counts) := (blk_cell hp8 3).trans rfl
      have p4 : w8.cell? ⟨p, 4, none⟩ = some (.bool x.live) := (blk_cell hp8 4).trans rfl
      have p5 : w8.cell? ⟨p, 5, none⟩ = some (.int .i64 x.owner) := (blk_cell hp8 5).trans rfl
      have b1 : w8.cell? ⟨B2, 1, none⟩ = some (.map (some mb2)) := (blk_cell hst8.blk 1).trans rfl
      have lb : B2 < w8.heap.size := blk_lt hst8.blk
      have lb2 : B2 ≠ w8.heap.size := by omega
      have HST8 := Aside0.mk hst8
      have HB8 := Aside0.mk hB8
      have HR8 := Aside0.mk hR8
      have HS := Aside0.mk hs
      have HF2 := Aside0.mk hf2
      have HLS := Aside0.mk hls
      have HFS := Aside0.mk hfs
      have hgl : gn < maxLen := by have := HC.out; omega
      have hrz : w2.heap.size < w8.heap.size := hR8.lt
      have hg1 : gn + 1 + todo' ≤ cnt := by omega
      have hmr : mb2 ≠ mb := fun e => by have := H.out.map.lt; omega
      have hml : mb2 < w8.heap.size := hst8.map.lt
      have hmr2 : mb2 ≠ w2.heap.size := HCP.out.ne mb2 (Or.inr (Or.inl rfl))
      clear hst8 hB8 hR8 hs hf2 hls hfs hp8 hg8 HR hz8
      go_wp2_with (first
        | (at_mapUpdate; refine wpList_putStore rfl (.tmp 30) (.tmp 31) (.tmp 6) rfl rfl (HST8.out.alloc (.cells (lstL x).toArray 54)) hgl s HS.out HF2.out rfl w8.heap.size x rfl (blk_new w8 _) (fun hk => absurd (HST8.out.lt hk) (Nat.lt_irrefl _)) ?_; intro w9 hst9 hg9))
      have hk9 : ∀ k, k < w8.heap.size → k ≠ mb2 → w9.heap[k]? = w8.heap[k]? := fun k hk hn => (hg9.block k (by simp; omega) (fun e => hn (Option.some.inj e))).trans (Below.heap_alloc w8 _ k hk)
      have hR9 := HR8.out.kept (hk9 mb HR8.out.owns.lt (Ne.symm hmr)) (hk9 w2.heap.size hrz (Ne.symm hmr2))
      have hfoot : ∀ k, foot B2 mb2 (updF f2 s (some (w8.heap.size, x))) k → foot B2 mb2 f2 k ∨ k = w8.heap.size := fun k hk => by
        rcases hk with e | e | ⟨t, y, ht, e⟩
        · exact Or.inl (Or.inl e)
        · exact Or.inl (Or.inr (Or.inl e))
        · unfold updF at e
          split at e
          · exact Or.inr (congrArg Prod.fst (Option.some.inj e)).symm
          · exact Or.inl (Or.inr (Or.inr ⟨t, y, ht, e⟩))
      have hC9 : Copied w w9 w2.heap.size B2 mb2 most f (updF f2 s (some (w8.heap.size, x))) (fun y => left y && !decide (y = s)) (gn + 1) := by
        refine ⟨hst9, fun t ht => ?_, fun t ht => ?_, fun k hk => ?_, fun k hk => ?_, ?_⟩
        · rw [er_upd]
          unfold updS
          by_cases e : t = s
          · subst e
            have h1 : er f t = some x := by unfold er; rw [HFS.out]; rfl
            rw [if_pos rfl, h1]
            simp
          · rw [if_neg e, HCP.out.has t ht]
            simp [e]
        · unfold updF
          rw [if_neg (show ¬ t = s from fun e => ht (by rw [e]; exact HS.out))]
          exact HCP.out.off t ht
        · rcases hfoot k hk with e | e
          · exact HCP.out.fresh k e
          · rw [e]
            exact HB8.out.size
        · rcases hfoot k hk with e | e
          · exact HCP.out.ne k e
          · omega
        · exact (HB8.out.alloc HB8.out.size _).grown hg9 (by have := HB8.out.size; simp; omega) (fun k e => by have := Option.some.inj e; omega)
      have HX := Aside0.mk (And.intro hR9 hC9)
      clear hk9 hR9 hfoot hC9 hst9 hg9 HST8 HB8
      go_frame
      go_roundw
      case rel => exact ⟨_, todo', gn + 1, _, ⟨HX.out.1⟩, ⟨HX.out.2⟩, hg1⟩
      case measure => rw [HX.out.1.left_eq, HME.out]; exact hlt8
end Go.Proofs.Ytneodhhoejjncaa
