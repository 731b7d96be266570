/- A text of this claim, pruned by a program of the session (prune.py) to what the theorem rests on. -/
import Derived.Test.YtneodhhoejjncaaQcGAlk
import Derived.Test.YtneodhhoejjncaaQcGStC
namespace Go.Proofs.Ytneodhhoejjncaa
open Go.RowKit Go.Proofs.YtneodhhoejjncaaW.PrintWords
set_option linter.unusedVariables false
set_option linter.unusedSimpArgs false
def Within (f1 f2 : StF) : Prop := ∀ s x, sK.ok s → er f1 s = some x → er f2 s = some x
set_option maxRecDepth 100000 in
set_option maxHeartbeats 4000000 in
theorem equal_st (B1 mb1 B2 mb2 : Nat) (m1 m2 : Int) (f1 f2 : StF) (c1 c2 : Nat) (w : World) (h1 : StAt w B1 mb1 m1 f1 c1) (h2 : StAt w B2 mb2 m2 f2 c2) :
    Calls Try.prog 27 #[.map (some mb1), .map (some mb2), .func (.func 28) #[] #[]] w fun e w' => ∃ b, e = .returned (.bool b) ∧ (b = true ↔ c1 = c2 ∧ Within f1 f2) ∧ Below w.heap.size w w' := by
  have q1 : ∀ ty, (Builtin.len_ #[50] ty #[.map (some mb1)]).run Try.prog w = .ok (.int .i64 c1) w := fun ty => h1.map.len Try.underlying50 ty
  have q2 : ∀ ty, (Builtin.len_ #[50] ty #[.map (some mb2)]).run Try.prog w = .ok (.int .i64 c2) w := fun ty => h2.map.len Try.underlying50 ty
  have H1 := Aside0.mk h1
  have H2 := Aside0.mk h2
  clear h1 h2
  by_cases hcc : c1 = c2
  · subst hcc
    go_enter Try.func27, Try.ntmps27
    go_wp2_with (first
      | (at_range; refine wpList_rangeM rfl (.tmp 16) 50 rfl 65 Try.underlying50 rfl H1.out.map ?_; intro w3 hR3 hg3 hz3))
    have HR3 := Aside0.mk hR3
    have hg3' : Below w.heap.size w w3 := ⟨hg3.os, hg3.tape, hg3.output, hg3.size, fun k hk => hg3.block k hk (by simp)⟩
    have HB3 := Aside0.mk hg3'
    clear hR3 hg3 hg3' q1 q2
    go_frame
    go_loopw [19] (fun _ wr => ∃ (left : ByteArray → Bool) (todo : Nat), Aside0 (RangeAt sK wr mb1 w.heap.size (fun s => (f1 s).map fun p => ptrV p.1) c1 left todo) ∧ Aside0 (Below w.heap.size w wr) ∧ Aside0 (∀ s x, sK.ok s → left s = false → er f1 s = some x → er f2 s = some x)) (fun _ wr => wr.rangeLeft mb1 w.heap.size)
    case atStart => exact ⟨_, _, HR3, HB3, ⟨fun s x _ hl hx => by
        unfold er at hx
        cases hq : f1 s with
        | none => rw [hq] at hx; cases hx
        | some v => simp [hq] at hl⟩⟩
    case round =>
      clear HR3 HB3
      obtain ⟨left, todo, HR, HB, HI⟩ := hrel
      have HME : Aside0 (wr.rangeLeft mb1 w.heap.size = todo) := ⟨HR.out.left_eq⟩
      go_wp2_with (first
        | (at_next; refine wpList_nextStore rfl (.tmp 17) rfl rfl HR.out ?done ?more))
      case done =>
        intro h0 hl0
        have HL0 := Aside0.mk hl0
        clear hl0
        go_wp2
        go_ret
        exact ⟨true, rfl, ⟨fun _ => ⟨by trivial, fun s x hs hx => HI.out s x hs (HL0.out s hs) hx⟩, fun _ => rfl⟩, HB.out⟩
      case more =>
        intro s p x w8 todo' hs hls hfs hR8 hlt8 hg8 hz8 hen
        have hB8 : Below w.heap.size w w8 := HB.out.grown hg8 HB.out.size (fun k e => by have := Option.some.inj e; omega)
        have hp8 : w8.heap[p]? = some (.cells (lstL x).toArray 54 (0, 0)) := (hB8.block p (blk_lt (H1.out.els s p x hs hfs))).trans (H1.out.els s p x hs hfs)
        have hlook := look_store (H2.out.below hB8) hs
        have HR8 := Aside0.mk hR8
        have HB8 := Aside0.mk hB8
        have HS := Aside0.mk hs
        have HLS := Aside0.mk hls
        have HP8 := Aside0.mk hp8
        have HLT := Aside0.mk hlt8
        have HFS : Aside0 (er f1 s = some x) := ⟨by unfold er; rw [hfs]; rfl⟩
        clear hR8 hg8 hB8 hls hfs hp8 HR HB hlt8 hz8
        cases hf2 : f2 s with
        | none =>
          rw [hf2] at hlook
          have HF2 : Aside0 (er f2 s = none) := ⟨by unfold er; rw [hf2]; rfl⟩
          clear hf2 hs
          simp only [Option.isSome_none] at hlook
          go_wp2_with fail
          go_ret
          exact ⟨false, rfl, ⟨fun e => (by cases e), fun e => (by have h9 := e.2 s x HS.out HFS.out; rw [HF2.out] at h9; cases h9)⟩, HB8.out⟩
        | some qy =>
          obtain ⟨q, y⟩ := qy
          have hq8 : w8.heap[q]? = some (.cells (lstL y).toArray 54 (0, 0)) := (HB8.out.block q (blk_lt (H2.out.els s q y hs hf2))).trans (H2.out.els s q y hs hf2)
          have hcl := eq_cl p q x y w8 HP8.out hq8
          rw [hf2] at hlook
          have HF2 : Aside0 (er f2 s = some y) := ⟨by unfold er; rw [hf2]; rfl⟩
          clear hf2 hs hq8
          simp only [Option.isSome_some] at hlook
          unfold ptrV at hcl hlook
          by_cases exy : x = y
          · rw [decide_eq_true exy] at hcl
            have HXY := Aside0.mk exy
            clear exy
            go_wp2_with fail
            refine hcl.mono ?_
            rintro e w9 ⟨rfl, hb9⟩
            have HB9 := Aside0.mk hb9
            clear hcl hb9 hlook
            go_wp2_with fail
            have hR9 := HR8.out.kept (w' := w9) (HB9.out.block mb1 HR8.out.owns.lt) (HB9.out.block w.heap.size HR8.out.lt)
            refine ⟨⟨_, todo', ⟨hR9⟩, ⟨HB8.out.trans (HB9.out.mono HB8.out.size)⟩, ⟨fun t z ht hl hz => ?_⟩⟩, ?_⟩
            · by_cases e : t = s
              · rw [e] at hz ⊢
                rw [HFS.out] at hz
                rw [HF2.out, ← Option.some.inj hz, HXY.out]
              · exact HI.out t z ht (by simpa [e] using hl) hz
            · rw [hR9.left_eq, HME.out]
              exact HLT.out
          · rw [decide_eq_false exy] at hcl
            have HXY := Aside0.mk exy
            clear exy
            go_wp2_with fail
            refine hcl.mono ?_
            rintro e w9 ⟨rfl, hb9⟩
            have HB9 := Aside0.mk hb9
            clear hcl hb9 hlook
            go_wp2_with fail
            go_ret
            exact ⟨false, rfl, ⟨fun e => (by cases e), fun e => (by have h9 := e.2 s x HS.out HFS.out; rw [HF2.out] at h9; exact absurd (Option.some.inj h9).symm HXY.out)⟩, HB8.out.trans (HB9.out.mono HB8.out.size)⟩
  · have hl2 : ((c1 : Int) != (c2 : Int)) = true := by simpa using fun e => hcc (by omega)
    have HCC := Aside0.mk hcc
    clear hcc
    go_enter Try.func27, Try.ntmps27
    go_wp2_with fail
    go_ret
    exact ⟨false, rfl, ⟨fun e => (by cases e), fun e => absurd e.1 HCC.out⟩, Below.refl _ _⟩
set_option maxRecDepth 100000 in
set_option maxHeartbeats 2000000 in
theorem same_st (B1 mb1 B2 mb2 : Nat) (m : Int) (f1 f2 : StF) (c1 c2 : Nat) (w : World) (h1 : StAt w B1 mb1 m f1 c1) (h2 : StAt w B2 mb2 m f2 c2) :
    Calls Try.prog 18 #[.pointer (some ⟨B1, 0, none⟩), .pointer (some ⟨B2, 0, none⟩)] w fun e w' => ∃ b, e = .returned (.bool b) ∧ (b = true ↔ c1 = c2 ∧ Within f1 f2) ∧ Below w.heap.size w w' := by
  have c0 : w.cell? ⟨B1, 0, none⟩ = some (.int .i64 m) := (blk_cell h1.blk 0).trans rfl
  have c1' : w.cell? ⟨B1, 1, none⟩ = some (.map (some mb1)) := (blk_cell h1.blk 1).trans rfl
  have d0 : w.cell? ⟨B2, 0, none⟩ = some (.int .i64 m) := (blk_cell h2.blk 0).trans rfl
  have d1 : w.cell? ⟨B2, 1, none⟩ = some (.map (some mb2)) := (blk_cell h2.blk 1).trans rfl
  have lB := blk_lt h1.blk
  have lB2 := blk_lt h2.blk
  have he : ∀ W, Below w.heap.size w W → Calls Try.prog 27 #[.map (some mb1), .map (some mb2), .func (.func 28) #[] #[]] W fun e w' => ∃ b, e = .returned (.bool b) ∧ (w'.cell? ⟨B1, 0, none⟩ = some (.int .i64 m) ∧ w'.cell? ⟨B1, 1, none⟩ = some (.map (some mb1)) ∧ w'.cell? ⟨B2, 0, none⟩ = some (.int .i64 m) ∧ w'.cell? ⟨B2, 1, none⟩ = some (.map (some mb2))) ∧ Aside0 ((b = true ↔ c1 = c2 ∧ Within f1 f2) ∧ Below w.heap.size w w') := fun W hW =>
    (equal_st B1 mb1 B2 mb2 m m f1 f2 c1 c2 W (h1.below hW) (h2.below hW)).mono fun e w' ⟨b, h3, h4, hb⟩ => by
      have hb2 := hW.trans (hb.mono hW.size)
      exact ⟨b, h3, ⟨(hb2.cell (p := ⟨B1, 0, none⟩) lB).trans c0, (hb2.cell (p := ⟨B1, 1, none⟩) lB).trans c1', (hb2.cell (p := ⟨B2, 0, none⟩) lB2).trans d0, (hb2.cell (p := ⟨B2, 1, none⟩) lB2).trans d1⟩, ⟨h4, hb2⟩⟩
  clear h1 h2
  go_enter Try.func18, Try.ntmps18
  go_wp2_with fail
  go_region_held3 (fun w' => w'.cell? ⟨B1, 0, none⟩ = some (.int .i64 m) ∧ w'.cell? ⟨B1, 1, none⟩ = some (.map (some mb1)) ∧ w'.cell? ⟨B2, 0, none⟩ = some (.int .i64 m) ∧ w'.cell? ⟨B2, 1, none⟩ = some (.map (some mb2))) (first | go_keep)
    (first
      | (go_at_call 27; refine (he _ (by repeat (first | apply below_alloc | apply pw_below_drewN | apply below_drew1 | exact Below.refl _ _))).mono ?_; rintro e w1 ⟨b, rfl, ⟨c0, c1', d0, d1⟩, HB⟩))
  go_wp2_with fail
  go_ret
  exact ⟨b, rfl, HB.out.1, HB.out.2⟩
end Go.Proofs.Ytneodhhoejjncaa
