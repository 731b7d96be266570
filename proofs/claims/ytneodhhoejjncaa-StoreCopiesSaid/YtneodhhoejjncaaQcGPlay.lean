/- A text of this claim, pruned by a program of the session (prune.py) to what the theorem rests on. -/
import Derived.Test.YtneodhhoejjncaaQcGRefZ
import Derived.Test.YtneodhhoejjncaaQcGStMe
namespace Go.Proofs.Ytneodhhoejjncaa
open Go.RowKit Go.Proofs.YtneodhhoejjncaaW.PrintWords Go.Proofs.YtneodhhoejjncaaW.PrintMore Go.Proofs.Ytneodhhoejjncaa.PFew
set_option linter.unusedVariables false
set_option linter.unusedSimpArgs false
structure Played (w wr : World) (B mb R : Nat) (m : Int) (i : Nat) (f : StF) (cnt : Nat) (xs : List Sr) (v : Value) : Prop where
  st : StAt wr B mb m f cnt
  rf : RefAt wr w.heap.size R m xs v
  ls : Listed (er f) xs
  len : xs.length = cnt
  few : cnt ≤ 200 * i
  below : Below w.heap.size w wr
  foot : ∀ k, foot B mb f k → w.heap.size ≤ k
  rfoot : ∀ k, rfoot R v k → w.heap.size ≤ k
theorem Played.step {w wr W : World} {B mb R : Nat} {m : Int} {i : Nat} {f : StF} {cnt : Nat} {xs : List Sr} {v : Value} (h : Played w wr B mb R m i f cnt xs v) (hb : Below wr.heap.size wr W) : Played w W B mb R m i f cnt xs v :=
  ⟨h.st.below hb, h.rf.below hb, h.ls, h.len, h.few, h.below.trans (hb.mono h.below.size), h.foot, h.rfoot⟩
theorem played_put {w w4 w5 w6 : World} {B mb R n : Nat} {m ow : Int} {i : Nat} {f f5 : StF} {cnt : Nat} {xs : List Sr} {v v6 : Value} {Li : List Smp} (h : Played w w4 B mb R m i f cnt xs v) (hk : ∀ x ∈ Li, sK.ok x.nm) (hn : Li.length = n) (hn2 : n ≤ 200)
    (he : er f5 = outS ow Li (samplesP m ow Li (er f, cnt)).2.1) (hL : Left w4 w5 B mb m f f5 (samplesP m ow Li (er f, cnt)).2.2) (hR : RLeft w5 w6 w.heap.size R m v v6 (outL ow Li (samplesL m ow Li (er f, xs)).2)) :
    Played w w6 B mb R m (i + 1) f5 (samplesP m ow Li (er f, cnt)).2.2 (outL ow Li (samplesL m ow Li (er f, xs)).2) v6 := by
  obtain ⟨e1, e2, e3⟩ := listed_samples m ow Li (er f) xs hk h.ls
  rw [h.len] at e1 e2 e3
  have hcn : (samplesP m ow Li (er f, cnt)).2.2 ≤ cnt + Li.length := samplesP_cnt m ow Li (er f, cnt)
  have hrf5 : RefAt w5 w.heap.size R m xs v := h.rf.off hL.kept fun k hk => rfoot_not h.st h.rf hk
  have hf5 : ∀ k, foot B mb f5 k → w.heap.size ≤ k := fun k hk => by
    rcases hL.grows k hk with g | g
    · exact h.foot k g
    · have := h.below.size; omega
  refine ⟨?_, hR.st, ?_, ?_, ?_, ?_, hf5, fun k hk => ?_⟩
  · exact hL.st.off hR.kept fun k hf e => rfoot_not hL.st hrf5 e hf
  · rw [he]
    exact listed_out e2 ow Li
  · rw [outL_len]
    exact e3
  · have := h.few; omega
  · have hb5 : Below w.heap.size w w5 := h.below.trans (hL.kept.toBelow h.below.size h.foot)
    exact hb5.trans (hR.kept.toBelow hb5.size h.rfoot)
  · rcases hR.grows k hk with g | g
    · exact h.rfoot k g
    · have := h.below.size; have := hL.kept.size; omega
end Go.Proofs.Ytneodhhoejjncaa
