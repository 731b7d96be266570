/- For every template and every list of texts the law RelabelFills returns true and never panics. No condition. -/
import Derived.Test.YtcikjeiebpmmcaaGreatRows
import Derived.Test.YtcikjeiebpmmcaaGreatQfPFilx0
import Derived.Test.YtcikjeiebpmmcaaGreatQfPFilx1
import Derived.Test.YtcikjeiebpmmcaaGreatQfPFilx2
import Derived.Test.YtcikjeiebpmmcaaGreatQfPFilx3
import Derived.Test.YtcikjeiebpmmcaaGreatQfPFilx4
import Derived.Test.YtcikjeiebpmmcaaGreatQfPFilx5
import Derived.Test.YtcikjeiebpmmcaaGreatQfPFilx6
import Derived.Test.YtcikjeiebpmmcaaGreatQfPFilx7
import Derived.Test.YtcikjeiebpmmcaaGreatQfPureFilFills
import Derived.Test.YtcikjeiebpmmcaaGreatQfGOpen
import Derived.WalkKit
import Derived.ProofKit
import Derived.OpenShut
import Derived.ShutString
import Derived.ChangeOld
import Derived.Below
import Derived.SizedLaws
import Derived.Carry
import Derived.HandedShaped
namespace Go.Proofs.YtcikjeiebpmmcaaGreat.relabelFills
open Go.ChangeShapes Go.WideShapes Go.ChangeAt Go.RowKit Go.Proofs.YtcikjeiebpmmcaaGreat Go.Proofs.YtcikjeiebpmmcaaGreatW.PrintWords Go.Proofs.YtcikjeiebpmmcaaGreat.PFil
open Go.ChangeMaps (open_string shut_string)
set_option linter.unusedVariables false
theorem own : ownKnob Tryz.prog.godebug = none := by kernel_rfl
theorem laidOut : laidOutB Tryz.prog = true := by kernel_rfl
set_option maxRecDepth 100000 in
theorem lifted (os : Os) (started : os.Started) (H : Type) (enc : TypeId × Value → H) :
    ReturnsInHanded {} Tryz.checked os 4 .any (Rows.relabelFillsSpec.pre6 enc Tryz.prog Tryz.f4 Rows.relabelFillsRow.domain false) (Rows.relabelFillsSpec.post enc Tryz.prog Tryz.f4 false true false false) := by
  refine returnsInHanded_of_change_shaped (C := Tryz.checked) own started (by kernel_rfl) Tryz.func4
    (ChangeSpec.witness6 (enc := enc) (C := Tryz.checked) false ⟨#[], #[.string ByteArray.empty, .slice none 0 0], []⟩ 8 (by kernel_rfl) (by kernel_rfl) (by kernel_rfl) (by kernel_rfl)) ?_
  intro W base args ds gs before hval0 hW hcnd hsz0 hshape _
  have hsz : (DataW.weightsEach Tryz.prog (Tryz.f4.params.toList ++ Rows.relabelFillsSpec.plain.varTypes Tryz.prog) (ds ++ gs)).all (· ≤ reachBytes) = true := hsz0
  have hval : ∀ (j : Nat) t v, Tryz.f4.params[j]? = some t → args[j]? = some v → Value.okWide Tryz.prog W .any base t v := hval0
  have hW' := hW
  obtain ⟨p, q, hA0, hV, rfl, hfz, hnd⟩ := hW
  have hA : DataW.TrodAll enc Tryz.prog W 0 (fun _ => true) true Tryz.f4.params.toList args.toList ds p := hA0
  rw [Tryz.params4] at hA hval hsz
  obtain ⟨v0, vs0, d0, ds0, p0, q0, hargs, rfl, rfl, h0, r0⟩ := trodAll_cons hA
  obtain ⟨v1, vs1, d1, ds1, p1, q1, rfl, rfl, rfl, h1, r1⟩ := trodAll_cons r0
  obtain ⟨rfl, rfl, rfl⟩ := trodAll_nil r1
  obtain rfl : args = #[v0, v1] := by cases args; simp_all
  obtain ⟨rfl, rfl⟩ := trodVars_none hV
  obtain ⟨a0, rfl, rfl, rfl, y0⟩ := open_string Tryz.underlying9 (hval 0 9 v0 rfl rfl) h0
  have w0 : a0.size ≤ 140737488351232 := by
    have z := sized_string hsz (j := 0) (t := 9) rfl rfl
    rw [Array.length_toList] at z
    exact z
  have k1 := h1
  have lt1 : ∀ x ∈ p1, x.block < W.heap.size := by obtain ⟨m, hm⟩ := k1; exact DataW.trod_lt m _ _ _ hm
  obtain ⟨a1, len1, cap1, rfl⟩ := okWide_slice Tryz.underlying23 (hval 1 23 v1 rfl rfl)
  obtain ⟨l1, hK1, w1⟩ := opens_arg (opens_slice Tryz.underlying23 (by kernel_rfl) (b := 16) (by kernel_rfl) (opens_string Tryz.underlying9)) h1 hsz (j := 1) (t := 23) rfl rfl
  obtain ⟨A1, c1, e1, hle1, hC1⟩ := hK1
  have e1' : Value.slice a1 len1 cap1 = .slice A1 l1.length c1 := by simpa [Value.cells] using e1
  cases e1'
  clear hA0 hval0 hsz0 hsz
  have hSH : SH W := cell_of_shapedOpen_int (g := 0) (t := 3) (zero := #[.int .i64 0]) hshape (of_decide_eq_true (by kernel_rfl)) (by kernel_rfl) rfl (by kernel_rfl) (by kernel_rfl) Tryz.underlying3
  obtain ⟨kk, hpure⟩ := PureFil.RelabelFills a0 l1 w1.2
  refine (odometerlaw29_RelabelFills.calls kk a0 a1 cap1 l1 true W hSH hC1 hle1 hpure).mono fun e W' ⟨he, bel⟩ => ?_
  subst he
  exact ⟨_, rfl, _, _, _, [], _, [], hW', trodAll_mk1 (shut_bool Tryz.underlying4 _), (trodAll_cons_mk (shut_string Tryz.underlying9 y0) (trodAll_cons_mk (Below.trod laidOut (by kernel_rfl) (of_decide_eq_true (by kernel_rfl)) k1 bel lt1) trodAll_mk0)), rfl, bel.frame _, fun h => by cases h⟩
theorem over : Rows.relabelFillsRow.holds Tryz.pinned (OpenSpec.ofChange Rows.relabelFillsSpec) :=
  OpenClaim.holds_of_wide 4 Tryz.f4 rfl rfl rfl rfl rfl rfl rfl ⟨rfl, rfl, rfl, rfl, rfl⟩ rfl rfl rfl rfl rfl (by kernel_rfl) Tryz.func4 (by kernel_rfl)
    (of_decide_eq_true (by kernel_rfl)) (by unfold Func.isWrapper; first | (rw [if_pos (by decide +kernel)]; kernel_rfl) | (rw [if_neg (by decide +kernel)]; exact ⟨rfl, rfl⟩))
    (fun os started H enc _ => lifted os started H enc)
theorem proved : Rows.RelabelFillsSaid := over
end Go.Proofs.YtcikjeiebpmmcaaGreat.relabelFills
namespace Go.Proofs.YtcikjeiebpmmcaaGreat
theorem relabelFills_holds : Rows.RelabelFillsSaid := relabelFills.proved
end Go.Proofs.YtcikjeiebpmmcaaGreat
