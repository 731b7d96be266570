/- For every list of rules the law RelabelMay returns true and never panics. No condition. -/
import Derived.Test.YtcikjeiebpmmcaaGreatRows
import Derived.Test.YtcikjeiebpmmcaaGreatQmPRmax0
import Derived.Test.YtcikjeiebpmmcaaGreatQmPRmax1
import Derived.Test.YtcikjeiebpmmcaaGreatQmPRmax2
import Derived.Test.YtcikjeiebpmmcaaGreatQmPRmax3
import Derived.Test.YtcikjeiebpmmcaaGreatQmPRmax4
import Derived.Test.YtcikjeiebpmmcaaGreatQmPRmax5
import Derived.Test.YtcikjeiebpmmcaaGreatQmPRmax6
import Derived.Test.YtcikjeiebpmmcaaGreatQmPRmax7
import Derived.Test.YtcikjeiebpmmcaaGreatQmPRmax8
import Derived.Test.YtcikjeiebpmmcaaGreatQmPRmax9
import Derived.Test.YtcikjeiebpmmcaaGreatQmPRmax10
import Derived.Test.YtcikjeiebpmmcaaGreatQmPureRmaMay
import Derived.Test.YtcikjeiebpmmcaaGreatQmGOpen
import Derived.WalkKit
import Derived.ProofKit
import Derived.OpenShut
import Derived.ShutString
import Derived.ChangeOld
import Derived.Below
import Derived.SizedLaws
import Derived.Carry
import Derived.HandedShaped
namespace Go.Proofs.YtcikjeiebpmmcaaGreat.relabelMay
open Go.ChangeShapes Go.WideShapes Go.ChangeAt Go.RowKit Go.Proofs.YtcikjeiebpmmcaaGreat Go.Proofs.YtcikjeiebpmmcaaGreatW.PrintWords Go.Proofs.YtcikjeiebpmmcaaGreat.PRma
open Go.ChangeMaps (open_string shut_string)
set_option linter.unusedVariables false
theorem own : ownKnob Tryz.prog.godebug = none := by kernel_rfl
theorem laidOut : laidOutB Tryz.prog = true := by kernel_rfl
set_option maxRecDepth 100000 in
theorem lifted (os : Os) (started : os.Started) (H : Type) (enc : TypeId × Value → H) :
    ReturnsInHanded {} Tryz.checked os 5 .any (Rows.relabelMaySpec.pre6 enc Tryz.prog Tryz.f5 Rows.relabelMayRow.domain false) (Rows.relabelMaySpec.post enc Tryz.prog Tryz.f5 false true false false) := by
  refine returnsInHanded_of_change_shaped (C := Tryz.checked) own started (by kernel_rfl) Tryz.func5
    (ChangeSpec.witness6 (enc := enc) (C := Tryz.checked) false ⟨#[], #[.slice none 0 0], []⟩ 8 (by kernel_rfl) (by kernel_rfl) (by kernel_rfl) (by kernel_rfl)) ?_
  intro W base args ds gs before hval0 hW hcnd hsz0 hshape _
  have hsz : (DataW.weightsEach Tryz.prog (Tryz.f5.params.toList ++ Rows.relabelMaySpec.plain.varTypes Tryz.prog) (ds ++ gs)).all (· ≤ reachBytes) = true := hsz0
  have hval : ∀ (j : Nat) t v, Tryz.f5.params[j]? = some t → args[j]? = some v → Value.okWide Tryz.prog W .any base t v := hval0
  have hW' := hW
  obtain ⟨p, q, hA0, hV, rfl, hfz, hnd⟩ := hW
  have hA : DataW.TrodAll enc Tryz.prog W 0 (fun _ => true) true Tryz.f5.params.toList args.toList ds p := hA0
  rw [Tryz.params5] at hA hval hsz
  obtain ⟨v0, vs0, d0, ds0, p0, q0, hargs, rfl, rfl, h0, r0⟩ := trodAll_cons hA
  obtain ⟨rfl, rfl, rfl⟩ := trodAll_nil r0
  obtain rfl : args = #[v0] := by cases args; simp_all
  obtain ⟨rfl, rfl⟩ := trodVars_none hV
  have k0 := h0
  have lt0 : ∀ x ∈ p0, x.block < W.heap.size := by obtain ⟨m, hm⟩ := k0; exact DataW.trod_lt m _ _ _ hm
  obtain ⟨a0, len0, cap0, rfl⟩ := okWide_slice Tryz.underlying31 (hval 0 31 v0 rfl rfl)
  obtain ⟨l0, hK0, w0⟩ := opens_arg (opens_slice Tryz.underlying31 (by kernel_rfl) (b := 72) (by kernel_rfl) (opens_struct Tryz.underlying43 (by kernel_rfl) (opensL_cons (opens_int Tryz.underlying41) (opensL_cons (opens_string Tryz.underlying9) (opensL_cons (opens_string Tryz.underlying9) (opensL_cons (opens_string Tryz.underlying9) (opensL_one (opens_string Tryz.underlying9)))))) (fun x : S43 => (x.f0, x.f1, x.f2, x.f3, x.f4)) (fun p => ⟨p.1, p.2.1, p.2.2.1, p.2.2.2.1, p.2.2.2.2⟩) (fun _ => rfl))) h0 hsz (j := 0) (t := 31) rfl rfl
  obtain ⟨A0, c0, e0, hle0, hC0⟩ := hK0
  have e0' : Value.slice a0 len0 cap0 = .slice A0 l0.length c0 := by simpa [Value.cells] using e0
  cases e0'
  clear hA0 hval0 hsz0 hsz
  have hSH : SH W := cell_of_shapedOpen_int (g := 0) (t := 3) (zero := #[.int .i64 0]) hshape (of_decide_eq_true (by kernel_rfl)) (by kernel_rfl) rfl (by kernel_rfl) (by kernel_rfl) Tryz.underlying3
  obtain ⟨kk, hpure⟩ := PureRma.RelabelMay l0 w0.2
  refine (odometerlaw29_RelabelMay.calls kk a0 cap0 l0 true W hSH hC0 hle0 hpure).mono fun e W' ⟨he, bel⟩ => ?_
  subst he
  exact ⟨_, rfl, _, _, _, [], _, [], hW', trodAll_mk1 (shut_bool Tryz.underlying4 _), (trodAll_cons_mk (Below.trod laidOut (by kernel_rfl) (of_decide_eq_true (by kernel_rfl)) k0 bel lt0) trodAll_mk0), rfl, bel.frame _, fun h => by cases h⟩
theorem over : Rows.relabelMayRow.holds Tryz.pinned (OpenSpec.ofChange Rows.relabelMaySpec) :=
  OpenClaim.holds_of_wide 5 Tryz.f5 rfl rfl rfl rfl rfl rfl rfl ⟨rfl, rfl, rfl, rfl, rfl⟩ rfl rfl rfl rfl rfl (by kernel_rfl) Tryz.func5 (by kernel_rfl)
    (of_decide_eq_true (by kernel_rfl)) (by unfold Func.isWrapper; first | (rw [if_pos (by decide +kernel)]; kernel_rfl) | (rw [if_neg (by decide +kernel)]; exact ⟨rfl, rfl⟩))
    (fun os started H enc _ => lifted os started H enc)
theorem proved : Rows.RelabelMaySaid := over
end Go.Proofs.YtcikjeiebpmmcaaGreat.relabelMay
namespace Go.Proofs.YtcikjeiebpmmcaaGreat
theorem relabelMay_holds : Rows.RelabelMaySaid := relabelMay.proved
end Go.Proofs.YtcikjeiebpmmcaaGreat
