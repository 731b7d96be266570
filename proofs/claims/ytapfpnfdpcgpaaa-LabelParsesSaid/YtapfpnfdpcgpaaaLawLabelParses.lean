/- For every text, every list of labels and every list of words the law LabelParses returns true and never panics. No condition. -/
import Derived.Test.YtapfpnfdpcgpaaaRows
import Derived.Test.YtapfpnfdpcgpaaaPLapx
import Derived.Test.YtapfpnfdpcgpaaaPureLabelParses
import Derived.Test.YtapfpnfdpcgpaaaGOpen
import Derived.WalkKit
import Derived.ProofKit
import Derived.OpenShut
import Derived.ShutString
import Derived.ChangeOld
import Derived.Below
import Derived.SizedLaws
import Derived.Carry
import Derived.HandedShaped
namespace Go.Proofs.Ytapfpnfdpcgpaaa.labelParses
open Go.ChangeShapes Go.WideShapes Go.ChangeAt Go.RowKit Go.Proofs.Ytapfpnfdpcgpaaa Go.Proofs.YtapfpnfdpcgpaaaW.PrintWords Go.Proofs.Ytapfpnfdpcgpaaa.PLap
open Go.ChangeMaps (open_string shut_string)
set_option linter.unusedVariables false
theorem own : ownKnob Try.prog.godebug = none := by kernel_rfl
theorem laidOut : laidOutB Try.prog = true := by kernel_rfl
set_option maxRecDepth 100000 in
theorem lifted (os : Os) (started : os.Started) (H : Type) (enc : TypeId × Value → H) :
    ReturnsInHanded {} Try.checked os 7 .any (Rows.labelParsesSpec.pre6 enc Try.prog Try.f7 Rows.labelParsesRow.domain false) (Rows.labelParsesSpec.post enc Try.prog Try.f7 false true false false) := by
  refine returnsInHanded_of_change_shaped (C := Try.checked) own started (by kernel_rfl) Try.func7
    (ChangeSpec.witness6 (enc := enc) (C := Try.checked) false ⟨#[], #[.string ByteArray.empty, .slice none 0 0, .slice none 0 0], []⟩ 8 (by kernel_rfl) (by kernel_rfl) (by kernel_rfl) (by kernel_rfl)) ?_
  intro W base args ds gs before hval0 hW hcnd hsz0 hshape _
  have hsz : (DataW.weightsEach Try.prog (Try.f7.params.toList ++ Rows.labelParsesSpec.plain.varTypes Try.prog) (ds ++ gs)).all (· ≤ reachBytes) = true := hsz0
  have hval : ∀ (j : Nat) t v, Try.f7.params[j]? = some t → args[j]? = some v → Value.okWide Try.prog W .any base t v := hval0
  have hW' := hW
  obtain ⟨p, q, hA0, hV, rfl, hfz, hnd⟩ := hW
  have hA : DataW.TrodAll enc Try.prog W 0 (fun _ => true) true Try.f7.params.toList args.toList ds p := hA0
  rw [Try.params7] at hA hval hsz
  obtain ⟨v0, vs0, d0, ds0, p0, q0, hargs, rfl, rfl, h0, r0⟩ := trodAll_cons hA
  obtain ⟨v1, vs1, d1, ds1, p1, q1, rfl, rfl, rfl, h1, r1⟩ := trodAll_cons r0
  obtain ⟨v2, vs2, d2, ds2, p2, q2, rfl, rfl, rfl, h2, r2⟩ := trodAll_cons r1
  obtain ⟨rfl, rfl, rfl⟩ := trodAll_nil r2
  obtain rfl : args = #[v0, v1, v2] := by cases args; simp_all
  obtain ⟨rfl, rfl⟩ := trodVars_none hV
  obtain ⟨a0, rfl, rfl, rfl, y0⟩ := open_string Try.underlying9 (hval 0 9 v0 rfl rfl) h0
  have w0 : a0.size ≤ 140737488351232 := by
    have z := sized_string hsz (j := 0) (t := 9) rfl rfl
    rw [Array.length_toList] at z
    exact z
  have k1 := h1
  have lt1 : ∀ x ∈ p1, x.block < W.heap.size := by obtain ⟨m, hm⟩ := k1; exact DataW.trod_lt m _ _ _ hm
  obtain ⟨a1, len1, cap1, rfl⟩ := okWide_slice Try.underlying29 (hval 1 29 v1 rfl rfl)
  obtain ⟨l1, hK1, w1⟩ := opens_arg (opens_slice Try.underlying29 (by kernel_rfl) (b := 32) (by kernel_rfl) (opens_struct Try.underlying45 (by kernel_rfl) (opensL_cons (opens_string Try.underlying9) (opensL_one (opens_string Try.underlying9))) (fun x : S45 => (x.f0, x.f1)) (fun p => ⟨p.1, p.2⟩) (fun _ => rfl))) h1 hsz (j := 1) (t := 29) rfl rfl
  obtain ⟨A1, c1, e1, hle1, hC1⟩ := hK1
  have e1' : Value.slice a1 len1 cap1 = .slice A1 l1.length c1 := by simpa [Value.cells] using e1
  cases e1'
  have k2 := h2
  have lt2 : ∀ x ∈ p2, x.block < W.heap.size := by obtain ⟨m, hm⟩ := k2; exact DataW.trod_lt m _ _ _ hm
  obtain ⟨a2, len2, cap2, rfl⟩ := okWide_slice Try.underlying46 (hval 2 46 v2 rfl rfl)
  obtain ⟨l2, hK2, w2⟩ := opens_arg (opens_slice Try.underlying46 (by kernel_rfl) (b := 16) (by kernel_rfl) (opens_string Try.underlying9)) h2 hsz (j := 2) (t := 46) rfl rfl
  obtain ⟨A2, c2, e2, hle2, hC2⟩ := hK2
  have e2' : Value.slice a2 len2 cap2 = .slice A2 l2.length c2 := by simpa [Value.cells] using e2
  cases e2'
  clear hA0 hval0 hsz0 hsz
  have hSH : SH W := cell_of_shapedOpen_int (g := 0) (t := 3) (zero := #[.int .i64 0]) hshape (of_decide_eq_true (by kernel_rfl)) (by kernel_rfl) rfl (by kernel_rfl) (by kernel_rfl) Try.underlying3
  obtain ⟨kk, hpure⟩ := PureLap.LabelParses a0 l1 l2 w0 w1.2
  refine (odometerlaw03_LabelParses.calls kk a0 a1 cap1 l1 a2 cap2 l2 true W hSH hC1 hle1 hC2 hle2 hpure).mono fun e W' ⟨he, bel⟩ => ?_
  subst he
  exact ⟨_, rfl, _, _, _, [], _, [], hW', trodAll_mk1 (shut_bool Try.underlying4 _), (trodAll_cons_mk (shut_string Try.underlying9 y0) (trodAll_cons_mk (Below.trod laidOut (by kernel_rfl) (of_decide_eq_true (by kernel_rfl)) k1 bel lt1) (trodAll_cons_mk (Below.trod laidOut (by kernel_rfl) (of_decide_eq_true (by kernel_rfl)) k2 bel lt2) trodAll_mk0))), rfl, bel.frame _, fun h => by cases h⟩
theorem over : Rows.labelParsesRow.holds Try.pinned (OpenSpec.ofChange Rows.labelParsesSpec) :=
  OpenClaim.holds_of_wide 7 Try.f7 rfl rfl rfl rfl rfl rfl rfl ⟨rfl, rfl, rfl, rfl, rfl⟩ rfl rfl rfl rfl rfl (by kernel_rfl) Try.func7 (by kernel_rfl)
    (of_decide_eq_true (by kernel_rfl)) (by unfold Func.isWrapper; first | (rw [if_pos (by decide +kernel)]; kernel_rfl) | (rw [if_neg (by decide +kernel)]; exact ⟨rfl, rfl⟩))
    (fun os started H enc _ => lifted os started H enc)
theorem proved : Rows.LabelParsesSaid := over
#print axioms proved
end Go.Proofs.Ytapfpnfdpcgpaaa.labelParses
namespace Go.Proofs.Ytapfpnfdpcgpaaa
theorem labelParses_holds : Rows.LabelParsesSaid := labelParses.proved
end Go.Proofs.Ytapfpnfdpcgpaaa
