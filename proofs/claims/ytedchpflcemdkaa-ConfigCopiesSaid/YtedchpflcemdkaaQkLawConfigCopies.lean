/- For every two configs the law ConfigCopies returns true and never panics. No condition. -/
import Derived.Test.YtedchpflcemdkaaRows
import Derived.Test.YtedchpflcemdkaaQkGLaw
import Derived.Test.YtedchpflcemdkaaQkGOpen
import Derived.WalkKit
import Derived.ProofKit
import Derived.OpenShut
import Derived.ShutString
import Derived.ChangeOld
import Derived.Below
import Derived.SizedLaws
import Derived.Carry
namespace Go.Proofs.Ytedchpflcemdkaa.configCopies
open Go.ChangeShapes Go.WideShapes Go.ChangeAt Go.RowKit Go.Proofs.Ytedchpflcemdkaa Go.Proofs.YtedchpflcemdkaaW.PrintWords Go.Proofs.Ytedchpflcemdkaa.PKno
open Go.ChangeMaps (open_string shut_string)
set_option linter.unusedVariables false
theorem own : ownKnob Try.prog.godebug = none := by kernel_rfl
theorem laidOut : laidOutB Try.prog = true := by kernel_rfl
set_option maxRecDepth 100000 in
theorem lifted (os : Os) (started : os.Started) (H : Type) (enc : TypeId × Value → H) :
    ReturnsInHanded {} Try.checked os 5 .any (Rows.configCopiesSpec.pre6 enc Try.prog Try.f5 Rows.configCopiesRow.domain false) (Rows.configCopiesSpec.post enc Try.prog Try.f5 false true false false) := by
  refine returnsInHanded_of_change_sized (C := Try.checked) own started (by kernel_rfl) Try.func5
    (ChangeSpec.witness6 (enc := enc) (C := Try.checked) false ⟨#[], #[.agg #[.slice none 0 0, .int .i64 0, .int .i64 0, .slice none 0 0, .int .i64 0, .int .i64 0, .int .i64 0, .int .i64 0, .int .i64 0, .int .i64 0, .int .i64 0], .agg #[.slice none 0 0, .int .i64 0, .int .i64 0, .slice none 0 0, .int .i64 0, .int .i64 0, .int .i64 0, .int .i64 0, .int .i64 0, .int .i64 0, .int .i64 0]], []⟩ 8 (by kernel_rfl) (by kernel_rfl) (by kernel_rfl) (by kernel_rfl)) ?_
  intro W base args ds gs before hval0 hW hcnd hsz0 _
  have hsz : (DataW.weightsEach Try.prog (Try.f5.params.toList ++ Rows.configCopiesSpec.plain.varTypes Try.prog) (ds ++ gs)).all (· ≤ reachBytes) = true := hsz0
  have hval : ∀ (j : Nat) t v, Try.f5.params[j]? = some t → args[j]? = some v → Value.okWide Try.prog W .any base t v := hval0
  have hW' := hW
  obtain ⟨p, q, hA0, hV, rfl, hfz, hnd⟩ := hW
  have hA : DataW.TrodAll enc Try.prog W 0 (fun _ => true) true Try.f5.params.toList args.toList ds p := hA0
  rw [Try.params5] at hA hval hsz
  obtain ⟨v0, vs0, d0, ds0, p0, q0, hargs, rfl, rfl, h0, r0⟩ := trodAll_cons hA
  obtain ⟨v1, vs1, d1, ds1, p1, q1, rfl, rfl, rfl, h1, r1⟩ := trodAll_cons r0
  obtain ⟨rfl, rfl, rfl⟩ := trodAll_nil r1
  obtain rfl : args = #[v0, v1] := by cases args; simp_all
  obtain ⟨rfl, rfl⟩ := trodVars_none hV
  have k0 := h0
  have lt0 : ∀ x ∈ p0, x.block < W.heap.size := by obtain ⟨m, hm⟩ := k0; exact DataW.trod_lt m _ _ _ hm
  obtain ⟨cs0, rfl, hn0⟩ := okWide_struct Try.underlying38 (hval 0 38 v0 rfl rfl)
  obtain ⟨⟨a0_0, a0_1, a0_2, a0_3, a0_4, a0_5, a0_6, a0_7, a0_8, a0_9, a0_10⟩, hK0, hB0⟩ := opens_arg (opens_struct Try.underlying38 (by kernel_rfl) (opensL_cons (opens_slice Try.underlying35 (by kernel_rfl) (b := 64) (by kernel_rfl) (opens_struct Try.underlying23 (by kernel_rfl) (opensL_cons (opens_string Try.underlying9) (opensL_cons (opens_string Try.underlying9) (opensL_cons (opens_string Try.underlying9) (opensL_cons (opens_int Try.underlying2) (opensL_one (opens_int Try.underlying2)))))) (fun x : Tgt => (x.job, x.host, x.path, x.iv, x.tm)) (fun p => ⟨p.1, p.2.1, p.2.2.1, p.2.2.2.1, p.2.2.2.2⟩) (fun _ => rfl))) (opensL_cons (opens_int Try.underlying2) (opensL_cons (opens_int Try.underlying2) (opensL_cons (opens_slice Try.underlying36 (by kernel_rfl) (b := 16) (by kernel_rfl) (opens_string Try.underlying9)) (opensL_cons (opens_int Try.underlying3) (opensL_cons (opens_int Try.underlying3) (opensL_cons (opens_int Try.underlying3) (opensL_cons (opens_int Try.underlying3) (opensL_cons (opens_int Try.underlying3) (opensL_cons (opens_int Try.underlying2) (opensL_one (opens_int Try.underlying2)))))))))))) (fun x => x) (fun x => x) (fun _ => rfl)) h0 hsz (j := 0) (t := 38) rfl rfl
  obtain ⟨_, _, e0, ⟨A0_0, c0_0, rfl, hle0_0, hC0_0⟩, ⟨_, _, rfl, rfl, ⟨_, _, rfl, rfl, ⟨_, _, rfl, ⟨A0_3, c0_3, rfl, hle0_3, hC0_3⟩, ⟨_, _, rfl, rfl, ⟨_, _, rfl, rfl, ⟨_, _, rfl, rfl, ⟨_, _, rfl, rfl, ⟨_, _, rfl, rfl, ⟨_, _, rfl, rfl, rfl⟩⟩⟩⟩⟩⟩⟩⟩⟩⟩ := hK0
  obtain rfl : cs0 = #[.slice A0_0 a0_0.length c0_0, .int .i64 a0_1, .int .i64 a0_2, .slice A0_3 a0_3.length c0_3, .int .i64 a0_4, .int .i64 a0_5, .int .i64 a0_6, .int .i64 a0_7, .int .i64 a0_8, .int .i64 a0_9, .int .i64 a0_10] := by
    apply Array.toList_inj.1
    simpa [Value.cells] using e0
  obtain ⟨w0_0, w0_1, w0_2, w0_3, w0_4, w0_5, w0_6, w0_7, w0_8, w0_9, w0_10⟩ := hB0
  have k1 := h1
  have lt1 : ∀ x ∈ p1, x.block < W.heap.size := by obtain ⟨m, hm⟩ := k1; exact DataW.trod_lt m _ _ _ hm
  obtain ⟨cs1, rfl, hn1⟩ := okWide_struct Try.underlying38 (hval 1 38 v1 rfl rfl)
  obtain ⟨⟨a1_0, a1_1, a1_2, a1_3, a1_4, a1_5, a1_6, a1_7, a1_8, a1_9, a1_10⟩, hK1, hB1⟩ := opens_arg (opens_struct Try.underlying38 (by kernel_rfl) (opensL_cons (opens_slice Try.underlying35 (by kernel_rfl) (b := 64) (by kernel_rfl) (opens_struct Try.underlying23 (by kernel_rfl) (opensL_cons (opens_string Try.underlying9) (opensL_cons (opens_string Try.underlying9) (opensL_cons (opens_string Try.underlying9) (opensL_cons (opens_int Try.underlying2) (opensL_one (opens_int Try.underlying2)))))) (fun x : Tgt => (x.job, x.host, x.path, x.iv, x.tm)) (fun p => ⟨p.1, p.2.1, p.2.2.1, p.2.2.2.1, p.2.2.2.2⟩) (fun _ => rfl))) (opensL_cons (opens_int Try.underlying2) (opensL_cons (opens_int Try.underlying2) (opensL_cons (opens_slice Try.underlying36 (by kernel_rfl) (b := 16) (by kernel_rfl) (opens_string Try.underlying9)) (opensL_cons (opens_int Try.underlying3) (opensL_cons (opens_int Try.underlying3) (opensL_cons (opens_int Try.underlying3) (opensL_cons (opens_int Try.underlying3) (opensL_cons (opens_int Try.underlying3) (opensL_cons (opens_int Try.underlying2) (opensL_one (opens_int Try.underlying2)))))))))))) (fun x => x) (fun x => x) (fun _ => rfl)) h1 hsz (j := 1) (t := 38) rfl rfl
  obtain ⟨_, _, e1, ⟨A1_0, c1_0, rfl, hle1_0, hC1_0⟩, ⟨_, _, rfl, rfl, ⟨_, _, rfl, rfl, ⟨_, _, rfl, ⟨A1_3, c1_3, rfl, hle1_3, hC1_3⟩, ⟨_, _, rfl, rfl, ⟨_, _, rfl, rfl, ⟨_, _, rfl, rfl, ⟨_, _, rfl, rfl, ⟨_, _, rfl, rfl, ⟨_, _, rfl, rfl, rfl⟩⟩⟩⟩⟩⟩⟩⟩⟩⟩ := hK1
  obtain rfl : cs1 = #[.slice A1_0 a1_0.length c1_0, .int .i64 a1_1, .int .i64 a1_2, .slice A1_3 a1_3.length c1_3, .int .i64 a1_4, .int .i64 a1_5, .int .i64 a1_6, .int .i64 a1_7, .int .i64 a1_8, .int .i64 a1_9, .int .i64 a1_10] := by
    apply Array.toList_inj.1
    simpa [Value.cells] using e1
  obtain ⟨w1_0, w1_1, w1_2, w1_3, w1_4, w1_5, w1_6, w1_7, w1_8, w1_9, w1_10⟩ := hB1
  clear hA0 hval0 hsz0 hsz
  refine (copies_calls A0_0 A0_3 A1_0 A1_3 c0_0 c0_3 c1_0 c1_3 ⟨a0_0, a0_3, A0_3.isNone, a0_1, a0_2, a0_9, a0_10, a0_4, a0_5, a0_6, a0_7, a0_8⟩ ⟨a1_0, a1_3, A1_3.isNone, a1_1, a1_2, a1_9, a1_10, a1_4, a1_5, a1_6, a1_7, a1_8⟩ W ⟨hC0_0, hC0_3, rfl, w0_0.1, w0_3.1, w0_3.2⟩ ⟨hC1_0, hC1_3, rfl, w1_0.1, w1_3.1, w1_3.2⟩).mono fun e W' ⟨he, bel⟩ => ?_
  subst he
  exact ⟨_, rfl, _, _, _, [], _, [], hW', trodAll_mk1 (shut_bool Try.underlying4 _), (trodAll_cons_mk (Below.trod laidOut (by kernel_rfl) (of_decide_eq_true (by kernel_rfl)) k0 bel lt0) (trodAll_cons_mk (Below.trod laidOut (by kernel_rfl) (of_decide_eq_true (by kernel_rfl)) k1 bel lt1) trodAll_mk0)), rfl, bel.frame _, fun h => by cases h⟩
theorem over : Rows.configCopiesRow.holds Try.pinned (OpenSpec.ofChange Rows.configCopiesSpec) :=
  OpenClaim.holds_of_wide 5 Try.f5 rfl rfl rfl rfl rfl rfl rfl ⟨rfl, rfl, rfl, rfl, rfl⟩ rfl rfl rfl rfl rfl (by kernel_rfl) Try.func5 (by kernel_rfl)
    (of_decide_eq_true (by kernel_rfl)) (by unfold Func.isWrapper; first | (rw [if_pos (by decide +kernel)]; kernel_rfl) | (rw [if_neg (by decide +kernel)]; exact ⟨rfl, rfl⟩))
    (fun os started H enc _ => lifted os started H enc)
theorem proved : Rows.ConfigCopiesSaid := over
end Go.Proofs.Ytedchpflcemdkaa.configCopies
namespace Go.Proofs.Ytedchpflcemdkaa
theorem configCopies_holds : Rows.ConfigCopiesSaid := configCopies.proved
end Go.Proofs.Ytedchpflcemdkaa
