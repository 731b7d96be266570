/- For every config the law ConfigMay returns true and never panics. No condition. -/
import Derived.Test.YtedchpflcemdkaaGreatRows
import Derived.Test.YtedchpflcemdkaaGreatQmPCmax0
import Derived.Test.YtedchpflcemdkaaGreatQmPCmax1
import Derived.Test.YtedchpflcemdkaaGreatQmPCmax2
import Derived.Test.YtedchpflcemdkaaGreatQmPCmax3
import Derived.Test.YtedchpflcemdkaaGreatQmPCmax4
import Derived.Test.YtedchpflcemdkaaGreatQmPCmax5
import Derived.Test.YtedchpflcemdkaaGreatQmPCmax6
import Derived.Test.YtedchpflcemdkaaGreatQmPCmax7
import Derived.Test.YtedchpflcemdkaaGreatQmPCmax8
import Derived.Test.YtedchpflcemdkaaGreatQmPCmax9
import Derived.Test.YtedchpflcemdkaaGreatQmPureCma3
import Derived.Test.YtedchpflcemdkaaGreatQmGOpen
import Derived.WalkKit
import Derived.ProofKit
import Derived.OpenShut
import Derived.ShutString
import Derived.ChangeOld
import Derived.Below
import Derived.SizedLaws
import Derived.Carry
namespace Go.Proofs.YtedchpflcemdkaaGreat.configMay
open Go.ChangeShapes Go.WideShapes Go.ChangeAt Go.RowKit Go.Proofs.YtedchpflcemdkaaGreat Go.Proofs.YtedchpflcemdkaaGreatW.PrintWords Go.Proofs.YtedchpflcemdkaaGreat.PCma
open Go.ChangeMaps (open_string shut_string)
set_option linter.unusedVariables false
theorem own : ownKnob Tryz.prog.godebug = none := by kernel_rfl
theorem laidOut : laidOutB Tryz.prog = true := by kernel_rfl
set_option maxRecDepth 100000 in
theorem lifted (os : Os) (started : os.Started) (H : Type) (enc : TypeId × Value → H) :
    ReturnsInHanded {} Tryz.checked os 3 .any (Rows.configMaySpec.pre6 enc Tryz.prog Tryz.f3 Rows.configMayRow.domain false) (Rows.configMaySpec.post enc Tryz.prog Tryz.f3 false true false false) := by
  refine returnsInHanded_of_change_sized (C := Tryz.checked) own started (by kernel_rfl) Tryz.func3
    (ChangeSpec.witness6 (enc := enc) (C := Tryz.checked) false ⟨#[], #[.agg #[.slice none 0 0, .int .i64 0, .int .i64 0, .slice none 0 0, .int .i64 0, .int .i64 0, .int .i64 0, .int .i64 0, .int .i64 0, .int .i64 0, .int .i64 0]], []⟩ 8 (by kernel_rfl) (by kernel_rfl) (by kernel_rfl) (by kernel_rfl)) ?_
  intro W base args ds gs before hval0 hW hcnd hsz0 _
  have hsz : (DataW.weightsEach Tryz.prog (Tryz.f3.params.toList ++ Rows.configMaySpec.plain.varTypes Tryz.prog) (ds ++ gs)).all (· ≤ reachBytes) = true := hsz0
  have hval : ∀ (j : Nat) t v, Tryz.f3.params[j]? = some t → args[j]? = some v → Value.okWide Tryz.prog W .any base t v := hval0
  have hW' := hW
  obtain ⟨p, q, hA0, hV, rfl, hfz, hnd⟩ := hW
  have hA : DataW.TrodAll enc Tryz.prog W 0 (fun _ => true) true Tryz.f3.params.toList args.toList ds p := hA0
  rw [Tryz.params3] at hA hval hsz
  obtain ⟨v0, vs0, d0, ds0, p0, q0, hargs, rfl, rfl, h0, r0⟩ := trodAll_cons hA
  obtain ⟨rfl, rfl, rfl⟩ := trodAll_nil r0
  obtain rfl : args = #[v0] := by cases args; simp_all
  obtain ⟨rfl, rfl⟩ := trodVars_none hV
  have k0 := h0
  have lt0 : ∀ x ∈ p0, x.block < W.heap.size := by obtain ⟨m, hm⟩ := k0; exact DataW.trod_lt m _ _ _ hm
  obtain ⟨cs0, rfl, hn0⟩ := okWide_struct Tryz.underlying25 (hval 0 25 v0 rfl rfl)
  obtain ⟨⟨a0_0, a0_1, a0_2, a0_3, a0_4, a0_5, a0_6, a0_7, a0_8, a0_9, a0_10⟩, hK0, hB0⟩ := opens_arg (opens_struct Tryz.underlying25 (by kernel_rfl) (opensL_cons (opens_slice Tryz.underlying22 (by kernel_rfl) (b := 64) (by kernel_rfl) (opens_struct Tryz.underlying30 (by kernel_rfl) (opensL_cons (opens_string Tryz.underlying9) (opensL_cons (opens_string Tryz.underlying9) (opensL_cons (opens_string Tryz.underlying9) (opensL_cons (opens_int Tryz.underlying2) (opensL_one (opens_int Tryz.underlying2)))))) (fun x : PureCma.Tg => (x.f0, x.f1, x.f2, x.f3, x.f4)) (fun p => ⟨p.1, p.2.1, p.2.2.1, p.2.2.2.1, p.2.2.2.2⟩) (fun _ => rfl))) (opensL_cons (opens_int Tryz.underlying2) (opensL_cons (opens_int Tryz.underlying2) (opensL_cons (opens_slice Tryz.underlying23 (by kernel_rfl) (b := 16) (by kernel_rfl) (opens_string Tryz.underlying9)) (opensL_cons (opens_int Tryz.underlying3) (opensL_cons (opens_int Tryz.underlying3) (opensL_cons (opens_int Tryz.underlying3) (opensL_cons (opens_int Tryz.underlying3) (opensL_cons (opens_int Tryz.underlying3) (opensL_cons (opens_int Tryz.underlying2) (opensL_one (opens_int Tryz.underlying2)))))))))))) (fun x => x) (fun x => x) (fun _ => rfl)) h0 hsz (j := 0) (t := 25) rfl rfl
  obtain ⟨_, _, e0, ⟨A0_0, c0_0, rfl, hle0_0, hC0_0⟩, ⟨_, _, rfl, rfl, ⟨_, _, rfl, rfl, ⟨_, _, rfl, ⟨A0_3, c0_3, rfl, hle0_3, hC0_3⟩, ⟨_, _, rfl, rfl, ⟨_, _, rfl, rfl, ⟨_, _, rfl, rfl, ⟨_, _, rfl, rfl, ⟨_, _, rfl, rfl, ⟨_, _, rfl, rfl, rfl⟩⟩⟩⟩⟩⟩⟩⟩⟩⟩ := hK0
  obtain rfl : cs0 = #[.slice A0_0 a0_0.length c0_0, .int .i64 a0_1, .int .i64 a0_2, .slice A0_3 a0_3.length c0_3, .int .i64 a0_4, .int .i64 a0_5, .int .i64 a0_6, .int .i64 a0_7, .int .i64 a0_8, .int .i64 a0_9, .int .i64 a0_10] := by
    apply Array.toList_inj.1
    simpa [Value.cells] using e0
  obtain ⟨w0_0, w0_1, w0_2, w0_3, w0_4, w0_5, w0_6, w0_7, w0_8, w0_9, w0_10⟩ := hB0
  clear hA0 hval0 hsz0 hsz
  refine (odometerlaw13_ConfigMay.calls _ A0_0 c0_0 a0_0 a0_1 a0_2 A0_3 c0_3 a0_3 a0_4 a0_5 a0_6 a0_7 a0_8 a0_9 a0_10 true W hC0_0 hle0_0 hC0_3 hle0_3 (PureCma.ConfigMay a0_0 a0_1 a0_2 a0_3 a0_4 a0_5 a0_6 a0_7 a0_8 a0_9 a0_10 w0_3.2 (fun t ht => ⟨(w0_0.2 t ht).1, (w0_0.2 t ht).2.1, (w0_0.2 t ht).2.2.1⟩)).choose_spec).mono fun e W' ⟨he, bel⟩ => ?_
  subst he
  exact ⟨_, rfl, _, _, _, [], _, [], hW', trodAll_mk1 (shut_bool Tryz.underlying4 _), (trodAll_cons_mk (Below.trod laidOut (by kernel_rfl) (of_decide_eq_true (by kernel_rfl)) k0 bel lt0) trodAll_mk0), rfl, bel.frame _, fun h => by cases h⟩
theorem over : Rows.configMayRow.holds Tryz.pinned (OpenSpec.ofChange Rows.configMaySpec) :=
  OpenClaim.holds_of_wide 3 Tryz.f3 rfl rfl rfl rfl rfl rfl rfl ⟨rfl, rfl, rfl, rfl, rfl⟩ rfl rfl rfl rfl rfl (by kernel_rfl) Tryz.func3 (by kernel_rfl)
    (of_decide_eq_true (by kernel_rfl)) (by unfold Func.isWrapper; first | (rw [if_pos (by decide +kernel)]; kernel_rfl) | (rw [if_neg (by decide +kernel)]; exact ⟨rfl, rfl⟩))
    (fun os started H enc _ => lifted os started H enc)
theorem proved : Rows.ConfigMaySaid := over
end Go.Proofs.YtedchpflcemdkaaGreat.configMay
namespace Go.Proofs.YtedchpflcemdkaaGreat
theorem configMay_holds : Rows.ConfigMaySaid := configMay.proved
end Go.Proofs.YtedchpflcemdkaaGreat
