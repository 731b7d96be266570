/- For every bound and every three lists of puts the law StoreCopies returns true and never panics. No condition. -/
import Derived.Test.YtneodhhoejjncaaRows
import Derived.Test.YtneodhhoejjncaaQcGCop
import Derived.Test.YtneodhhoejjncaaQcGOpen
import Derived.WalkKit
import Derived.ProofKit
import Derived.OpenShut
import Derived.ShutString
import Derived.ChangeOld
import Derived.Below
import Derived.SizedLaws
import Derived.Carry
namespace Go.Proofs.Ytneodhhoejjncaa.storeCopies
open Go.ChangeShapes Go.WideShapes Go.ChangeAt Go.RowKit Go.Proofs.Ytneodhhoejjncaa Go.Proofs.YtneodhhoejjncaaW.PrintWords Go.Proofs.Ytneodhhoejjncaa.PFew
open Go.ChangeMaps (open_string shut_string)
set_option linter.unusedVariables false
theorem own : ownKnob Try.prog.godebug = none := by kernel_rfl
theorem laidOut : laidOutB Try.prog = true := by kernel_rfl
set_option maxRecDepth 100000 in
theorem lifted (os : Os) (started : os.Started) (H : Type) (enc : TypeId × Value → H) :
    ReturnsInHanded {} Try.checked os 5 .any (Rows.storeCopiesSpec.pre6 enc Try.prog Try.f5 Rows.storeCopiesRow.domain false) (Rows.storeCopiesSpec.post enc Try.prog Try.f5 false true false false) := by
  refine returnsInHanded_of_change_sized (C := Try.checked) own started (by kernel_rfl) Try.func5
    (ChangeSpec.witness6 (enc := enc) (C := Try.checked) false ⟨#[], #[.int .i64 0, .slice none 0 0, .slice none 0 0, .slice none 0 0], []⟩ 8 (by kernel_rfl) (by kernel_rfl) (by kernel_rfl) (by kernel_rfl)) ?_
  intro W base args ds gs before hval0 hW hcnd hsz0 _
  have hsz : (DataW.weightsEach Try.prog (Try.f5.params.toList ++ Rows.storeCopiesSpec.plain.varTypes Try.prog) (ds ++ gs)).all (· ≤ reachBytes) = true := hsz0
  have hval : ∀ (j : Nat) t v, Try.f5.params[j]? = some t → args[j]? = some v → Value.okWide Try.prog W .any base t v := hval0
  have hW' := hW
  obtain ⟨p, q, hA0, hV, rfl, hfz, hnd⟩ := hW
  have hA : DataW.TrodAll enc Try.prog W 0 (fun _ => true) true Try.f5.params.toList args.toList ds p := hA0
  rw [Try.params5] at hA hval hsz
  obtain ⟨v0, vs0, d0, ds0, p0, q0, hargs, rfl, rfl, h0, r0⟩ := trodAll_cons hA
  obtain ⟨v1, vs1, d1, ds1, p1, q1, rfl, rfl, rfl, h1, r1⟩ := trodAll_cons r0
  obtain ⟨v2, vs2, d2, ds2, p2, q2, rfl, rfl, rfl, h2, r2⟩ := trodAll_cons r1
  obtain ⟨v3, vs3, d3, ds3, p3, q3, rfl, rfl, rfl, h3, r3⟩ := trodAll_cons r2
  obtain ⟨rfl, rfl, rfl⟩ := trodAll_nil r3
  obtain rfl : args = #[v0, v1, v2, v3] := by cases args; simp_all
  obtain ⟨rfl, rfl⟩ := trodVars_none hV
  obtain ⟨a0, rfl, rfl, rfl, w0⟩ := open_int Try.underlying3 (hval 0 3 v0 rfl rfl) h0
  have k1 := h1
  have lt1 : ∀ x ∈ p1, x.block < W.heap.size := by obtain ⟨m, hm⟩ := k1; exact DataW.trod_lt m _ _ _ hm
  obtain ⟨a1, len1, cap1, rfl⟩ := okWide_slice Try.underlying22 (hval 1 22 v1 rfl rfl)
  obtain ⟨l1, hK1, w1⟩ := opens_arg (opens_slice Try.underlying22 (by kernel_rfl) (b := 32) (by kernel_rfl) (opens_struct Try.underlying31 (by kernel_rfl) (opensL_cons (opens_int Try.underlying3) (opensL_one (opens_slice Try.underlying27 (by kernel_rfl) (b := 40) (by kernel_rfl) (opens_struct Try.underlying34 (by kernel_rfl) (opensL_cons (opens_string Try.underlying9) (opensL_cons (opens_int Try.underlying2) (opensL_cons (opens_int Try.underlying2) (opensL_one (opens_bool Try.underlying4))))) (fun x : S34 => (x.f0, x.f1, x.f2, x.f3)) (fun p => ⟨p.1, p.2.1, p.2.2.1, p.2.2.2⟩) (fun _ => rfl))))) (fun x : S31 => (x.f0, x.f1)) (fun p => ⟨p.1, p.2⟩) (fun _ => rfl))) h1 hsz (j := 1) (t := 22) rfl rfl
  obtain ⟨A1, c1, e1, hle1, hC1⟩ := hK1
  have e1' : Value.slice a1 len1 cap1 = .slice A1 l1.length c1 := by simpa [Value.cells] using e1
  cases e1'
  have k2 := h2
  have lt2 : ∀ x ∈ p2, x.block < W.heap.size := by obtain ⟨m, hm⟩ := k2; exact DataW.trod_lt m _ _ _ hm
  obtain ⟨a2, len2, cap2, rfl⟩ := okWide_slice Try.underlying22 (hval 2 22 v2 rfl rfl)
  obtain ⟨l2, hK2, w2⟩ := opens_arg (opens_slice Try.underlying22 (by kernel_rfl) (b := 32) (by kernel_rfl) (opens_struct Try.underlying31 (by kernel_rfl) (opensL_cons (opens_int Try.underlying3) (opensL_one (opens_slice Try.underlying27 (by kernel_rfl) (b := 40) (by kernel_rfl) (opens_struct Try.underlying34 (by kernel_rfl) (opensL_cons (opens_string Try.underlying9) (opensL_cons (opens_int Try.underlying2) (opensL_cons (opens_int Try.underlying2) (opensL_one (opens_bool Try.underlying4))))) (fun x : S34 => (x.f0, x.f1, x.f2, x.f3)) (fun p => ⟨p.1, p.2.1, p.2.2.1, p.2.2.2⟩) (fun _ => rfl))))) (fun x : S31 => (x.f0, x.f1)) (fun p => ⟨p.1, p.2⟩) (fun _ => rfl))) h2 hsz (j := 2) (t := 22) rfl rfl
  obtain ⟨A2, c2, e2, hle2, hC2⟩ := hK2
  have e2' : Value.slice a2 len2 cap2 = .slice A2 l2.length c2 := by simpa [Value.cells] using e2
  cases e2'
  have k3 := h3
  have lt3 : ∀ x ∈ p3, x.block < W.heap.size := by obtain ⟨m, hm⟩ := k3; exact DataW.trod_lt m _ _ _ hm
  obtain ⟨a3, len3, cap3, rfl⟩ := okWide_slice Try.underlying22 (hval 3 22 v3 rfl rfl)
  obtain ⟨l3, hK3, w3⟩ := opens_arg (opens_slice Try.underlying22 (by kernel_rfl) (b := 32) (by kernel_rfl) (opens_struct Try.underlying31 (by kernel_rfl) (opensL_cons (opens_int Try.underlying3) (opensL_one (opens_slice Try.underlying27 (by kernel_rfl) (b := 40) (by kernel_rfl) (opens_struct Try.underlying34 (by kernel_rfl) (opensL_cons (opens_string Try.underlying9) (opensL_cons (opens_int Try.underlying2) (opensL_cons (opens_int Try.underlying2) (opensL_one (opens_bool Try.underlying4))))) (fun x : S34 => (x.f0, x.f1, x.f2, x.f3)) (fun p => ⟨p.1, p.2.1, p.2.2.1, p.2.2.2⟩) (fun _ => rfl))))) (fun x : S31 => (x.f0, x.f1)) (fun p => ⟨p.1, p.2⟩) (fun _ => rfl))) h3 hsz (j := 3) (t := 22) rfl rfl
  obtain ⟨A3, c3, e3, hle3, hC3⟩ := hK3
  have e3' : Value.slice a3 len3 cap3 = .slice A3 l3.length c3 := by simpa [Value.cells] using e3
  cases e3'
  clear hA0 hval0 hsz0 hsz
  obtain ⟨kk, hpure⟩ := PureCopies a0 l1 l2 l3 (fun p hp => put_ok p (w1.2 p hp)) (fun p hp => put_ok p (w2.2 p hp)) (fun p hp => put_ok p (w3.2 p hp))
  refine (odometerlaw16_StoreCopies.calls kk a0 a1 cap1 l1 a2 cap2 l2 a3 cap3 l3 true W hC1 hle1 hC2 hle2 hC3 hle3 hpure).mono fun e W' ⟨he, bel⟩ => ?_
  subst he
  exact ⟨_, rfl, _, _, _, [], _, [], hW', trodAll_mk1 (shut_bool Try.underlying4 _), (trodAll_cons_mk (shut_int Try.underlying3 w0) (trodAll_cons_mk (Below.trod laidOut (by kernel_rfl) (of_decide_eq_true (by kernel_rfl)) k1 bel lt1) (trodAll_cons_mk (Below.trod laidOut (by kernel_rfl) (of_decide_eq_true (by kernel_rfl)) k2 bel lt2) (trodAll_cons_mk (Below.trod laidOut (by kernel_rfl) (of_decide_eq_true (by kernel_rfl)) k3 bel lt3) trodAll_mk0)))), rfl, bel.frame _, fun h => by cases h⟩
theorem over : Rows.storeCopiesRow.holds Try.pinned (OpenSpec.ofChange Rows.storeCopiesSpec) :=
  OpenClaim.holds_of_wide 5 Try.f5 rfl rfl rfl rfl rfl rfl rfl ⟨rfl, rfl, rfl, rfl, rfl⟩ rfl rfl rfl rfl rfl (by kernel_rfl) Try.func5 (by kernel_rfl)
    (of_decide_eq_true (by kernel_rfl)) (by unfold Func.isWrapper; first | (rw [if_pos (by decide +kernel)]; kernel_rfl) | (rw [if_neg (by decide +kernel)]; exact ⟨rfl, rfl⟩))
    (fun os started H enc _ => lifted os started H enc)
theorem proved : Rows.StoreCopiesSaid := over
end Go.Proofs.Ytneodhhoejjncaa.storeCopies
namespace Go.Proofs.Ytneodhhoejjncaa
theorem storeCopies_holds : Rows.StoreCopiesSaid := storeCopies.proved
end Go.Proofs.Ytneodhhoejjncaa
