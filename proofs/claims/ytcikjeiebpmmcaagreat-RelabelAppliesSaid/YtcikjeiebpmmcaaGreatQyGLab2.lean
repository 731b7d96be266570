/- Pruned. -/
import Derived.Test.YtcikjeiebpmmcaaGreatQyGBase
import Derived.WalkKit
import Derived.LaidEql
import Derived.Stop.Asserts
import Derived.Lib.Hide
import Derived.Outline
namespace Go.Proofs.YtcikjeiebpmmcaaGreat
open Go.RowKit Go.Proofs.YtcikjeiebpmmcaaGreatW.PrintWords
set_option linter.unusedVariables false
set_option linter.unusedSimpArgs false
theorem run_equalIn_errno {P : Program} (w : World) (d : Nat) {ti tn : TypeId} {ms : Array (String × TypeId)} {i : TypeInfo} {k : IntKind} (a b : Int)
    (hi : P.underlying ti = some (.interface ms)) (hn : P.underlying tn = some (.int k)) (hinfo : P.info? tn = some i) (hcomp : i.comparable = true) :
    (Op.equalIn (d + 2) ti (.iface tn (.int k a)) (.iface tn (.int k b))).run P w = .ok (a == b) w := by
  simp [Op.equalIn, run_underlying hi, run_underlying hn, typeInfo, hinfo, hcomp]
theorem run_eql_errno {P : Program} (w : World) {ti tn : TypeId} {ms : Array (String × TypeId)} {i : TypeInfo} {k : IntKind} (a b : Int)
    (hi : P.underlying ti = some (.interface ms)) (hn : P.underlying tn = some (.int k)) (hinfo : P.info? tn = some i) (hcomp : i.comparable = true) :
    (binOp .eql ti (.iface tn (.int k a)) (.iface tn (.int k b))).run P w = .ok (.bool (a == b)) w := by
  simp only [binOp]
  simp [Op.equal, Op.maxDepth, run_equalIn_errno w 9998 a b hi hn hinfo hcomp]
noncomputable def rtp : Value := .agg #[.pointer (some ⟨Tryz.prog.globals.size, 34, none⟩)]
theorem isTypeOf (v : Value) (w : World) : (Extern.ReflectliteType.typeOf #[.iface 34 v]).run Tryz.prog w = .ok (.iface 146 rtp) w := by kernel_rfl
theorem isComparable (w : World) : ((Extern.ReflectliteType.method fun t => do Extern.Rtype.noPackHeld "Comparable" t; pure (.bool (← typeInfo t).comparable)) #[rtp]).run Tryz.prog w = .ok (.bool true) w := by kernel_rfl
theorem isMethodComparable (n : Nat) (v : Value) (w : World) : (Go.method (n + 100) 146 v "Comparable").run Tryz.prog w = .ok (149, v) w := by kernel_rfl
theorem noIsR (v : Value) (xT : TypeId) (w : World) : (Instr.typeAssert (.iface 133 v) xT 148 true).run Tryz.prog w = .ok (.tuple #[.nilIface, .bool false]) w := run_typeAssert_lacksB Tryz.underlying148 (by kernel_rfl) (by kernel_rfl) v xT w
theorem hasUnwrapR (v : Value) (xT : TypeId) (w : World) : (Instr.typeAssert (.iface 133 v) xT 151 true).run Tryz.prog w = .ok (.tuple #[.iface 133 v, .bool true]) w := run_typeAssert_hasB Tryz.underlying151 (by kernel_rfl) v xT w
theorem methodUnwrap (n : Nat) (v : Value) (w : World) : (Go.method (n + 100) 133 v "Unwrap").run Tryz.prog w = .ok (145, v) w := by kernel_rfl
theorem errnoComp : (Tryz.prog.info? 34).map (·.comparable) = some true := by kernel_rfl
theorem call_TypeOf (v : Value) (w : World) : Sem.run Tryz.prog (callFunc 90 #[.iface 34 v]) w = .ok (Next.value (.iface 146 rtp)) w := by
  have h8 := @run_callFunc_extern Tryz.prog 90 _ Extern.ReflectliteType.typeOf Tryz.func90 (by kernel_rfl) (by kernel_rfl) (by kernel_rfl) (by kernel_rfl) #[.iface 34 v] w
  rw [h8, isTypeOf v w]
  rfl
theorem call_Comparable (w : World) : Sem.run Tryz.prog (callFunc 149 #[rtp]) w = .ok (Next.value (.bool true)) w := by
  have h32 := @run_callFunc_extern Tryz.prog 149 _ (Extern.ReflectliteType.method fun t => do Extern.Rtype.noPackHeld "Comparable" t; pure (.bool (← typeInfo t).comparable)) Tryz.func149 (by kernel_rfl) (by kernel_rfl) (by kernel_rfl) (by kernel_rfl) #[rtp] w
  rw [h32, isComparable w]
  rfl
theorem is_nil (w : World) : Calls Tryz.prog 65 #[.nilIface, .iface 34 (.int .i64 5)] w fun e w' => e = .returned (.bool false) ∧ Below w.heap.size w w' := by
  have hn := run_eql_iface_nil_left (P := Tryz.prog) w 34 (.int .i64 5) Tryz.underlying76
  go_enter Tryz.func65, Tryz.ntmps65
  go_wp2
  go_ret
  exact ⟨rfl, Below.refl _ _⟩
theorem is_refused (why : ByteArray) (w : World) : Calls Tryz.prog 65 #[.iface 133 (.agg #[.string why]), .iface 34 (.int .i64 5)] w fun e w' => e = .returned (.bool true) ∧ Below w.heap.size w w' := by
  obtain ⟨i, hi, hcmp⟩ := Option.map_eq_some_iff.1 errnoComp
  have h8 : ∀ w, Sem.run Tryz.prog (callFunc 90 #[.iface 34 (.int .i64 5)]) w = .ok (Next.value (.iface 146 rtp)) w := call_TypeOf _
  have h32 : ∀ w, Sem.run Tryz.prog (callFunc 149 #[rtp]) w = .ok (Next.value (.bool true)) w := call_Comparable
  have mR := isMethodComparable
  have nE := noIsR
  have uE := hasUnwrapR
  have mU := methodUnwrap
  obtain ⟨j, hj, hjc⟩ := Option.map_eq_some_iff.1 errnoComp
  have hsame : ∀ W, Sem.run Tryz.prog (binOp .eql 76 (.iface 34 (.int .i64 5)) (.iface 34 (.int .i64 5))) W = .ok (.bool true) W := fun W => run_eql_errno W 5 5 Tryz.underlying76 Tryz.underlying34 hj hjc
  have hty := run_eql_iface_types (P := Tryz.prog) 133 34 (.agg #[.string why]) (.int .i64 5) Tryz.underlying76 (by decide) w
  go_enter Tryz.func65, Tryz.ntmps65
  go_wp2
  refine wp_loop_rounds 2 ?_
  rw [rounds_succ]
  go_wp2
  rw [rounds_succ]
  go_wp2
  go_ret
  exact ⟨rfl, (Below.refl _ _).alloc (Nat.le_refl _) _⟩
end Go.Proofs.YtcikjeiebpmmcaaGreat
