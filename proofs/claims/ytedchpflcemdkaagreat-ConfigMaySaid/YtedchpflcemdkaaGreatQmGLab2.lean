/- A text of this claim, pruned by a program of the session (prune.py) to what the theorem rests on. -/
import Derived.Test.YtedchpflcemdkaaGreatQmGBase
import Derived.WalkKit
import Derived.LaidEql
import Derived.Stop.Asserts
import Derived.Lib.Hide
import Derived.Outline
namespace Go.Proofs.YtedchpflcemdkaaGreat
open Go.RowKit Go.Proofs.YtedchpflcemdkaaGreatW.PrintWords
set_option linter.unusedVariables false
set_option linter.unusedSimpArgs false
theorem run_equalIn_errno {P : Program} (w : World) (d : Nat) {ti tn : TypeId} {ms : Array (String × TypeId)} {i : TypeInfo} {k : IntKind} (a b : Int)
    (hi : P.underlying ti = some (.interface ms)) (hn : P.underlying tn = some (.int k)) (hinfo : P.info? tn = some i) (hcomp : i.comparable = true) :
    (Op.equalIn (d + 2) ti (.iface tn (.int k a)) (.iface tn (.int k b))).run P w = .ok (a == b) w := by
  simp [Op.equalIn, run_underlying hi, run_underlying hn, typeInfo, hinfo, hcomp]
theorem run_eql_errno {P : Program} (w : World) {ti tn : TypeId} {ms : Array (String × TypeId)} {i : TypeInfo} {k : IntKind} (a b : Int)
    (hi : P.underlying ti = some (.interface ms)) (hn : P.underlying tn = some (.int k)) (hinfo : P.info? tn = some i) (hcomp : i.comparable = true) :
    (binOp .eql ti (.iface tn (.int k a)) (.iface tn (.int k b))).run P w = .ok (.bool (a == b)) w := by
  simp only [binOp]
  simp [Op.equal, Op.maxDepth, run_equalIn_errno w 9998 a b hi hn hinfo hcomp]
noncomputable def rtp : Value := .agg #[.pointer (some ⟨Tryz.prog.globals.size, 31, none⟩)]
theorem isTypeOf (v : Value) (w : World) : (Extern.ReflectliteType.typeOf #[.iface 31 v]).run Tryz.prog w = .ok (.iface 94 rtp) w := by kernel_rfl
theorem isComparable (w : World) : ((Extern.ReflectliteType.method fun t => do Extern.Rtype.noPackHeld "Comparable" t; pure (.bool (← typeInfo t).comparable)) #[rtp]).run Tryz.prog w = .ok (.bool true) w := by kernel_rfl
theorem isMethodComparable (n : Nat) (v : Value) (w : World) : (Go.method (n + 100) 94 v "Comparable").run Tryz.prog w = .ok (110, v) w := by kernel_rfl
theorem noIsR (v : Value) (xT : TypeId) (w : World) : (Instr.typeAssert (.iface 75 v) xT 96 true).run Tryz.prog w = .ok (.tuple #[.nilIface, .bool false]) w := run_typeAssert_lacksB Tryz.underlying96 (by kernel_rfl) (by kernel_rfl) v xT w
theorem hasUnwrapR (v : Value) (xT : TypeId) (w : World) : (Instr.typeAssert (.iface 75 v) xT 99 true).run Tryz.prog w = .ok (.tuple #[.iface 75 v, .bool true]) w := run_typeAssert_hasB Tryz.underlying99 (by kernel_rfl) v xT w
theorem methodUnwrap (n : Nat) (v : Value) (w : World) : (Go.method (n + 100) 75 v "Unwrap").run Tryz.prog w = .ok (105, v) w := by kernel_rfl
theorem errnoComp : (Tryz.prog.info? 31).map (·.comparable) = some true := by kernel_rfl
theorem call_TypeOf (v : Value) (w : World) : Sem.run Tryz.prog (callFunc 56 #[.iface 31 v]) w = .ok (Next.value (.iface 94 rtp)) w := by
  have h8 := @run_callFunc_extern Tryz.prog 56 _ Extern.ReflectliteType.typeOf Tryz.func56 (by kernel_rfl) (by kernel_rfl) (by kernel_rfl) (by kernel_rfl) #[.iface 31 v] w
  rw [h8, isTypeOf v w]
  rfl
theorem call_Comparable (w : World) : Sem.run Tryz.prog (callFunc 110 #[rtp]) w = .ok (Next.value (.bool true)) w := by
  have h32 := @run_callFunc_extern Tryz.prog 110 _ (Extern.ReflectliteType.method fun t => do Extern.Rtype.noPackHeld "Comparable" t; pure (.bool (← typeInfo t).comparable)) Tryz.func110 (by kernel_rfl) (by kernel_rfl) (by kernel_rfl) (by kernel_rfl) #[rtp] w
  rw [h32, isComparable w]
  rfl
theorem is_nil (w : World) : Calls Tryz.prog 43 #[.nilIface, .iface 31 (.int .i64 5)] w fun e w' => e = .returned (.bool false) ∧ Below w.heap.size w w' := by
  have hn := run_eql_iface_nil_left (P := Tryz.prog) w 31 (.int .i64 5) Tryz.underlying59
  go_enter Tryz.func43, Tryz.ntmps43
  go_wp2
  go_ret
  exact ⟨rfl, Below.refl _ _⟩
theorem is_refused (why : ByteArray) (w : World) : Calls Tryz.prog 43 #[.iface 75 (.agg #[.string why]), .iface 31 (.int .i64 5)] w fun e w' => e = .returned (.bool true) ∧ Below w.heap.size w w' := by
  obtain ⟨i, hi, hcmp⟩ := Option.map_eq_some_iff.1 errnoComp
  have h8 : ∀ w, Sem.run Tryz.prog (callFunc 56 #[.iface 31 (.int .i64 5)]) w = .ok (Next.value (.iface 94 rtp)) w := call_TypeOf _
  have h32 : ∀ w, Sem.run Tryz.prog (callFunc 110 #[rtp]) w = .ok (Next.value (.bool true)) w := call_Comparable
  have mR := isMethodComparable
  have nE := noIsR
  have uE := hasUnwrapR
  have mU := methodUnwrap
  obtain ⟨j, hj, hjc⟩ := Option.map_eq_some_iff.1 errnoComp
  have hsame : ∀ W, Sem.run Tryz.prog (binOp .eql 59 (.iface 31 (.int .i64 5)) (.iface 31 (.int .i64 5))) W = .ok (.bool true) W := fun W => run_eql_errno W 5 5 Tryz.underlying59 Tryz.underlying31 hj hjc
  have hty := run_eql_iface_types (P := Tryz.prog) 75 31 (.agg #[.string why]) (.int .i64 5) Tryz.underlying59 (by decide) w
  go_enter Tryz.func43, Tryz.ntmps43
  go_wp2
  refine wp_loop_rounds 2 ?_
  rw [rounds_succ]
  go_wp2
  rw [rounds_succ]
  go_wp2
  go_ret
  exact ⟨rfl, (Below.refl _ _).alloc (Nat.le_refl _) _⟩
end Go.Proofs.YtedchpflcemdkaaGreat
