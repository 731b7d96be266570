/- A text of this claim, pruned by a program of the session (prune.py) to what the theorem rests on. -/
import Derived.Test.YtedchpflcemdkaaQkGCfg
import Derived.Deep.MidRow
import Derived.Lib.QuietBelow
namespace Go.Proofs.Ytedchpflcemdkaa
open Go.RowKit Go.Proofs.YtedchpflcemdkaaW.PrintWords Go.Proofs.YtedchpflcemdkaaW.PrintLast Go.Proofs.YtedchpflcemdkaaW.PrintMore
set_option linter.unusedVariables false
set_option linter.unusedSimpArgs false
theorem load_cfg {w : World} {B : Nat} {A1 A2 : Option Addr} {c1 c2 : Nat} {x : Cfg} (h : CfgB w B A1 c1 A2 c2 x) :
    (Instr.loadAt 38 (.pointer (some ⟨B, 0, none⟩))).run Try.prog w = .ok (.agg (cfgL A1 c1 A2 c2 x).toArray) w :=
  run_loadAt_mid w B 0 _ (cfgL A1 c1 A2 c2 x) _ (fun j v hv => by rw [Nat.zero_add]; exact h.cell j v hv) Try.underlying38 rfl (by kernel_rfl)
theorem quiet_load {P : Program} {ops : Array Oper} {C : World → Prop} {K : Act → Prop} {o : Oper} {a : Act} (hw : Region.wanted o (yielded ops a.tmps) = true)
    (ty : TypeId) (x : Operand) (ho : o.op = .load ty x) {p v : Value} (hx : a.eval x = p) (hC : ∀ W, C W → (Instr.loadAt ty p).run P W = .ok v W) (h : K (a.put o.dst v)) :
    if Region.wanted o (yielded ops a.tmps) then o.quiet P a C K else K (a.put o.dst undef) := by
  rw [if_pos hw]
  refine ⟨v, fun W hW => ?_, h⟩
  unfold Oper.quietAt execOp
  simp only [ho, hx, Sem.run_bind, hC W hW, Result.andThen_ok, Sem.run_pure]
  exact ⟨rfl, rfl⟩
theorem wp_load_cfg {ops : Array Oper} {o : Oper} {a : Act} {W : World} {K : Act → World → Prop} {Q : Exit → Act → World → Prop} {E : Prop} (hw : Region.wanted o (yielded ops a.tmps) = true)
    (x : Operand) (ho : o.op = .load 38 x) {B : Nat} {A1 A2 : Option Addr} {c1 c2 : Nat} {y : Cfg} (hx : a.eval x = .pointer (some ⟨B, 0, none⟩)) (hC : CfgB W B A1 c1 A2 c2 y) (h : K (a.put o.dst (.agg (cfgL A1 c1 A2 c2 y).toArray)) W) :
    if Region.wanted o (yielded ops a.tmps) then o.wp Try.prog a W K Q else E := by
  rw [if_pos hw]
  exact wp_load_mid _ x ho B 0 hx (cfgL A1 c1 A2 c2 y) _ (fun j v hv => by rw [Nat.zero_add]; exact hC.cell j v hv) Try.underlying38 rfl (by kernel_rfl) h
end Go.Proofs.Ytedchpflcemdkaa
