/- A text of this claim, pruned by a program of the session (prune.py) to what the theorem rests on. -/
import Derived.Test.YtedchpflcemdkaaProg
import Derived.Below
import Derived.Deep.Draws
import Derived.Deep.AppendLies
import Derived.Maps.AppendAt
import Derived.OwnWalk
import Derived.Laws.BytesArg
import Derived.Laws.MakeOwn
import Derived.Laws.OwnMore
import Derived.Deep.OwnRows
import Derived.Tactics
import Derived.Lib.ConvBytes
import Derived.Laws.Slices
import Derived.WalkKit
import Derived.KernelRfl
import Derived.RowKit3
import Derived.Deep.LoopGhost
import Derived.Deep.QuietTactic
import Derived.BigQuiet
import Derived.WideLaws
import Derived.Deep.DeepCutAuto
import Derived.Deep.CutBlock
import Derived.Deep.RegionHeld3
import Derived.Laws.Rows
import Derived.Lib.AppendStr
import Derived.ArgAppend
import Derived.Laws.IdiomCopy
import Derived.OrdersHeld
import Derived.Laws.BitsLemmas
import Derived.RowKit
import Derived.Test.YtedchpflcemdkaaQkGBase
import Derived.Test.YtedchpflcemdkaaQkGCompare
import Derived.Test.YtedchpflcemdkaaQkGLab1
import Derived.Test.YtedchpflcemdkaaQkGLab2
import Derived.Test.YtedchpflcemdkaaQkGLab3
import Derived.Test.YtedchpflcemdkaaQkGNamed
import Derived.Test.YtedchpflcemdkaaQkWWords
import Derived.Test.YtedchpflcemdkaaQkWLast
import Derived.Test.YtedchpflcemdkaaQkWTab
import Derived.Test.YtedchpflcemdkaaQkWApart
import Derived.Test.YtedchpflcemdkaaQkWShare
import Derived.Test.YtedchpflcemdkaaQkWN
import Derived.Test.YtedchpflcemdkaaQkWAt
import Derived.Test.YtedchpflcemdkaaQkWEqStruct
import Derived.Test.YtedchpflcemdkaaQkWRepsOne
import Derived.Test.YtedchpflcemdkaaQkWMore
namespace Go.Proofs.Ytedchpflcemdkaa.PKno
open Go.RowKit Go.Proofs.YtedchpflcemdkaaW.PrintWords Go.Proofs.YtedchpflcemdkaaW.PrintLast Go.Proofs.YtedchpflcemdkaaW.PrintMore
attribute [local go_sem] max2_int min2_int max_two min_two
set_option linter.unusedVariables false
set_option linter.unusedSimpArgs false
def errW : Option Int → Value
  | none => .nilIface
  | some c => if c = 5 then .iface 46 (.int .i64 5) else .iface 75 (.agg #[.string (if c = 101 then ⟨#[109, 101, 116, 114, 105, 99]⟩ else if c = 102 then ⟨#[108, 97, 98, 101, 108, 115]⟩ else ⟨#[116, 119, 105, 99, 101]⟩)])
theorem errW_none : errW none = .nilIface := rfl
theorem errW_some : errW (some 5) = .iface 46 (.int .i64 5) := rfl
theorem info9 : (Try.prog.info? 9).map (fun i => (i.zero, i.size, i.bytes)) = some (some (.string ⟨#[]⟩), 1, 16) := by kernel_rfl
structure S33 where
  f0 : ByteArray
  f1 : ByteArray
def z33 : S33 := ⟨(⟨#[]⟩ : ByteArray), (⟨#[]⟩ : ByteArray)⟩
def k33 : Kd S33 := Kd.iso (Kd.pair Kd.string Kd.string) (fun x : S33 => (x.f0, x.f1))
theorem k33_open {w : World} {x : S33} {cs : List Value} (h : k33.K w x cs) : cs = [.string x.f0, .string x.f1] := by
  obtain ⟨_, _, rfl, rfl, rfl⟩ := h
  exact rfl
theorem k33_openM {w : World} {base : Nat} {ok : Nat → Prop} {x : S33} {cs : List Value} (h : k33.M w base ok x cs) : cs = [.string x.f0, .string x.f1] := by
  obtain ⟨_, _, rfl, rfl, rfl⟩ := h
  exact rfl
theorem k33_mkM (w : World) (base : Nat) (ok : Nat → Prop) (x : S33)  : k33.M w base ok x [.string x.f0, .string x.f1] := ⟨[.string x.f0], [.string x.f1], rfl, rfl, rfl⟩
def rd_T33 (xs : List S33) (i : Int) : S33 := xs.getD i.toNat z33
theorem at_T33 {w : World} {A : Option Addr} {n : Nat} {xs : List S33} (h : Kd.C k33 w A n xs) (i : Int) (h0 : 0 ≤ i) (h1 : i < n) : ∃ ad , A = some ad ∧ w.cell? (ad.add (i.toNat * 2)) = some (.string (rd_T33 xs i).f0) ∧ w.cell? ⟨(ad.add (i.toNat * 2)).block, (ad.add (i.toNat * 2)).off + 1, none⟩ = some (.string (rd_T33 xs i).f1) := by
  obtain ⟨ad, c, e, _, hK, hc0⟩ := Kd.C_get h z33 i h0 h1
  have hc : ∀ j u, c[j]? = some u → w.cell? (ad.add (i.toNat * 2 + j)) = some u := hc0
  obtain rfl := k33_open hK
  exact ⟨ad, e, hc 0 _ rfl, by rw [← add_field _ _ 1 (by omega)]; exact hc 1 _ rfl⟩
end Go.Proofs.Ytedchpflcemdkaa.PKno
