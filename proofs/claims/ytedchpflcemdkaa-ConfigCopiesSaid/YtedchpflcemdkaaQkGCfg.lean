/- A text of this claim, pruned by a program of the session (prune.py) to what the theorem rests on. -/
import Derived.Test.YtedchpflcemdkaaQkGClo
namespace Go.Proofs.Ytedchpflcemdkaa
open Go.RowKit Go.Proofs.YtedchpflcemdkaaW.PrintWords Go.Proofs.YtedchpflcemdkaaW.PrintLast Go.Proofs.YtedchpflcemdkaaW.PrintMore
set_option linter.unusedVariables false
set_option linter.unusedSimpArgs false
structure Cfg where
  ts : List Tgt
  ws : List ByteArray
  no : Bool
  win : Int
  late : Int
  bas : Int
  mos : Int
  ser : Int
  wins : Int
  que : Int
  con : Int
  bod : Int
  deriving DecidableEq
def cfgL (A1 : Option Addr) (c1 : Nat) (A2 : Option Addr) (c2 : Nat) (x : Cfg) : List Value :=
  [.slice A1 x.ts.length c1, .int .i64 x.win, .int .i64 x.late, .slice A2 x.ws.length c2, .int .i64 x.ser, .int .i64 x.wins, .int .i64 x.que, .int .i64 x.con, .int .i64 x.bod, .int .i64 x.bas, .int .i64 x.mos]
structure CfgAt (w : World) (A1 A2 : Option Addr) (x : Cfg) : Prop where
  rt : kT.C w A1 x.ts.length x.ts
  rs : Kd.string.C w A2 x.ws.length x.ws
  no : x.no = A2.isNone
  lt : x.ts.length * 64 ≤ 140737488351232
  ls : x.ws.length * 16 ≤ 140737488351232
  sz : ∀ s ∈ x.ws, s.size ≤ 140737488351232
theorem CfgAt.below {w W : World} {A1 A2 : Option Addr} {x : Cfg} (h : CfgAt w A1 A2 x) (hb : Below w.heap.size w W) : CfgAt W A1 A2 x := ⟨Kd.C_below h.rt hb, Kd.C_below h.rs hb, h.no, h.lt, h.ls, h.sz⟩
theorem wp_at {P : Program} {code : Code} {Q : Exit → Act → World → Prop} {a : Act} {w : World} (p : World → Prop) (hp : p w) (h : ∀ w', p w' → Code.wp P code Q a w') : Code.wp P code Q a w := h w hp
theorem bp_at {P : Program} {f : Func} {Q : Ending → World → Prop} {e : Exit} {a : Act} {w : World} (p : World → Prop) (hp : p w) (h : ∀ w', p w' → bodyPost P f Q e a w') : bodyPost P f Q e a w := h w hp
def CfgB (w : World) (B : Nat) (A1 : Option Addr) (c1 : Nat) (A2 : Option Addr) (c2 : Nat) (x : Cfg) : Prop := w.heap[B]? = some (.cells (cfgL A1 c1 A2 c2 x).toArray 38 (0, 0))
theorem CfgB.cell {w : World} {B : Nat} {A1 A2 : Option Addr} {c1 c2 : Nat} {x : Cfg} (h : CfgB w B A1 c1 A2 c2 x) (i : Nat) (u : Value) (hu : (cfgL A1 c1 A2 c2 x)[i]? = some u) : w.cell? ⟨B, i, none⟩ = some u := by
  rw [blk_cell h i, List.getElem?_toArray]
  exact hu
theorem CfgB.below {w W : World} {B : Nat} {A1 A2 : Option Addr} {c1 c2 : Nat} {x : Cfg} (h : CfgB w B A1 c1 A2 c2 x) (hb : Below w.heap.size w W) : CfgB W B A1 c1 A2 c2 x := blk_below h hb
theorem cfg_beq (x y : Cfg) : ((decide (x.ts = y.ts) && decide (x.ws = y.ws) && (x.no == y.no)) && ((x.win == y.win) && (x.late == y.late) && (x.bas == y.bas) && (x.mos == y.mos)) && (x.ser == y.ser) && (x.wins == y.wins) && (x.que == y.que) && (x.con == y.con) && (x.bod == y.bod)) = decide (x = y) := by
  by_cases e : x = y
  · subst e
    simp
  · rw [decide_eq_false e, Bool.eq_false_iff]
    intro h
    simp only [Bool.and_eq_true, beq_iff_eq, decide_eq_true_eq] at h
    obtain ⟨⟨⟨⟨⟨⟨⟨⟨h1, h2⟩, h3⟩, ⟨⟨h4, h5⟩, h6⟩, h7⟩, h8⟩, h9⟩, h10⟩, h11⟩, h12⟩ := h
    refine e ?_
    obtain ⟨a1, a2, a3, a4, a5, a6, a7, a8, a9, a10, a11, a12⟩ := x
    obtain ⟨b1, b2, b3, b4, b5, b6, b7, b8, b9, b10, b11, b12⟩ := y
    dsimp only at h1 h2 h3 h4 h5 h6 h7 h8 h9 h10 h11 h12
    subst h1 h2 h3 h4 h5 h6 h7 h8 h9 h10 h11 h12
    rfl
end Go.Proofs.Ytedchpflcemdkaa
