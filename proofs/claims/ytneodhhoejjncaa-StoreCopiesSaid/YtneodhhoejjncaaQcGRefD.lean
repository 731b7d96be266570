/- A text of this claim, pruned by a program of the session (prune.py) to what the theorem rests on. -/
import Derived.Test.YtneodhhoejjncaaQcGPut
namespace Go.Proofs.Ytneodhhoejjncaa
open Go.RowKit Go.Proofs.YtneodhhoejjncaaW.PrintWords
set_option linter.unusedVariables false
set_option linter.unusedSimpArgs false
abbrev Sr := ByteArray × Lst
def insP (s : ByteArray) (x : Lst) : List Sr → List Sr
  | [] => [(s, x)]
  | a :: r => if Op.bytesLess (a.1.data.toList) s.data.toList then a :: insP s x r else (s, x) :: a :: r
def setP (s : ByteArray) (x : Lst) (xs : List Sr) : List Sr := xs.map fun a => if a.1 = s then (a.1, x) else a
def oneL (most owner : Int) (S : StS) (x : Smp) (xs : List Sr) : List Sr :=
  match S x.nm with
  | none => if most ≤ (xs.length : Int) then xs else insP x.nm ⟨x, true, owner⟩ xs
  | some was => if x.time < was.x.time then xs else if x.time = was.x.time then xs else setP x.nm ⟨x, true, owner⟩ xs
def samplesL (most owner : Int) : List Smp → StS × List Sr → StS × List Sr
  | [], st => st
  | x :: l, st => samplesL most owner l ((oneP most owner (st.1, st.2.length) x).2.1, oneL most owner st.1 x st.2)
def outL (owner : Int) (l : List Smp) (xs : List Sr) : List Sr := xs.map fun a => if a.2.owner = owner ∧ among l a.1 = false then (a.1, ⟨a.2.x, false, a.2.owner⟩) else a
end Go.Proofs.Ytneodhhoejjncaa
