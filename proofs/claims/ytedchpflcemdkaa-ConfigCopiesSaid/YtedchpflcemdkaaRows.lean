/-
  No cell of these rows narrows 'for every input' (looked for: loops, veiled, ifaces, maps, wideKeys, modest, calm, conditions, laid).
  DERIVED. THE GIVEN ROWS OF THIS SEAT. 3 by the template 'for every input the law returns true; each argument reads behind the call as it read before'; 0 by the template 'total and deterministic' (their statements: YtedchpflcemdkaaTotals.lean).
  GIVEN WITH THE SEED: the statements are not yours to turn. If you find one false, say at which input.
  Laid BY PROGRAM, IN A SANDBOX (cutbox-rows.mjs): the forced cells as the released guide's own fill.sh prints them over the translation 208752b0fc21bdd9… (all of the seat's roots in one cut). By AI agents, Wed Nov 11 2026. No macro, syntax, notation, axiom, sorry.
-/
import Derived.Test.YtedchpflcemdkaaChecked
import GoSem.Claim
import GoSem.ClaimJoined
import GoSem.ClaimMapViews
import Derived.JoinedTies
import Derived.KernelRfl
namespace Go.Proofs.Ytedchpflcemdkaa
/- THE CELL 'sum', in the pinned program and in every row, IS THE sha256 OF THE DUMP (.gsa) THAT YtedchpflcemdkaaProg.lean LOADS. Nothing in Lean hashes anything: it is a label: what it is worth is what the hold of that sum in a sandbox is worth. -/
noncomputable def Try.pinned : Pinned := { name := "ytedchpflcemdkaa", sum := "208752b0fc21bdd9e6a0e4adbf46532949fab26a7994f2b193faef37fccfb564", checked := Try.checked }
namespace Rows
def none {H : Type} : Left H := { results := [], args := [] }

/-- 'odometerlaw13.ConfigTurns': WHATEVER THE INPUT: true; the input reads as it did. -/
def configTurnsSpec : ChangeSpec := { name := "configTurns", fn := fun _ => fun
  | [d1, d2, d3] => { results := [.lit (.bool true)], args := [d1, d2, d3] }
  | _ => none }
def configTurnsRow : OpenClaim := { program := "ytedchpflcemdkaa", sum := "208752b0fc21bdd9e6a0e4adbf46532949fab26a7994f2b193faef37fccfb564", func := "odometer/odometerlaw13.ConfigTurns", spec := "configTurns", inPlace := ["internal/bytealg.IndexByteString", "internal/reflectlite.TypeOf", "internal/abi.NoEscape", "internal/bytealg.MakeNoZero"], unfollowed := true, recurses := true, apart := false }
def ConfigTurnsSaid : Prop := configTurnsRow.holds Try.pinned (OpenSpec.ofChange configTurnsSpec)

/-- ITS FALSE NEIGHBOUR: 'it returns false'. Refute it at one input. -/
def configTurnsWrong : ChangeSpec := { name := "configTurns", fn := fun _ => fun
  | [d1, d2, d3] => { results := [.lit (.bool false)], args := [d1, d2, d3] }
  | _ => none }
def ConfigTurnsWrongFalsely : Prop := configTurnsRow.holds Try.pinned (OpenSpec.ofChange configTurnsWrong)

/-- 'odometerlaw13.ConfigNames': WHATEVER THE INPUT: true; the input reads as it did. -/
def configNamesSpec : ChangeSpec := { name := "configNames", fn := fun _ => fun
  | [d1, d2] => { results := [.lit (.bool true)], args := [d1, d2] }
  | _ => none }
def configNamesRow : OpenClaim := { program := "ytedchpflcemdkaa", sum := "208752b0fc21bdd9e6a0e4adbf46532949fab26a7994f2b193faef37fccfb564", func := "odometer/odometerlaw13.ConfigNames", spec := "configNames", inPlace := ["internal/bytealg.IndexByteString", "internal/reflectlite.TypeOf", "internal/abi.NoEscape", "internal/bytealg.MakeNoZero"], unfollowed := true, recurses := true, apart := false }
def ConfigNamesSaid : Prop := configNamesRow.holds Try.pinned (OpenSpec.ofChange configNamesSpec)

/-- ITS FALSE NEIGHBOUR: 'it returns false'. Refute it at one input. -/
def configNamesWrong : ChangeSpec := { name := "configNames", fn := fun _ => fun
  | [d1, d2] => { results := [.lit (.bool false)], args := [d1, d2] }
  | _ => none }
def ConfigNamesWrongFalsely : Prop := configNamesRow.holds Try.pinned (OpenSpec.ofChange configNamesWrong)

/-- 'odometerlaw13.ConfigCopies': WHATEVER THE INPUT: true; the input reads as it did. -/
def configCopiesSpec : ChangeSpec := { name := "configCopies", fn := fun _ => fun
  | [d1, d2] => { results := [.lit (.bool true)], args := [d1, d2] }
  | _ => none }
def configCopiesRow : OpenClaim := { program := "ytedchpflcemdkaa", sum := "208752b0fc21bdd9e6a0e4adbf46532949fab26a7994f2b193faef37fccfb564", func := "odometer/odometerlaw13.ConfigCopies", spec := "configCopies", inPlace := ["internal/bytealg.IndexByteString", "internal/reflectlite.TypeOf", "internal/abi.NoEscape", "internal/bytealg.MakeNoZero"], unfollowed := true, recurses := true, apart := false }
def ConfigCopiesSaid : Prop := configCopiesRow.holds Try.pinned (OpenSpec.ofChange configCopiesSpec)

/-- ITS FALSE NEIGHBOUR: 'it returns false'. Refute it at one input. -/
def configCopiesWrong : ChangeSpec := { name := "configCopies", fn := fun _ => fun
  | [d1, d2] => { results := [.lit (.bool false)], args := [d1, d2] }
  | _ => none }
def ConfigCopiesWrongFalsely : Prop := configCopiesRow.holds Try.pinned (OpenSpec.ofChange configCopiesWrong)

/- THE SECOND FORM. 'bulk': how many values and letters a reading holds, each counted each time it is reached (what is shared counts as often as it is met; a slice's spare places count too). A statement '..UptoSaid' is the law's where the arguments, and the package variables that the reading takes, are together of bulk at most 1048576: NARROWER than '..Said'. Prove '..Said' where nothing that the law and all that it calls make is longer than what came in: it says more and counts as full. Else prove '..UptoSaid'. A law counts once. -/
mutual
def uptoBulk {H : Type} : DataW H → Nat
  | .lit (.string bytes) => bytes.length + 1
  | .lit _ => 1
  | .nil => 1
  | .ptr d => uptoBulk d + 1
  | .slice elems spare => uptoBulkAll elems + uptoBulkAll spare + 1
  | .agg parts => uptoBulkAll parts + 1
  | .iface _ d => uptoBulk d + 1
  | .map entries => uptoBulkEntries entries + 1
  | .held _ => 1
def uptoBulkAll {H : Type} : List (DataW H) → Nat
  | [] => 0
  | d :: r => uptoBulk d + uptoBulkAll r
def uptoBulkEntries {H : Type} : List (Lit × DataW H) → Nat
  | [] => 0
  | x :: r => uptoBulkEntry x + uptoBulkEntries r
def uptoBulkEntry {H : Type} : Lit × DataW H → Nat
  | (.string bytes, d) => bytes.length + uptoBulk d + 1
  | (_, d) => uptoBulk d + 1
 end
def uptoSmall : (H : Type) → List (DataW H) → Bool := fun _ ds => decide (uptoBulkAll ds ≤ 1048576)
def OpenSpec.upto (s : _root_.Go.ChangeSpec) : _root_.Go.OpenSpec := { _root_.Go.OpenSpec.ofChange s with cond := some uptoSmall }

/-- 'odometerlaw13.ConfigTurns', WHERE WHAT IT READS IS OF BULK AT MOST 1048576: true; the input reads as it did. -/
def configTurnsUptoRow : OpenClaim := { program := "ytedchpflcemdkaa", sum := "208752b0fc21bdd9e6a0e4adbf46532949fab26a7994f2b193faef37fccfb564", func := "odometer/odometerlaw13.ConfigTurns", spec := "configTurns", inPlace := ["internal/bytealg.IndexByteString", "internal/reflectlite.TypeOf", "internal/abi.NoEscape", "internal/bytealg.MakeNoZero"], unfollowed := true, recurses := true, apart := false, narrowed := true }
def ConfigTurnsUptoSaid : Prop := configTurnsUptoRow.holds Try.pinned (OpenSpec.upto configTurnsSpec)

/-- 'odometerlaw13.ConfigNames', WHERE WHAT IT READS IS OF BULK AT MOST 1048576: true; the input reads as it did. -/
def configNamesUptoRow : OpenClaim := { program := "ytedchpflcemdkaa", sum := "208752b0fc21bdd9e6a0e4adbf46532949fab26a7994f2b193faef37fccfb564", func := "odometer/odometerlaw13.ConfigNames", spec := "configNames", inPlace := ["internal/bytealg.IndexByteString", "internal/reflectlite.TypeOf", "internal/abi.NoEscape", "internal/bytealg.MakeNoZero"], unfollowed := true, recurses := true, apart := false, narrowed := true }
def ConfigNamesUptoSaid : Prop := configNamesUptoRow.holds Try.pinned (OpenSpec.upto configNamesSpec)

/-- 'odometerlaw13.ConfigCopies', WHERE WHAT IT READS IS OF BULK AT MOST 1048576: true; the input reads as it did. -/
def configCopiesUptoRow : OpenClaim := { program := "ytedchpflcemdkaa", sum := "208752b0fc21bdd9e6a0e4adbf46532949fab26a7994f2b193faef37fccfb564", func := "odometer/odometerlaw13.ConfigCopies", spec := "configCopies", inPlace := ["internal/bytealg.IndexByteString", "internal/reflectlite.TypeOf", "internal/abi.NoEscape", "internal/bytealg.MakeNoZero"], unfollowed := true, recurses := true, apart := false, narrowed := true }
def ConfigCopiesUptoSaid : Prop := configCopiesUptoRow.holds Try.pinned (OpenSpec.upto configCopiesSpec)

end Rows
end Go.Proofs.Ytedchpflcemdkaa
