/-
  No cell of these rows narrows 'for every input' (looked for: loops, veiled, ifaces, maps, wideKeys, modest, calm, conditions, laid).
  DERIVED. THE GIVEN ROWS OF THIS SEAT. 7 by the template 'for every input the law returns true; each argument reads behind the call as it read before'; 0 by the template 'total and deterministic' (their statements: YtcikjeiebpmmcaaGreatTotals.lean).
  GIVEN WITH THE SEED: the statements are not yours to turn. If you find one false, say at which input.
  Laid BY PROGRAM, IN A SANDBOX (cutbox-rows.mjs): the forced cells as the released guide's own fill.sh prints them over the translation faebdec053274ab2… (all of the seat's roots in one cut). By AI agents, Wed Nov 11 2026. No macro, syntax, notation, axiom, sorry.
-/
import Derived.Test.YtcikjeiebpmmcaaGreatChecked
import GoSem.Claim
import GoSem.ClaimJoined
import GoSem.ClaimMapViews
import Derived.JoinedTies
import Derived.KernelRfl
namespace Go.Proofs.YtcikjeiebpmmcaaGreat
/- THE CELL 'sum', in the pinned program and in every row, IS THE sha256 OF THE DUMP (.gsa) THAT YtcikjeiebpmmcaaGreatProg.lean LOADS. Nothing in Lean hashes anything: it is a label: what it is worth is what the hold of that sum in a sandbox is worth. -/
noncomputable def Tryz.pinned : Pinned := { name := "ytcikjeiebpmmcaagreat", sum := "faebdec053274ab275f37d223f36b1d5423b544a5585347c0703798252115222", checked := Tryz.checked }
namespace Rows
def none {H : Type} : Left H := { results := [], args := [] }

/-- 'odometerlaw29.RelabelMatches': WHATEVER THE INPUT: true; the input reads as it did. -/
def relabelMatchesSpec : ChangeSpec := { name := "relabelMatches", fn := fun _ => fun
  | [d1, d2] => { results := [.lit (.bool true)], args := [d1, d2] }
  | _ => none }
def relabelMatchesRow : OpenClaim := { program := "ytcikjeiebpmmcaagreat", sum := "faebdec053274ab275f37d223f36b1d5423b544a5585347c0703798252115222", func := "odometer/odometerlaw29.RelabelMatches", spec := "relabelMatches", inPlace := ["internal/bytealg.IndexByteString", "internal/abi.NoEscape", "internal/bytealg.IndexString", "internal/reflectlite.TypeOf", "internal/bytealg.MakeNoZero"], unfollowed := true, recurses := true, named := ["internal/bytealg.MaxLen"], apart := false }
def RelabelMatchesSaid : Prop := relabelMatchesRow.holds Tryz.pinned (OpenSpec.ofChange relabelMatchesSpec)

/-- ITS FALSE NEIGHBOUR: 'it returns false'. Refute it at one input. -/
def relabelMatchesWrong : ChangeSpec := { name := "relabelMatches", fn := fun _ => fun
  | [d1, d2] => { results := [.lit (.bool false)], args := [d1, d2] }
  | _ => none }
def RelabelMatchesWrongFalsely : Prop := relabelMatchesRow.holds Tryz.pinned (OpenSpec.ofChange relabelMatchesWrong)

/-- 'odometerlaw29.RelabelFills': WHATEVER THE INPUT: true; the input reads as it did. -/
def relabelFillsSpec : ChangeSpec := { name := "relabelFills", fn := fun _ => fun
  | [d1, d2] => { results := [.lit (.bool true)], args := [d1, d2] }
  | _ => none }
def relabelFillsRow : OpenClaim := { program := "ytcikjeiebpmmcaagreat", sum := "faebdec053274ab275f37d223f36b1d5423b544a5585347c0703798252115222", func := "odometer/odometerlaw29.RelabelFills", spec := "relabelFills", inPlace := ["internal/bytealg.IndexByteString", "internal/abi.NoEscape", "internal/bytealg.IndexString", "internal/reflectlite.TypeOf", "internal/bytealg.MakeNoZero"], unfollowed := true, recurses := true, named := ["internal/bytealg.MaxLen"], apart := false }
def RelabelFillsSaid : Prop := relabelFillsRow.holds Tryz.pinned (OpenSpec.ofChange relabelFillsSpec)

/-- ITS FALSE NEIGHBOUR: 'it returns false'. Refute it at one input. -/
def relabelFillsWrong : ChangeSpec := { name := "relabelFills", fn := fun _ => fun
  | [d1, d2] => { results := [.lit (.bool false)], args := [d1, d2] }
  | _ => none }
def RelabelFillsWrongFalsely : Prop := relabelFillsRow.holds Tryz.pinned (OpenSpec.ofChange relabelFillsWrong)

/-- 'odometerlaw29.RelabelMay': WHATEVER THE INPUT: true; the input reads as it did. -/
def relabelMaySpec : ChangeSpec := { name := "relabelMay", fn := fun _ => fun
  | [d] => { results := [.lit (.bool true)], args := [d] }
  | _ => none }
def relabelMayRow : OpenClaim := { program := "ytcikjeiebpmmcaagreat", sum := "faebdec053274ab275f37d223f36b1d5423b544a5585347c0703798252115222", func := "odometer/odometerlaw29.RelabelMay", spec := "relabelMay", inPlace := ["internal/bytealg.IndexByteString", "internal/abi.NoEscape", "internal/bytealg.IndexString", "internal/reflectlite.TypeOf", "internal/bytealg.MakeNoZero"], unfollowed := true, recurses := true, named := ["internal/bytealg.MaxLen"], apart := false }
def RelabelMaySaid : Prop := relabelMayRow.holds Tryz.pinned (OpenSpec.ofChange relabelMaySpec)

/-- ITS FALSE NEIGHBOUR: 'it returns false'. Refute it at one input. -/
def relabelMayWrong : ChangeSpec := { name := "relabelMay", fn := fun _ => fun
  | [d] => { results := [.lit (.bool false)], args := [d] }
  | _ => none }
def RelabelMayWrongFalsely : Prop := relabelMayRow.holds Tryz.pinned (OpenSpec.ofChange relabelMayWrong)

/-- 'odometerlaw29.RelabelRows': WHATEVER THE INPUT: true; the input reads as it did. -/
def relabelRowsSpec : ChangeSpec := { name := "relabelRows", fn := fun _ => fun
  | [d1, d2, d3] => { results := [.lit (.bool true)], args := [d1, d2, d3] }
  | _ => none }
def relabelRowsRow : OpenClaim := { program := "ytcikjeiebpmmcaagreat", sum := "faebdec053274ab275f37d223f36b1d5423b544a5585347c0703798252115222", func := "odometer/odometerlaw29.RelabelRows", spec := "relabelRows", inPlace := ["internal/bytealg.IndexByteString", "internal/abi.NoEscape", "internal/bytealg.IndexString", "internal/reflectlite.TypeOf", "internal/bytealg.MakeNoZero"], unfollowed := true, recurses := true, named := ["internal/bytealg.MaxLen"], apart := false }
def RelabelRowsSaid : Prop := relabelRowsRow.holds Tryz.pinned (OpenSpec.ofChange relabelRowsSpec)

/-- ITS FALSE NEIGHBOUR: 'it returns false'. Refute it at one input. -/
def relabelRowsWrong : ChangeSpec := { name := "relabelRows", fn := fun _ => fun
  | [d1, d2, d3] => { results := [.lit (.bool false)], args := [d1, d2, d3] }
  | _ => none }
def RelabelRowsWrongFalsely : Prop := relabelRowsRow.holds Tryz.pinned (OpenSpec.ofChange relabelRowsWrong)

/-- 'odometerlaw29.RelabelApplies': WHATEVER THE INPUT: true; the input reads as it did. -/
def relabelAppliesSpec : ChangeSpec := { name := "relabelApplies", fn := fun _ => fun
  | [d1, d2, d3] => { results := [.lit (.bool true)], args := [d1, d2, d3] }
  | _ => none }
def relabelAppliesRow : OpenClaim := { program := "ytcikjeiebpmmcaagreat", sum := "faebdec053274ab275f37d223f36b1d5423b544a5585347c0703798252115222", func := "odometer/odometerlaw29.RelabelApplies", spec := "relabelApplies", inPlace := ["internal/bytealg.IndexByteString", "internal/abi.NoEscape", "internal/bytealg.IndexString", "internal/reflectlite.TypeOf", "internal/bytealg.MakeNoZero"], unfollowed := true, recurses := true, named := ["internal/bytealg.MaxLen"], apart := false }
def RelabelAppliesSaid : Prop := relabelAppliesRow.holds Tryz.pinned (OpenSpec.ofChange relabelAppliesSpec)

/-- ITS FALSE NEIGHBOUR: 'it returns false'. Refute it at one input. -/
def relabelAppliesWrong : ChangeSpec := { name := "relabelApplies", fn := fun _ => fun
  | [d1, d2, d3] => { results := [.lit (.bool false)], args := [d1, d2, d3] }
  | _ => none }
def RelabelAppliesWrongFalsely : Prop := relabelAppliesRow.holds Tryz.pinned (OpenSpec.ofChange relabelAppliesWrong)

/-- 'odometerlaw29.RelabelKeeps': WHATEVER THE INPUT: true; the input reads as it did. -/
def relabelKeepsSpec : ChangeSpec := { name := "relabelKeeps", fn := fun _ => fun
  | [d1, d2] => { results := [.lit (.bool true)], args := [d1, d2] }
  | _ => none }
def relabelKeepsRow : OpenClaim := { program := "ytcikjeiebpmmcaagreat", sum := "faebdec053274ab275f37d223f36b1d5423b544a5585347c0703798252115222", func := "odometer/odometerlaw29.RelabelKeeps", spec := "relabelKeeps", inPlace := ["internal/bytealg.IndexByteString", "internal/abi.NoEscape", "internal/bytealg.IndexString", "internal/reflectlite.TypeOf", "internal/bytealg.MakeNoZero"], unfollowed := true, recurses := true, named := ["internal/bytealg.MaxLen"], apart := false }
def RelabelKeepsSaid : Prop := relabelKeepsRow.holds Tryz.pinned (OpenSpec.ofChange relabelKeepsSpec)

/-- ITS FALSE NEIGHBOUR: 'it returns false'. Refute it at one input. -/
def relabelKeepsWrong : ChangeSpec := { name := "relabelKeeps", fn := fun _ => fun
  | [d1, d2] => { results := [.lit (.bool false)], args := [d1, d2] }
  | _ => none }
def RelabelKeepsWrongFalsely : Prop := relabelKeepsRow.holds Tryz.pinned (OpenSpec.ofChange relabelKeepsWrong)

/-- 'odometerlaw29.RelabelAll': WHATEVER THE INPUT: true; the input reads as it did. -/
def relabelAllSpec : ChangeSpec := { name := "relabelAll", fn := fun _ => fun
  | [d1, d2, d3] => { results := [.lit (.bool true)], args := [d1, d2, d3] }
  | _ => none }
def relabelAllRow : OpenClaim := { program := "ytcikjeiebpmmcaagreat", sum := "faebdec053274ab275f37d223f36b1d5423b544a5585347c0703798252115222", func := "odometer/odometerlaw29.RelabelAll", spec := "relabelAll", inPlace := ["internal/bytealg.IndexByteString", "internal/abi.NoEscape", "internal/bytealg.IndexString", "internal/reflectlite.TypeOf", "internal/bytealg.MakeNoZero"], unfollowed := true, recurses := true, named := ["internal/bytealg.MaxLen"], apart := false }
def RelabelAllSaid : Prop := relabelAllRow.holds Tryz.pinned (OpenSpec.ofChange relabelAllSpec)

/-- ITS FALSE NEIGHBOUR: 'it returns false'. Refute it at one input. -/
def relabelAllWrong : ChangeSpec := { name := "relabelAll", fn := fun _ => fun
  | [d1, d2, d3] => { results := [.lit (.bool false)], args := [d1, d2, d3] }
  | _ => none }
def RelabelAllWrongFalsely : Prop := relabelAllRow.holds Tryz.pinned (OpenSpec.ofChange relabelAllWrong)

/- THE SECOND FORM. 'bulk': how many values and letters a reading holds, each counted each time it is reached (what is shared counts as often as it is met; a slice's spare places count too). A statement '..UptoSaid' is the law's where the arguments, and the package variables that the reading takes, are together of bulk at most 1048576: NARROWER than '..Said'. Prove '..Said' where nothing that the law and all that it calls make is longer than what came in: it says more and counts as full. Else prove '..UptoSaid'. A law counts once. -/
mutual
def uptoBulk {H : Type} : DataW H → Nat
  | .lit (.string bytes) => bytes.length + 1
  | .lit _ => 1
  | .nil => 1
  | .ptr d => uptoBulk d + 1
  | .slice elems spare => uptoBulkAll elems + uptoBulkAll spare + 1
  | .agg parts => uptoBulkAll parts + 1
  | .iface _ d => uptoBulk d + 1
  | .map entries => uptoBulkEntries entries + 1
  | .held _ => 1
def uptoBulkAll {H : Type} : List (DataW H) → Nat
  | [] => 0
  | d :: r => uptoBulk d + uptoBulkAll r
def uptoBulkEntries {H : Type} : List (Lit × DataW H) → Nat
  | [] => 0
  | x :: r => uptoBulkEntry x + uptoBulkEntries r
def uptoBulkEntry {H : Type} : Lit × DataW H → Nat
  | (.string bytes, d) => bytes.length + uptoBulk d + 1
  | (_, d) => uptoBulk d + 1
 end
def uptoSmall : (H : Type) → List (DataW H) → Bool := fun _ ds => decide (uptoBulkAll ds ≤ 1048576)
def OpenSpec.upto (s : _root_.Go.ChangeSpec) : _root_.Go.OpenSpec := { _root_.Go.OpenSpec.ofChange s with cond := some uptoSmall }

/-- 'odometerlaw29.RelabelMatches', WHERE WHAT IT READS IS OF BULK AT MOST 1048576: true; the input reads as it did. -/
def relabelMatchesUptoRow : OpenClaim := { program := "ytcikjeiebpmmcaagreat", sum := "faebdec053274ab275f37d223f36b1d5423b544a5585347c0703798252115222", func := "odometer/odometerlaw29.RelabelMatches", spec := "relabelMatches", inPlace := ["internal/bytealg.IndexByteString", "internal/abi.NoEscape", "internal/bytealg.IndexString", "internal/reflectlite.TypeOf", "internal/bytealg.MakeNoZero"], unfollowed := true, recurses := true, named := ["internal/bytealg.MaxLen"], apart := false, narrowed := true }
def RelabelMatchesUptoSaid : Prop := relabelMatchesUptoRow.holds Tryz.pinned (OpenSpec.upto relabelMatchesSpec)

/-- 'odometerlaw29.RelabelFills', WHERE WHAT IT READS IS OF BULK AT MOST 1048576: true; the input reads as it did. -/
def relabelFillsUptoRow : OpenClaim := { program := "ytcikjeiebpmmcaagreat", sum := "faebdec053274ab275f37d223f36b1d5423b544a5585347c0703798252115222", func := "odometer/odometerlaw29.RelabelFills", spec := "relabelFills", inPlace := ["internal/bytealg.IndexByteString", "internal/abi.NoEscape", "internal/bytealg.IndexString", "internal/reflectlite.TypeOf", "internal/bytealg.MakeNoZero"], unfollowed := true, recurses := true, named := ["internal/bytealg.MaxLen"], apart := false, narrowed := true }
def RelabelFillsUptoSaid : Prop := relabelFillsUptoRow.holds Tryz.pinned (OpenSpec.upto relabelFillsSpec)

/-- 'odometerlaw29.RelabelMay', WHERE WHAT IT READS IS OF BULK AT MOST 1048576: true; the input reads as it did. -/
def relabelMayUptoRow : OpenClaim := { program := "ytcikjeiebpmmcaagreat", sum := "faebdec053274ab275f37d223f36b1d5423b544a5585347c0703798252115222", func := "odometer/odometerlaw29.RelabelMay", spec := "relabelMay", inPlace := ["internal/bytealg.IndexByteString", "internal/abi.NoEscape", "internal/bytealg.IndexString", "internal/reflectlite.TypeOf", "internal/bytealg.MakeNoZero"], unfollowed := true, recurses := true, named := ["internal/bytealg.MaxLen"], apart := false, narrowed := true }
def RelabelMayUptoSaid : Prop := relabelMayUptoRow.holds Tryz.pinned (OpenSpec.upto relabelMaySpec)

/-- 'odometerlaw29.RelabelRows', WHERE WHAT IT READS IS OF BULK AT MOST 1048576: true; the input reads as it did. -/
def relabelRowsUptoRow : OpenClaim := { program := "ytcikjeiebpmmcaagreat", sum := "faebdec053274ab275f37d223f36b1d5423b544a5585347c0703798252115222", func := "odometer/odometerlaw29.RelabelRows", spec := "relabelRows", inPlace := ["internal/bytealg.IndexByteString", "internal/abi.NoEscape", "internal/bytealg.IndexString", "internal/reflectlite.TypeOf", "internal/bytealg.MakeNoZero"], unfollowed := true, recurses := true, named := ["internal/bytealg.MaxLen"], apart := false, narrowed := true }
def RelabelRowsUptoSaid : Prop := relabelRowsUptoRow.holds Tryz.pinned (OpenSpec.upto relabelRowsSpec)

/-- 'odometerlaw29.RelabelApplies', WHERE WHAT IT READS IS OF BULK AT MOST 1048576: true; the input reads as it did. -/
def relabelAppliesUptoRow : OpenClaim := { program := "ytcikjeiebpmmcaagreat", sum := "faebdec053274ab275f37d223f36b1d5423b544a5585347c0703798252115222", func := "odometer/odometerlaw29.RelabelApplies", spec := "relabelApplies", inPlace := ["internal/bytealg.IndexByteString", "internal/abi.NoEscape", "internal/bytealg.IndexString", "internal/reflectlite.TypeOf", "internal/bytealg.MakeNoZero"], unfollowed := true, recurses := true, named := ["internal/bytealg.MaxLen"], apart := false, narrowed := true }
def RelabelAppliesUptoSaid : Prop := relabelAppliesUptoRow.holds Tryz.pinned (OpenSpec.upto relabelAppliesSpec)

/-- 'odometerlaw29.RelabelKeeps', WHERE WHAT IT READS IS OF BULK AT MOST 1048576: true; the input reads as it did. -/
def relabelKeepsUptoRow : OpenClaim := { program := "ytcikjeiebpmmcaagreat", sum := "faebdec053274ab275f37d223f36b1d5423b544a5585347c0703798252115222", func := "odometer/odometerlaw29.RelabelKeeps", spec := "relabelKeeps", inPlace := ["internal/bytealg.IndexByteString", "internal/abi.NoEscape", "internal/bytealg.IndexString", "internal/reflectlite.TypeOf", "internal/bytealg.MakeNoZero"], unfollowed := true, recurses := true, named := ["internal/bytealg.MaxLen"], apart := false, narrowed := true }
def RelabelKeepsUptoSaid : Prop := relabelKeepsUptoRow.holds Tryz.pinned (OpenSpec.upto relabelKeepsSpec)

/-- 'odometerlaw29.RelabelAll', WHERE WHAT IT READS IS OF BULK AT MOST 1048576: true; the input reads as it did. -/
def relabelAllUptoRow : OpenClaim := { program := "ytcikjeiebpmmcaagreat", sum := "faebdec053274ab275f37d223f36b1d5423b544a5585347c0703798252115222", func := "odometer/odometerlaw29.RelabelAll", spec := "relabelAll", inPlace := ["internal/bytealg.IndexByteString", "internal/abi.NoEscape", "internal/bytealg.IndexString", "internal/reflectlite.TypeOf", "internal/bytealg.MakeNoZero"], unfollowed := true, recurses := true, named := ["internal/bytealg.MaxLen"], apart := false, narrowed := true }
def RelabelAllUptoSaid : Prop := relabelAllUptoRow.holds Tryz.pinned (OpenSpec.upto relabelAllSpec)

end Rows
end Go.Proofs.YtcikjeiebpmmcaaGreat
