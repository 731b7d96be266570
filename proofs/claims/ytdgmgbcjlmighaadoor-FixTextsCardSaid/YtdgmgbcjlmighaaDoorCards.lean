/-
  DERIVED. GIVEN WITH THE SEED: THE CARDS: each row of YtdgmgbcjlmighaaDoorRows.lean that lists a variable, with what it lists TIED to the program's text (the seventh form; the later family's looks); each row that meets fmt, with fmt's text TOLD by the authors' own Lean function (tested against real Go, not proved from fmt's source: count such statements apart). THE CARD IS WHAT COUNTS. Prove the row's statement (the work); the ties are given (YtdgmgbcjlmighaaDoorTie.lean); close each card by the builder's one call (the guide's Derived/Test/ToyasCard.lean, 'card_holds'). Laid BY PROGRAM, IN A SANDBOX (cutbox-door.mjs). By AI agents, Wed Nov 11 2026. No macro, syntax, notation, axiom, sorry.
-/
import Derived.Test.YtdgmgbcjlmighaaDoorRows
import GoSem.ClaimSeven
namespace Go.Proofs.YtdgmgbcjlmighaaDoor
namespace Rows

/-- THE TIED CARD OF 'odometerlaw01.FixParses'. -/
def fixParsesCard : Claim7 := { stood := { row := fixParsesRow, standIns := [], harness := (true, "c8de292b128b2fcd2bd738e15cbb3ea801f9220390cc9e33bd7e03661d08ee86"), looks := true }, kinds := [], alts := [], laidByText := true, laidKinds := [.data, .data, .data, .data, .sentinel, .sentinel, .pinned, .pinned], laidTests := true, laidLooks := .later }
def FixParsesCardSaid : Prop := Claim7.holds Tryd.pinned (.plain (OpenSpec.ofChange fixParsesSpec)) fixParsesCard

/-- THE TIED CARD OF 'odometerlaw01.FixAdds'. -/
def fixAddsCard : Claim7 := { stood := { row := fixAddsRow, standIns := [], harness := (true, "c8de292b128b2fcd2bd738e15cbb3ea801f9220390cc9e33bd7e03661d08ee86"), looks := true }, kinds := [], alts := [], laidByText := true, laidKinds := [.data, .data, .data, .data, .sentinel, .sentinel, .pinned, .pinned], laidTests := true, laidLooks := .later }
def FixAddsCardSaid : Prop := Claim7.holds Tryd.pinned (.plain (OpenSpec.ofChange fixAddsSpec)) fixAddsCard

/-- THE TIED CARD OF 'odometerlaw01.FixTexts'. -/
def fixTextsCard : Claim7 := { stood := { row := fixTextsRow, standIns := [], harness := (true, "c8de292b128b2fcd2bd738e15cbb3ea801f9220390cc9e33bd7e03661d08ee86"), looks := true }, kinds := [], alts := [], laidByText := true, laidKinds := [.data, .data, .data, .data, .sentinel, .sentinel, .pinned, .pinned], laidTests := true, laidLooks := .later }
def FixTextsCardSaid : Prop := Claim7.holds Tryd.pinned (.plain (OpenSpec.ofChange fixTextsSpec)) fixTextsCard

/-- THE TIED CARD OF 'odometerlaw01.FixScales'. -/
def fixScalesCard : Claim7 := { stood := { row := fixScalesRow, standIns := [], harness := (true, "c8de292b128b2fcd2bd738e15cbb3ea801f9220390cc9e33bd7e03661d08ee86"), looks := true }, kinds := [], alts := [], laidByText := true, laidKinds := [.data, .data, .data, .data, .sentinel, .sentinel, .pinned, .pinned], laidTests := true, laidLooks := .later }
def FixScalesCardSaid : Prop := Claim7.holds Tryd.pinned (.plain (OpenSpec.ofChange fixScalesSpec)) fixScalesCard

/-- THE SECOND FORM's CARD OF 'odometerlaw01.FixParses'. -/
def fixParsesUptoCard : Claim7 := { stood := { row := fixParsesUptoRow, standIns := [], harness := (true, "c8de292b128b2fcd2bd738e15cbb3ea801f9220390cc9e33bd7e03661d08ee86"), looks := true }, kinds := [], alts := [], laidByText := true, laidKinds := [.data, .data, .data, .data, .sentinel, .sentinel, .pinned, .pinned], laidTests := true, laidLooks := .later }
def FixParsesUptoCardSaid : Prop := Claim7.holds Tryd.pinned (.plain (OpenSpec.upto fixParsesSpec)) fixParsesUptoCard

/-- THE SECOND FORM's CARD OF 'odometerlaw01.FixAdds'. -/
def fixAddsUptoCard : Claim7 := { stood := { row := fixAddsUptoRow, standIns := [], harness := (true, "c8de292b128b2fcd2bd738e15cbb3ea801f9220390cc9e33bd7e03661d08ee86"), looks := true }, kinds := [], alts := [], laidByText := true, laidKinds := [.data, .data, .data, .data, .sentinel, .sentinel, .pinned, .pinned], laidTests := true, laidLooks := .later }
def FixAddsUptoCardSaid : Prop := Claim7.holds Tryd.pinned (.plain (OpenSpec.upto fixAddsSpec)) fixAddsUptoCard

/-- THE SECOND FORM's CARD OF 'odometerlaw01.FixTexts'. -/
def fixTextsUptoCard : Claim7 := { stood := { row := fixTextsUptoRow, standIns := [], harness := (true, "c8de292b128b2fcd2bd738e15cbb3ea801f9220390cc9e33bd7e03661d08ee86"), looks := true }, kinds := [], alts := [], laidByText := true, laidKinds := [.data, .data, .data, .data, .sentinel, .sentinel, .pinned, .pinned], laidTests := true, laidLooks := .later }
def FixTextsUptoCardSaid : Prop := Claim7.holds Tryd.pinned (.plain (OpenSpec.upto fixTextsSpec)) fixTextsUptoCard

/-- THE SECOND FORM's CARD OF 'odometerlaw01.FixScales'. -/
def fixScalesUptoCard : Claim7 := { stood := { row := fixScalesUptoRow, standIns := [], harness := (true, "c8de292b128b2fcd2bd738e15cbb3ea801f9220390cc9e33bd7e03661d08ee86"), looks := true }, kinds := [], alts := [], laidByText := true, laidKinds := [.data, .data, .data, .data, .sentinel, .sentinel, .pinned, .pinned], laidTests := true, laidLooks := .later }
def FixScalesUptoCardSaid : Prop := Claim7.holds Tryd.pinned (.plain (OpenSpec.upto fixScalesSpec)) fixScalesUptoCard
end Rows
end Go.Proofs.YtdgmgbcjlmighaaDoor
