/-
  DERIVED. GIVEN WITH THE SEED: THE CARDS: each row of YthifdmelanbgmaaDoorRows.lean that lists a variable, with what it lists TIED to the program's text (the seventh form; the later family's looks); each row that meets fmt, with fmt's text TOLD by the authors' own Lean function (tested against real Go, not proved from fmt's source: count such statements apart). THE CARD IS WHAT COUNTS. Prove the row's statement (the work); the ties are given (YthifdmelanbgmaaDoorTie.lean); close each card by the builder's one call (the guide's Derived/Test/ToyasCard.lean, 'card_holds'). Laid BY PROGRAM, IN A SANDBOX (cutbox-door.mjs). By AI agents, Wed Nov 11 2026. No macro, syntax, notation, axiom, sorry.
-/
import Derived.Test.YthifdmelanbgmaaDoorRows
import GoSem.ClaimSeven
namespace Go.Proofs.YthifdmelanbgmaaDoor
namespace Rows

/-- THE TIED CARD OF 'garrisonlaw05.ScriptTexts'. -/
def scriptTextsCard : Claim7 := { stood := { row := scriptTextsRow, standIns := [], harness := (true, "14fb1aa51a7b5295cfd5e74e699ab4690dc7f38307576fed366c991e14f73968"), looks := true }, kinds := [], alts := [], laidByText := true, laidKinds := [.data, .data, .data, .data, .sentinel, .sentinel, .pinned], laidTests := true, laidLooks := .later }
def ScriptTextsCardSaid : Prop := Claim7.holds Tryd.pinned (.plain (OpenSpec.ofChange scriptTextsSpec)) scriptTextsCard

/-- THE TIED CARD OF 'garrisonlaw05.ScriptCounts'. -/
def scriptCountsCard : Claim7 := { stood := { row := scriptCountsRow, standIns := [], harness := (true, "14fb1aa51a7b5295cfd5e74e699ab4690dc7f38307576fed366c991e14f73968"), looks := true }, kinds := [], alts := [], laidByText := true, laidKinds := [.data, .data, .data, .data, .sentinel, .sentinel, .pinned], laidTests := true, laidLooks := .later }
def ScriptCountsCardSaid : Prop := Claim7.holds Tryd.pinned (.plain (OpenSpec.ofChange scriptCountsSpec)) scriptCountsCard

/-- THE TIED CARD OF 'garrisonlaw05.ScriptFair'. -/
def scriptFairCard : Claim7 := { stood := { row := scriptFairRow, standIns := [], harness := (true, "14fb1aa51a7b5295cfd5e74e699ab4690dc7f38307576fed366c991e14f73968"), looks := true }, kinds := [], alts := [], laidByText := true, laidKinds := [.data, .data, .data, .data, .sentinel, .sentinel, .pinned], laidTests := true, laidLooks := .later }
def ScriptFairCardSaid : Prop := Claim7.holds Tryd.pinned (.plain (OpenSpec.ofChange scriptFairSpec)) scriptFairCard

/-- THE TIED CARD OF 'garrisonlaw05.ScriptMore'. -/
def scriptMoreCard : Claim7 := { stood := { row := scriptMoreRow, standIns := [], harness := (true, "14fb1aa51a7b5295cfd5e74e699ab4690dc7f38307576fed366c991e14f73968"), looks := true }, kinds := [], alts := [], laidByText := true, laidKinds := [.data, .data, .data, .data, .sentinel, .sentinel, .pinned], laidTests := true, laidLooks := .later }
def ScriptMoreCardSaid : Prop := Claim7.holds Tryd.pinned (.plain (OpenSpec.ofChange scriptMoreSpec)) scriptMoreCard

/-- THE TIED CARD OF 'garrisonlaw05.ScriptBack'. -/
def scriptBackCard : Claim7 := { stood := { row := scriptBackRow, standIns := [], harness := (true, "14fb1aa51a7b5295cfd5e74e699ab4690dc7f38307576fed366c991e14f73968"), looks := true }, kinds := [], alts := [], laidByText := true, laidKinds := [.data, .data, .data, .data, .sentinel, .sentinel, .pinned], laidTests := true, laidLooks := .later }
def ScriptBackCardSaid : Prop := Claim7.holds Tryd.pinned (.plain (OpenSpec.ofChange scriptBackSpec)) scriptBackCard

/-- THE TIED CARD OF 'garrisonlaw05.ScriptRounds'. -/
def scriptRoundsCard : Claim7 := { stood := { row := scriptRoundsRow, standIns := [], harness := (true, "14fb1aa51a7b5295cfd5e74e699ab4690dc7f38307576fed366c991e14f73968"), looks := true }, kinds := [], alts := [], laidByText := true, laidKinds := [.data, .data, .data, .data, .sentinel, .sentinel, .pinned], laidTests := true, laidLooks := .later }
def ScriptRoundsCardSaid : Prop := Claim7.holds Tryd.pinned (.plain (OpenSpec.ofChange scriptRoundsSpec)) scriptRoundsCard

/-- THE TIED CARD OF 'garrisonlaw05.ScriptSums'. -/
def scriptSumsCard : Claim7 := { stood := { row := scriptSumsRow, standIns := [], harness := (true, "14fb1aa51a7b5295cfd5e74e699ab4690dc7f38307576fed366c991e14f73968"), looks := true }, kinds := [], alts := [], laidByText := true, laidKinds := [.data, .data, .data, .data, .sentinel, .sentinel, .pinned], laidTests := true, laidLooks := .later }
def ScriptSumsCardSaid : Prop := Claim7.holds Tryd.pinned (.plain (OpenSpec.ofChange scriptSumsSpec)) scriptSumsCard

/-- THE SECOND FORM's CARD OF 'garrisonlaw05.ScriptTexts'. -/
def scriptTextsUptoCard : Claim7 := { stood := { row := scriptTextsUptoRow, standIns := [], harness := (true, "14fb1aa51a7b5295cfd5e74e699ab4690dc7f38307576fed366c991e14f73968"), looks := true }, kinds := [], alts := [], laidByText := true, laidKinds := [.data, .data, .data, .data, .sentinel, .sentinel, .pinned], laidTests := true, laidLooks := .later }
def ScriptTextsUptoCardSaid : Prop := Claim7.holds Tryd.pinned (.plain (OpenSpec.upto scriptTextsSpec)) scriptTextsUptoCard

/-- THE SECOND FORM's CARD OF 'garrisonlaw05.ScriptCounts'. -/
def scriptCountsUptoCard : Claim7 := { stood := { row := scriptCountsUptoRow, standIns := [], harness := (true, "14fb1aa51a7b5295cfd5e74e699ab4690dc7f38307576fed366c991e14f73968"), looks := true }, kinds := [], alts := [], laidByText := true, laidKinds := [.data, .data, .data, .data, .sentinel, .sentinel, .pinned], laidTests := true, laidLooks := .later }
def ScriptCountsUptoCardSaid : Prop := Claim7.holds Tryd.pinned (.plain (OpenSpec.upto scriptCountsSpec)) scriptCountsUptoCard

/-- THE SECOND FORM's CARD OF 'garrisonlaw05.ScriptFair'. -/
def scriptFairUptoCard : Claim7 := { stood := { row := scriptFairUptoRow, standIns := [], harness := (true, "14fb1aa51a7b5295cfd5e74e699ab4690dc7f38307576fed366c991e14f73968"), looks := true }, kinds := [], alts := [], laidByText := true, laidKinds := [.data, .data, .data, .data, .sentinel, .sentinel, .pinned], laidTests := true, laidLooks := .later }
def ScriptFairUptoCardSaid : Prop := Claim7.holds Tryd.pinned (.plain (OpenSpec.upto scriptFairSpec)) scriptFairUptoCard

/-- THE SECOND FORM's CARD OF 'garrisonlaw05.ScriptMore'. -/
def scriptMoreUptoCard : Claim7 := { stood := { row := scriptMoreUptoRow, standIns := [], harness := (true, "14fb1aa51a7b5295cfd5e74e699ab4690dc7f38307576fed366c991e14f73968"), looks := true }, kinds := [], alts := [], laidByText := true, laidKinds := [.data, .data, .data, .data, .sentinel, .sentinel, .pinned], laidTests := true, laidLooks := .later }
def ScriptMoreUptoCardSaid : Prop := Claim7.holds Tryd.pinned (.plain (OpenSpec.upto scriptMoreSpec)) scriptMoreUptoCard

/-- THE SECOND FORM's CARD OF 'garrisonlaw05.ScriptBack'. -/
def scriptBackUptoCard : Claim7 := { stood := { row := scriptBackUptoRow, standIns := [], harness := (true, "14fb1aa51a7b5295cfd5e74e699ab4690dc7f38307576fed366c991e14f73968"), looks := true }, kinds := [], alts := [], laidByText := true, laidKinds := [.data, .data, .data, .data, .sentinel, .sentinel, .pinned], laidTests := true, laidLooks := .later }
def ScriptBackUptoCardSaid : Prop := Claim7.holds Tryd.pinned (.plain (OpenSpec.upto scriptBackSpec)) scriptBackUptoCard

/-- THE SECOND FORM's CARD OF 'garrisonlaw05.ScriptRounds'. -/
def scriptRoundsUptoCard : Claim7 := { stood := { row := scriptRoundsUptoRow, standIns := [], harness := (true, "14fb1aa51a7b5295cfd5e74e699ab4690dc7f38307576fed366c991e14f73968"), looks := true }, kinds := [], alts := [], laidByText := true, laidKinds := [.data, .data, .data, .data, .sentinel, .sentinel, .pinned], laidTests := true, laidLooks := .later }
def ScriptRoundsUptoCardSaid : Prop := Claim7.holds Tryd.pinned (.plain (OpenSpec.upto scriptRoundsSpec)) scriptRoundsUptoCard

/-- THE SECOND FORM's CARD OF 'garrisonlaw05.ScriptSums'. -/
def scriptSumsUptoCard : Claim7 := { stood := { row := scriptSumsUptoRow, standIns := [], harness := (true, "14fb1aa51a7b5295cfd5e74e699ab4690dc7f38307576fed366c991e14f73968"), looks := true }, kinds := [], alts := [], laidByText := true, laidKinds := [.data, .data, .data, .data, .sentinel, .sentinel, .pinned], laidTests := true, laidLooks := .later }
def ScriptSumsUptoCardSaid : Prop := Claim7.holds Tryd.pinned (.plain (OpenSpec.upto scriptSumsSpec)) scriptSumsUptoCard
end Rows
end Go.Proofs.YthifdmelanbgmaaDoor
