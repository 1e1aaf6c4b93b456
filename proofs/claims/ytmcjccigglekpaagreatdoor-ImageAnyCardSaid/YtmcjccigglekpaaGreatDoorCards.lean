/-
  DERIVED. GIVEN WITH THE SEED: THE CARDS: each row of YtmcjccigglekpaaGreatDoorRows.lean that lists a variable, with what it lists TIED to the program's text (the seventh form; the later family's looks); each row that meets fmt, with fmt's text TOLD by the authors' own Lean function (tested against real Go, not proved from fmt's source: count such statements apart). THE CARD IS WHAT COUNTS. Prove the row's statement (the work); the ties are given (YtmcjccigglekpaaGreatDoorTie.lean); close each card by the builder's one call (the guide's Derived/Test/ToyasCard.lean, 'card_holds'). Laid BY PROGRAM, IN A SANDBOX (cutbox-door.mjs). By AI agents, Wed Nov 11 2026. No macro, syntax, notation, axiom, sorry.
-/
import Derived.Test.YtmcjccigglekpaaGreatDoorRows
import GoSem.ClaimSeven
namespace Go.Proofs.YtmcjccigglekpaaGreatDoor
namespace Rows

/-- THE TIED CARD OF 'garrisonlaw27.ImageWrites'. -/
def imageWritesCard : Claim7 := { stood := { row := imageWritesRow, standIns := [], harness := (true, "e7530fc1534e00ec60705f42152a9abc7624dd3e40ecbe79658cd96aab0e8ca6"), looks := true }, kinds := [], alts := [], laidByText := true, laidKinds := [.data, .data, .data, .data, .sentinel, .sentinel, .pinned], laidTests := true, laidLooks := .later }
def ImageWritesCardSaid : Prop := Claim7.holds Tryz.pinned (.plain (OpenSpec.ofChange imageWritesSpec)) imageWritesCard

/-- THE TIED CARD OF 'garrisonlaw27.ImageReads'. -/
def imageReadsCard : Claim7 := { stood := { row := imageReadsRow, standIns := [], harness := (true, "e7530fc1534e00ec60705f42152a9abc7624dd3e40ecbe79658cd96aab0e8ca6"), looks := true }, kinds := [], alts := [], laidByText := true, laidKinds := [.data, .data, .data, .data, .sentinel, .sentinel, .pinned], laidTests := true, laidLooks := .later }
def ImageReadsCardSaid : Prop := Claim7.holds Tryz.pinned (.plain (OpenSpec.ofChange imageReadsSpec)) imageReadsCard

/-- THE TIED CARD OF 'garrisonlaw27.ImageAny'. -/
def imageAnyCard : Claim7 := { stood := { row := imageAnyRow, standIns := [], harness := (true, "e7530fc1534e00ec60705f42152a9abc7624dd3e40ecbe79658cd96aab0e8ca6"), looks := true }, kinds := [], alts := [], laidByText := true, laidKinds := [.data, .data, .data, .data, .sentinel, .sentinel, .pinned], laidTests := true, laidLooks := .later }
def ImageAnyCardSaid : Prop := Claim7.holds Tryz.pinned (.plain (OpenSpec.ofChange imageAnySpec)) imageAnyCard

/-- THE TIED CARD OF 'garrisonlaw27.ImageLong'. -/
def imageLongCard : Claim7 := { stood := { row := imageLongRow, standIns := [], harness := (true, "e7530fc1534e00ec60705f42152a9abc7624dd3e40ecbe79658cd96aab0e8ca6"), looks := true }, kinds := [], alts := [], laidByText := true, laidKinds := [.data, .data, .data, .data, .sentinel, .sentinel, .pinned], laidTests := true, laidLooks := .later }
def ImageLongCardSaid : Prop := Claim7.holds Tryz.pinned (.plain (OpenSpec.ofChange imageLongSpec)) imageLongCard

/-- THE TIED CARD OF 'garrisonlaw27.ImageBack'. -/
def imageBackCard : Claim7 := { stood := { row := imageBackRow, standIns := [], harness := (true, "e7530fc1534e00ec60705f42152a9abc7624dd3e40ecbe79658cd96aab0e8ca6"), looks := true }, kinds := [], alts := [], laidByText := true, laidKinds := [.data, .data, .data, .data, .sentinel, .sentinel, .pinned], laidTests := true, laidLooks := .later }
def ImageBackCardSaid : Prop := Claim7.holds Tryz.pinned (.plain (OpenSpec.ofChange imageBackSpec)) imageBackCard

/-- THE SECOND FORM's CARD OF 'garrisonlaw27.ImageWrites'. -/
def imageWritesUptoCard : Claim7 := { stood := { row := imageWritesUptoRow, standIns := [], harness := (true, "e7530fc1534e00ec60705f42152a9abc7624dd3e40ecbe79658cd96aab0e8ca6"), looks := true }, kinds := [], alts := [], laidByText := true, laidKinds := [.data, .data, .data, .data, .sentinel, .sentinel, .pinned], laidTests := true, laidLooks := .later }
def ImageWritesUptoCardSaid : Prop := Claim7.holds Tryz.pinned (.plain (OpenSpec.upto imageWritesSpec)) imageWritesUptoCard

/-- THE SECOND FORM's CARD OF 'garrisonlaw27.ImageReads'. -/
def imageReadsUptoCard : Claim7 := { stood := { row := imageReadsUptoRow, standIns := [], harness := (true, "e7530fc1534e00ec60705f42152a9abc7624dd3e40ecbe79658cd96aab0e8ca6"), looks := true }, kinds := [], alts := [], laidByText := true, laidKinds := [.data, .data, .data, .data, .sentinel, .sentinel, .pinned], laidTests := true, laidLooks := .later }
def ImageReadsUptoCardSaid : Prop := Claim7.holds Tryz.pinned (.plain (OpenSpec.upto imageReadsSpec)) imageReadsUptoCard

/-- THE SECOND FORM's CARD OF 'garrisonlaw27.ImageAny'. -/
def imageAnyUptoCard : Claim7 := { stood := { row := imageAnyUptoRow, standIns := [], harness := (true, "e7530fc1534e00ec60705f42152a9abc7624dd3e40ecbe79658cd96aab0e8ca6"), looks := true }, kinds := [], alts := [], laidByText := true, laidKinds := [.data, .data, .data, .data, .sentinel, .sentinel, .pinned], laidTests := true, laidLooks := .later }
def ImageAnyUptoCardSaid : Prop := Claim7.holds Tryz.pinned (.plain (OpenSpec.upto imageAnySpec)) imageAnyUptoCard

/-- THE SECOND FORM's CARD OF 'garrisonlaw27.ImageLong'. -/
def imageLongUptoCard : Claim7 := { stood := { row := imageLongUptoRow, standIns := [], harness := (true, "e7530fc1534e00ec60705f42152a9abc7624dd3e40ecbe79658cd96aab0e8ca6"), looks := true }, kinds := [], alts := [], laidByText := true, laidKinds := [.data, .data, .data, .data, .sentinel, .sentinel, .pinned], laidTests := true, laidLooks := .later }
def ImageLongUptoCardSaid : Prop := Claim7.holds Tryz.pinned (.plain (OpenSpec.upto imageLongSpec)) imageLongUptoCard

/-- THE SECOND FORM's CARD OF 'garrisonlaw27.ImageBack'. -/
def imageBackUptoCard : Claim7 := { stood := { row := imageBackUptoRow, standIns := [], harness := (true, "e7530fc1534e00ec60705f42152a9abc7624dd3e40ecbe79658cd96aab0e8ca6"), looks := true }, kinds := [], alts := [], laidByText := true, laidKinds := [.data, .data, .data, .data, .sentinel, .sentinel, .pinned], laidTests := true, laidLooks := .later }
def ImageBackUptoCardSaid : Prop := Claim7.holds Tryz.pinned (.plain (OpenSpec.upto imageBackSpec)) imageBackUptoCard
end Rows
end Go.Proofs.YtmcjccigglekpaaGreatDoor
