/-
  DERIVED. GIVEN WITH THE SEED: THE CARDS: each row of YtmcgdopgpjjkbaaDoorRows.lean that lists a variable, with what it lists TIED to the program's text (the seventh form; the later family's looks); each row that meets fmt, with fmt's text TOLD by the authors' own Lean function (tested against real Go, not proved from fmt's source: count such statements apart). THE CARD IS WHAT COUNTS. Prove the row's statement (the work); the ties are given (YtmcgdopgpjjkbaaDoorTie.lean); close each card by the builder's one call (the guide's Derived/Test/ToyasCard.lean, 'card_holds'). Laid BY PROGRAM, IN A SANDBOX (cutbox-door.mjs). By AI agents, Wed Nov 11 2026. No macro, syntax, notation, axiom, sorry.
-/
import Derived.Test.YtmcgdopgpjjkbaaDoorRows
import GoSem.ClaimSeven
namespace Go.Proofs.YtmcgdopgpjjkbaaDoor
namespace Rows

/-- THE TIED CARD OF 'garrisonlaw03.CapWords'. -/
def capWordsCard : Claim7 := { stood := { row := capWordsRow, standIns := [], harness := (true, "e11649a09b97e4a78d4589b3e409a3aca209d7a400501c2e034c066fa79176bd"), looks := false }, kinds := [], alts := [], laidByText := true, laidKinds := [.data, .data, .data], laidTests := true, laidLooks := .later }
def CapWordsCardSaid : Prop := Claim7.holds Tryd.pinned (.plain (OpenSpec.ofChange capWordsSpec)) capWordsCard

/-- THE TIED CARD OF 'garrisonlaw03.CapDerives'. -/
def capDerivesCard : Claim7 := { stood := { row := capDerivesRow, standIns := [], harness := (true, "e11649a09b97e4a78d4589b3e409a3aca209d7a400501c2e034c066fa79176bd"), looks := false }, kinds := [], alts := [], laidByText := true, laidKinds := [.data, .data, .data], laidTests := true, laidLooks := .later }
def CapDerivesCardSaid : Prop := Claim7.holds Tryd.pinned (.plain (OpenSpec.ofChange capDerivesSpec)) capDerivesCard

/-- THE TIED CARD OF 'garrisonlaw03.CapBack'. -/
def capBackCard : Claim7 := { stood := { row := capBackRow, standIns := [], harness := (true, "e11649a09b97e4a78d4589b3e409a3aca209d7a400501c2e034c066fa79176bd"), looks := false }, kinds := [], alts := [], laidByText := true, laidKinds := [.data, .data, .data], laidTests := true, laidLooks := .later }
def CapBackCardSaid : Prop := Claim7.holds Tryd.pinned (.plain (OpenSpec.ofChange capBackSpec)) capBackCard

/-- THE TIED CARD OF 'garrisonlaw03.CapNever'. -/
def capNeverCard : Claim7 := { stood := { row := capNeverRow, standIns := [], harness := (true, "e11649a09b97e4a78d4589b3e409a3aca209d7a400501c2e034c066fa79176bd"), looks := false }, kinds := [], alts := [], laidByText := true, laidKinds := [.data, .data, .data], laidTests := true, laidLooks := .later }
def CapNeverCardSaid : Prop := Claim7.holds Tryd.pinned (.plain (OpenSpec.ofChange capNeverSpec)) capNeverCard

/-- THE TIED CARD OF 'garrisonlaw03.CapNames'. -/
def capNamesCard : Claim7 := { stood := { row := capNamesRow, standIns := [], harness := (true, "e11649a09b97e4a78d4589b3e409a3aca209d7a400501c2e034c066fa79176bd"), looks := false }, kinds := [], alts := [], laidByText := true, laidKinds := [.data, .data, .data], laidTests := true, laidLooks := .later }
def CapNamesCardSaid : Prop := Claim7.holds Tryd.pinned (.plain (OpenSpec.ofChange capNamesSpec)) capNamesCard

/-- THE TIED CARD OF 'garrisonlaw03.CapTexts'. -/
def capTextsCard : Claim7 := { stood := { row := capTextsRow, standIns := [], harness := (true, "e11649a09b97e4a78d4589b3e409a3aca209d7a400501c2e034c066fa79176bd"), looks := false }, kinds := [], alts := [], laidByText := true, laidKinds := [.data, .data, .data], laidTests := true, laidLooks := .later }
def CapTextsCardSaid : Prop := Claim7.holds Tryd.pinned (.plain (OpenSpec.ofChange capTextsSpec)) capTextsCard

/-- THE TIED CARD OF 'garrisonlaw03.CapTwice'. -/
def capTwiceCard : Claim7 := { stood := { row := capTwiceRow, standIns := [], harness := (true, "e11649a09b97e4a78d4589b3e409a3aca209d7a400501c2e034c066fa79176bd"), looks := false }, kinds := [], alts := [], laidByText := true, laidKinds := [.data, .data, .data], laidTests := true, laidLooks := .later }
def CapTwiceCardSaid : Prop := Claim7.holds Tryd.pinned (.plain (OpenSpec.ofChange capTwiceSpec)) capTwiceCard

/-- THE TIED CARD OF 'garrisonlaw03.CapBits'. -/
def capBitsCard : Claim7 := { stood := { row := capBitsRow, standIns := [], harness := (true, "e11649a09b97e4a78d4589b3e409a3aca209d7a400501c2e034c066fa79176bd"), looks := false }, kinds := [], alts := [], laidByText := true, laidKinds := [.data, .data, .data], laidTests := true, laidLooks := .later }
def CapBitsCardSaid : Prop := Claim7.holds Tryd.pinned (.plain (OpenSpec.ofChange capBitsSpec)) capBitsCard

/-- THE SECOND FORM's CARD OF 'garrisonlaw03.CapWords'. -/
def capWordsUptoCard : Claim7 := { stood := { row := capWordsUptoRow, standIns := [], harness := (true, "e11649a09b97e4a78d4589b3e409a3aca209d7a400501c2e034c066fa79176bd"), looks := false }, kinds := [], alts := [], laidByText := true, laidKinds := [.data, .data, .data], laidTests := true, laidLooks := .later }
def CapWordsUptoCardSaid : Prop := Claim7.holds Tryd.pinned (.plain (OpenSpec.upto capWordsSpec)) capWordsUptoCard

/-- THE SECOND FORM's CARD OF 'garrisonlaw03.CapDerives'. -/
def capDerivesUptoCard : Claim7 := { stood := { row := capDerivesUptoRow, standIns := [], harness := (true, "e11649a09b97e4a78d4589b3e409a3aca209d7a400501c2e034c066fa79176bd"), looks := false }, kinds := [], alts := [], laidByText := true, laidKinds := [.data, .data, .data], laidTests := true, laidLooks := .later }
def CapDerivesUptoCardSaid : Prop := Claim7.holds Tryd.pinned (.plain (OpenSpec.upto capDerivesSpec)) capDerivesUptoCard

/-- THE SECOND FORM's CARD OF 'garrisonlaw03.CapBack'. -/
def capBackUptoCard : Claim7 := { stood := { row := capBackUptoRow, standIns := [], harness := (true, "e11649a09b97e4a78d4589b3e409a3aca209d7a400501c2e034c066fa79176bd"), looks := false }, kinds := [], alts := [], laidByText := true, laidKinds := [.data, .data, .data], laidTests := true, laidLooks := .later }
def CapBackUptoCardSaid : Prop := Claim7.holds Tryd.pinned (.plain (OpenSpec.upto capBackSpec)) capBackUptoCard

/-- THE SECOND FORM's CARD OF 'garrisonlaw03.CapNever'. -/
def capNeverUptoCard : Claim7 := { stood := { row := capNeverUptoRow, standIns := [], harness := (true, "e11649a09b97e4a78d4589b3e409a3aca209d7a400501c2e034c066fa79176bd"), looks := false }, kinds := [], alts := [], laidByText := true, laidKinds := [.data, .data, .data], laidTests := true, laidLooks := .later }
def CapNeverUptoCardSaid : Prop := Claim7.holds Tryd.pinned (.plain (OpenSpec.upto capNeverSpec)) capNeverUptoCard

/-- THE SECOND FORM's CARD OF 'garrisonlaw03.CapNames'. -/
def capNamesUptoCard : Claim7 := { stood := { row := capNamesUptoRow, standIns := [], harness := (true, "e11649a09b97e4a78d4589b3e409a3aca209d7a400501c2e034c066fa79176bd"), looks := false }, kinds := [], alts := [], laidByText := true, laidKinds := [.data, .data, .data], laidTests := true, laidLooks := .later }
def CapNamesUptoCardSaid : Prop := Claim7.holds Tryd.pinned (.plain (OpenSpec.upto capNamesSpec)) capNamesUptoCard

/-- THE SECOND FORM's CARD OF 'garrisonlaw03.CapTexts'. -/
def capTextsUptoCard : Claim7 := { stood := { row := capTextsUptoRow, standIns := [], harness := (true, "e11649a09b97e4a78d4589b3e409a3aca209d7a400501c2e034c066fa79176bd"), looks := false }, kinds := [], alts := [], laidByText := true, laidKinds := [.data, .data, .data], laidTests := true, laidLooks := .later }
def CapTextsUptoCardSaid : Prop := Claim7.holds Tryd.pinned (.plain (OpenSpec.upto capTextsSpec)) capTextsUptoCard

/-- THE SECOND FORM's CARD OF 'garrisonlaw03.CapTwice'. -/
def capTwiceUptoCard : Claim7 := { stood := { row := capTwiceUptoRow, standIns := [], harness := (true, "e11649a09b97e4a78d4589b3e409a3aca209d7a400501c2e034c066fa79176bd"), looks := false }, kinds := [], alts := [], laidByText := true, laidKinds := [.data, .data, .data], laidTests := true, laidLooks := .later }
def CapTwiceUptoCardSaid : Prop := Claim7.holds Tryd.pinned (.plain (OpenSpec.upto capTwiceSpec)) capTwiceUptoCard

/-- THE SECOND FORM's CARD OF 'garrisonlaw03.CapBits'. -/
def capBitsUptoCard : Claim7 := { stood := { row := capBitsUptoRow, standIns := [], harness := (true, "e11649a09b97e4a78d4589b3e409a3aca209d7a400501c2e034c066fa79176bd"), looks := false }, kinds := [], alts := [], laidByText := true, laidKinds := [.data, .data, .data], laidTests := true, laidLooks := .later }
def CapBitsUptoCardSaid : Prop := Claim7.holds Tryd.pinned (.plain (OpenSpec.upto capBitsSpec)) capBitsUptoCard
end Rows
end Go.Proofs.YtmcgdopgpjjkbaaDoor
