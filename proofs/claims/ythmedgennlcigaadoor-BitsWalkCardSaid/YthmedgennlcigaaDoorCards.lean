/-
  DERIVED. GIVEN WITH THE SEED: THE CARDS: each row of YthmedgennlcigaaDoorRows.lean that lists a variable, with what it lists TIED to the program's text (the seventh form; the later family's looks); each row that meets fmt, with fmt's text TOLD by the authors' own Lean function (tested against real Go, not proved from fmt's source: count such statements apart). THE CARD IS WHAT COUNTS. Prove the row's statement (the work); the ties are given (YthmedgennlcigaaDoorTie.lean); close each card by the builder's one call (the guide's Derived/Test/ToyasCard.lean, 'card_holds'). Laid BY PROGRAM, IN A SANDBOX (cutbox-door.mjs). By AI agents, Wed Nov 11 2026. No macro, syntax, notation, axiom, sorry.
-/
import Derived.Test.YthmedgennlcigaaDoorRows
import GoSem.ClaimSeven
namespace Go.Proofs.YthmedgennlcigaaDoor
namespace Rows

/-- THE TIED CARD OF 'garrisonlaw01.BitsFields'. -/
def bitsFieldsCard : Claim7 := { stood := { row := bitsFieldsRow, standIns := [], harness := (true, "4a7e9537ad6e398bbfb1c0e9870e8ff2fcbe0c3edc903def410fba8ed1553793"), looks := false }, kinds := [], alts := [], laidByText := true, laidKinds := [.data], laidTests := true, laidLooks := .later }
def BitsFieldsCardSaid : Prop := Claim7.holds Tryd.pinned (.plain (OpenSpec.ofChange bitsFieldsSpec)) bitsFieldsCard

/-- THE TIED CARD OF 'garrisonlaw01.BitsTexts'. -/
def bitsTextsCard : Claim7 := { stood := { row := bitsTextsRow, standIns := [], harness := (true, "4a7e9537ad6e398bbfb1c0e9870e8ff2fcbe0c3edc903def410fba8ed1553793"), looks := false }, kinds := [], alts := [], laidByText := true, laidKinds := [.data], laidTests := true, laidLooks := .later }
def BitsTextsCardSaid : Prop := Claim7.holds Tryd.pinned (.plain (OpenSpec.ofChange bitsTextsSpec)) bitsTextsCard

/-- THE TIED CARD OF 'garrisonlaw01.BitsBack'. -/
def bitsBackCard : Claim7 := { stood := { row := bitsBackRow, standIns := [], harness := (true, "4a7e9537ad6e398bbfb1c0e9870e8ff2fcbe0c3edc903def410fba8ed1553793"), looks := false }, kinds := [], alts := [], laidByText := true, laidKinds := [.data], laidTests := true, laidLooks := .later }
def BitsBackCardSaid : Prop := Claim7.holds Tryd.pinned (.plain (OpenSpec.ofChange bitsBackSpec)) bitsBackCard

/-- THE TIED CARD OF 'garrisonlaw01.BitsApart'. -/
def bitsApartCard : Claim7 := { stood := { row := bitsApartRow, standIns := [], harness := (true, "4a7e9537ad6e398bbfb1c0e9870e8ff2fcbe0c3edc903def410fba8ed1553793"), looks := false }, kinds := [], alts := [], laidByText := true, laidKinds := [.data], laidTests := true, laidLooks := .later }
def BitsApartCardSaid : Prop := Claim7.holds Tryd.pinned (.plain (OpenSpec.ofChange bitsApartSpec)) bitsApartCard

/-- THE TIED CARD OF 'garrisonlaw01.BitsRises'. -/
def bitsRisesCard : Claim7 := { stood := { row := bitsRisesRow, standIns := [], harness := (true, "4a7e9537ad6e398bbfb1c0e9870e8ff2fcbe0c3edc903def410fba8ed1553793"), looks := false }, kinds := [], alts := [], laidByText := true, laidKinds := [.data], laidTests := true, laidLooks := .later }
def BitsRisesCardSaid : Prop := Claim7.holds Tryd.pinned (.plain (OpenSpec.ofChange bitsRisesSpec)) bitsRisesCard

/-- THE TIED CARD OF 'garrisonlaw01.BitsCounts'. -/
def bitsCountsCard : Claim7 := { stood := { row := bitsCountsRow, standIns := [], harness := (true, "4a7e9537ad6e398bbfb1c0e9870e8ff2fcbe0c3edc903def410fba8ed1553793"), looks := false }, kinds := [], alts := [], laidByText := true, laidKinds := [.data], laidTests := true, laidLooks := .later }
def BitsCountsCardSaid : Prop := Claim7.holds Tryd.pinned (.plain (OpenSpec.ofChange bitsCountsSpec)) bitsCountsCard

/-- THE TIED CARD OF 'garrisonlaw01.BitsTwice'. -/
def bitsTwiceCard : Claim7 := { stood := { row := bitsTwiceRow, standIns := [], harness := (true, "4a7e9537ad6e398bbfb1c0e9870e8ff2fcbe0c3edc903def410fba8ed1553793"), looks := false }, kinds := [], alts := [], laidByText := true, laidKinds := [.data], laidTests := true, laidLooks := .later }
def BitsTwiceCardSaid : Prop := Claim7.holds Tryd.pinned (.plain (OpenSpec.ofChange bitsTwiceSpec)) bitsTwiceCard

/-- THE TIED CARD OF 'garrisonlaw01.BitsFinds'. -/
def bitsFindsCard : Claim7 := { stood := { row := bitsFindsRow, standIns := [], harness := (true, "4a7e9537ad6e398bbfb1c0e9870e8ff2fcbe0c3edc903def410fba8ed1553793"), looks := false }, kinds := [], alts := [], laidByText := true, laidKinds := [.data], laidTests := true, laidLooks := .later }
def BitsFindsCardSaid : Prop := Claim7.holds Tryd.pinned (.plain (OpenSpec.ofChange bitsFindsSpec)) bitsFindsCard

/-- THE TIED CARD OF 'garrisonlaw01.BitsWalk'. -/
def bitsWalkCard : Claim7 := { stood := { row := bitsWalkRow, standIns := [], harness := (true, "4a7e9537ad6e398bbfb1c0e9870e8ff2fcbe0c3edc903def410fba8ed1553793"), looks := false }, kinds := [], alts := [], laidByText := true, laidKinds := [.data], laidTests := true, laidLooks := .later }
def BitsWalkCardSaid : Prop := Claim7.holds Tryd.pinned (.plain (OpenSpec.ofChange bitsWalkSpec)) bitsWalkCard

/-- THE SECOND FORM's CARD OF 'garrisonlaw01.BitsFields'. -/
def bitsFieldsUptoCard : Claim7 := { stood := { row := bitsFieldsUptoRow, standIns := [], harness := (true, "4a7e9537ad6e398bbfb1c0e9870e8ff2fcbe0c3edc903def410fba8ed1553793"), looks := false }, kinds := [], alts := [], laidByText := true, laidKinds := [.data], laidTests := true, laidLooks := .later }
def BitsFieldsUptoCardSaid : Prop := Claim7.holds Tryd.pinned (.plain (OpenSpec.upto bitsFieldsSpec)) bitsFieldsUptoCard

/-- THE SECOND FORM's CARD OF 'garrisonlaw01.BitsTexts'. -/
def bitsTextsUptoCard : Claim7 := { stood := { row := bitsTextsUptoRow, standIns := [], harness := (true, "4a7e9537ad6e398bbfb1c0e9870e8ff2fcbe0c3edc903def410fba8ed1553793"), looks := false }, kinds := [], alts := [], laidByText := true, laidKinds := [.data], laidTests := true, laidLooks := .later }
def BitsTextsUptoCardSaid : Prop := Claim7.holds Tryd.pinned (.plain (OpenSpec.upto bitsTextsSpec)) bitsTextsUptoCard

/-- THE SECOND FORM's CARD OF 'garrisonlaw01.BitsBack'. -/
def bitsBackUptoCard : Claim7 := { stood := { row := bitsBackUptoRow, standIns := [], harness := (true, "4a7e9537ad6e398bbfb1c0e9870e8ff2fcbe0c3edc903def410fba8ed1553793"), looks := false }, kinds := [], alts := [], laidByText := true, laidKinds := [.data], laidTests := true, laidLooks := .later }
def BitsBackUptoCardSaid : Prop := Claim7.holds Tryd.pinned (.plain (OpenSpec.upto bitsBackSpec)) bitsBackUptoCard

/-- THE SECOND FORM's CARD OF 'garrisonlaw01.BitsApart'. -/
def bitsApartUptoCard : Claim7 := { stood := { row := bitsApartUptoRow, standIns := [], harness := (true, "4a7e9537ad6e398bbfb1c0e9870e8ff2fcbe0c3edc903def410fba8ed1553793"), looks := false }, kinds := [], alts := [], laidByText := true, laidKinds := [.data], laidTests := true, laidLooks := .later }
def BitsApartUptoCardSaid : Prop := Claim7.holds Tryd.pinned (.plain (OpenSpec.upto bitsApartSpec)) bitsApartUptoCard

/-- THE SECOND FORM's CARD OF 'garrisonlaw01.BitsRises'. -/
def bitsRisesUptoCard : Claim7 := { stood := { row := bitsRisesUptoRow, standIns := [], harness := (true, "4a7e9537ad6e398bbfb1c0e9870e8ff2fcbe0c3edc903def410fba8ed1553793"), looks := false }, kinds := [], alts := [], laidByText := true, laidKinds := [.data], laidTests := true, laidLooks := .later }
def BitsRisesUptoCardSaid : Prop := Claim7.holds Tryd.pinned (.plain (OpenSpec.upto bitsRisesSpec)) bitsRisesUptoCard

/-- THE SECOND FORM's CARD OF 'garrisonlaw01.BitsCounts'. -/
def bitsCountsUptoCard : Claim7 := { stood := { row := bitsCountsUptoRow, standIns := [], harness := (true, "4a7e9537ad6e398bbfb1c0e9870e8ff2fcbe0c3edc903def410fba8ed1553793"), looks := false }, kinds := [], alts := [], laidByText := true, laidKinds := [.data], laidTests := true, laidLooks := .later }
def BitsCountsUptoCardSaid : Prop := Claim7.holds Tryd.pinned (.plain (OpenSpec.upto bitsCountsSpec)) bitsCountsUptoCard

/-- THE SECOND FORM's CARD OF 'garrisonlaw01.BitsTwice'. -/
def bitsTwiceUptoCard : Claim7 := { stood := { row := bitsTwiceUptoRow, standIns := [], harness := (true, "4a7e9537ad6e398bbfb1c0e9870e8ff2fcbe0c3edc903def410fba8ed1553793"), looks := false }, kinds := [], alts := [], laidByText := true, laidKinds := [.data], laidTests := true, laidLooks := .later }
def BitsTwiceUptoCardSaid : Prop := Claim7.holds Tryd.pinned (.plain (OpenSpec.upto bitsTwiceSpec)) bitsTwiceUptoCard

/-- THE SECOND FORM's CARD OF 'garrisonlaw01.BitsFinds'. -/
def bitsFindsUptoCard : Claim7 := { stood := { row := bitsFindsUptoRow, standIns := [], harness := (true, "4a7e9537ad6e398bbfb1c0e9870e8ff2fcbe0c3edc903def410fba8ed1553793"), looks := false }, kinds := [], alts := [], laidByText := true, laidKinds := [.data], laidTests := true, laidLooks := .later }
def BitsFindsUptoCardSaid : Prop := Claim7.holds Tryd.pinned (.plain (OpenSpec.upto bitsFindsSpec)) bitsFindsUptoCard

/-- THE SECOND FORM's CARD OF 'garrisonlaw01.BitsWalk'. -/
def bitsWalkUptoCard : Claim7 := { stood := { row := bitsWalkUptoRow, standIns := [], harness := (true, "4a7e9537ad6e398bbfb1c0e9870e8ff2fcbe0c3edc903def410fba8ed1553793"), looks := false }, kinds := [], alts := [], laidByText := true, laidKinds := [.data], laidTests := true, laidLooks := .later }
def BitsWalkUptoCardSaid : Prop := Claim7.holds Tryd.pinned (.plain (OpenSpec.upto bitsWalkSpec)) bitsWalkUptoCard
end Rows
end Go.Proofs.YthmedgennlcigaaDoor
