/-
  DERIVED. GIVEN WITH THE SEED: THE CARDS: each row of YteobbnehdlcphaaDoorRows.lean that lists a variable, with what it lists TIED to the program's text (the seventh form; the later family's looks); each row that meets fmt, with fmt's text TOLD by the authors' own Lean function (tested against real Go, not proved from fmt's source: count such statements apart). THE CARD IS WHAT COUNTS. Prove the row's statement (the work); the ties are given (YteobbnehdlcphaaDoorTie.lean); close each card by the builder's one call (the guide's Derived/Test/ToyasCard.lean, 'card_holds'). Laid BY PROGRAM, IN A SANDBOX (cutbox-door.mjs). By AI agents, Wed Nov 11 2026. No macro, syntax, notation, axiom, sorry.
-/
import Derived.Test.YteobbnehdlcphaaDoorRows
import GoSem.ClaimSeven
namespace Go.Proofs.YteobbnehdlcphaaDoor
namespace Rows

/-- THE TIED CARD OF 'fluxionlaw04.TokenScans'. -/
def tokenScansCard : Claim7 := { stood := { row := tokenScansRow, standIns := [], harness := (true, "db71a10bfccf849f4730c469467be62aa5fcca6e6a05bb66422901129a89c71b"), looks := false }, kinds := [], alts := [], laidByText := true, laidKinds := [.widerDeep, .data], laidTests := true, laidLooks := .later }
def TokenScansCardSaid : Prop := Claim7.holds Tryd.pinned (.plain (OpenSpec.ofChange tokenScansSpec)) tokenScansCard

/-- THE TIED CARD OF 'fluxionlaw04.TokenPlaces'. -/
def tokenPlacesCard : Claim7 := { stood := { row := tokenPlacesRow, standIns := [], harness := (true, "db71a10bfccf849f4730c469467be62aa5fcca6e6a05bb66422901129a89c71b"), looks := false }, kinds := [], alts := [], laidByText := true, laidKinds := [.widerDeep, .data], laidTests := true, laidLooks := .later }
def TokenPlacesCardSaid : Prop := Claim7.holds Tryd.pinned (.plain (OpenSpec.ofChange tokenPlacesSpec)) tokenPlacesCard

/-- THE TIED CARD OF 'fluxionlaw04.TokenLines'. -/
def tokenLinesCard : Claim7 := { stood := { row := tokenLinesRow, standIns := [], harness := (true, "db71a10bfccf849f4730c469467be62aa5fcca6e6a05bb66422901129a89c71b"), looks := false }, kinds := [], alts := [], laidByText := true, laidKinds := [.widerDeep, .data], laidTests := true, laidLooks := .later }
def TokenLinesCardSaid : Prop := Claim7.holds Tryd.pinned (.plain (OpenSpec.ofChange tokenLinesSpec)) tokenLinesCard

/-- THE TIED CARD OF 'fluxionlaw04.TokenParts'. -/
def tokenPartsCard : Claim7 := { stood := { row := tokenPartsRow, standIns := [], harness := (true, "db71a10bfccf849f4730c469467be62aa5fcca6e6a05bb66422901129a89c71b"), looks := false }, kinds := [], alts := [], laidByText := true, laidKinds := [.widerDeep, .data], laidTests := true, laidLooks := .later }
def TokenPartsCardSaid : Prop := Claim7.holds Tryd.pinned (.plain (OpenSpec.ofChange tokenPartsSpec)) tokenPartsCard

/-- THE TIED CARD OF 'fluxionlaw04.TokenForms'. -/
def tokenFormsCard : Claim7 := { stood := { row := tokenFormsRow, standIns := [], harness := (true, "db71a10bfccf849f4730c469467be62aa5fcca6e6a05bb66422901129a89c71b"), looks := false }, kinds := [], alts := [], laidByText := true, laidKinds := [.widerDeep, .data], laidTests := true, laidLooks := .later }
def TokenFormsCardSaid : Prop := Claim7.holds Tryd.pinned (.plain (OpenSpec.ofChange tokenFormsSpec)) tokenFormsCard

/-- THE TIED CARD OF 'fluxionlaw04.TokenOrdered'. -/
def tokenOrderedCard : Claim7 := { stood := { row := tokenOrderedRow, standIns := [], harness := (true, "db71a10bfccf849f4730c469467be62aa5fcca6e6a05bb66422901129a89c71b"), looks := false }, kinds := [], alts := [], laidByText := true, laidKinds := [.widerDeep, .data], laidTests := true, laidLooks := .later }
def TokenOrderedCardSaid : Prop := Claim7.holds Tryd.pinned (.plain (OpenSpec.ofChange tokenOrderedSpec)) tokenOrderedCard

/-- THE TIED CARD OF 'fluxionlaw04.TokenApart'. -/
def tokenApartCard : Claim7 := { stood := { row := tokenApartRow, standIns := [], harness := (true, "db71a10bfccf849f4730c469467be62aa5fcca6e6a05bb66422901129a89c71b"), looks := false }, kinds := [], alts := [], laidByText := true, laidKinds := [.widerDeep, .data], laidTests := true, laidLooks := .later }
def TokenApartCardSaid : Prop := Claim7.holds Tryd.pinned (.plain (OpenSpec.ofChange tokenApartSpec)) tokenApartCard

/-- THE TIED CARD OF 'fluxionlaw04.TokenJoins'. -/
def tokenJoinsCard : Claim7 := { stood := { row := tokenJoinsRow, standIns := [], harness := (true, "db71a10bfccf849f4730c469467be62aa5fcca6e6a05bb66422901129a89c71b"), looks := false }, kinds := [], alts := [], laidByText := true, laidKinds := [.widerDeep, .data], laidTests := true, laidLooks := .later }
def TokenJoinsCardSaid : Prop := Claim7.holds Tryd.pinned (.plain (OpenSpec.ofChange tokenJoinsSpec)) tokenJoinsCard

/-- THE TIED CARD OF 'fluxionlaw04.TokenJoined'. -/
def tokenJoinedCard : Claim7 := { stood := { row := tokenJoinedRow, standIns := [], harness := (true, "db71a10bfccf849f4730c469467be62aa5fcca6e6a05bb66422901129a89c71b"), looks := false }, kinds := [], alts := [], laidByText := true, laidKinds := [.widerDeep, .data], laidTests := true, laidLooks := .later }
def TokenJoinedCardSaid : Prop := Claim7.holds Tryd.pinned (.plain (OpenSpec.ofChange tokenJoinedSpec)) tokenJoinedCard

/-- THE SECOND FORM's CARD OF 'fluxionlaw04.TokenScans'. -/
def tokenScansUptoCard : Claim7 := { stood := { row := tokenScansUptoRow, standIns := [], harness := (true, "db71a10bfccf849f4730c469467be62aa5fcca6e6a05bb66422901129a89c71b"), looks := false }, kinds := [], alts := [], laidByText := true, laidKinds := [.widerDeep, .data], laidTests := true, laidLooks := .later }
def TokenScansUptoCardSaid : Prop := Claim7.holds Tryd.pinned (.plain (OpenSpec.upto tokenScansSpec)) tokenScansUptoCard

/-- THE SECOND FORM's CARD OF 'fluxionlaw04.TokenPlaces'. -/
def tokenPlacesUptoCard : Claim7 := { stood := { row := tokenPlacesUptoRow, standIns := [], harness := (true, "db71a10bfccf849f4730c469467be62aa5fcca6e6a05bb66422901129a89c71b"), looks := false }, kinds := [], alts := [], laidByText := true, laidKinds := [.widerDeep, .data], laidTests := true, laidLooks := .later }
def TokenPlacesUptoCardSaid : Prop := Claim7.holds Tryd.pinned (.plain (OpenSpec.upto tokenPlacesSpec)) tokenPlacesUptoCard

/-- THE SECOND FORM's CARD OF 'fluxionlaw04.TokenLines'. -/
def tokenLinesUptoCard : Claim7 := { stood := { row := tokenLinesUptoRow, standIns := [], harness := (true, "db71a10bfccf849f4730c469467be62aa5fcca6e6a05bb66422901129a89c71b"), looks := false }, kinds := [], alts := [], laidByText := true, laidKinds := [.widerDeep, .data], laidTests := true, laidLooks := .later }
def TokenLinesUptoCardSaid : Prop := Claim7.holds Tryd.pinned (.plain (OpenSpec.upto tokenLinesSpec)) tokenLinesUptoCard

/-- THE SECOND FORM's CARD OF 'fluxionlaw04.TokenParts'. -/
def tokenPartsUptoCard : Claim7 := { stood := { row := tokenPartsUptoRow, standIns := [], harness := (true, "db71a10bfccf849f4730c469467be62aa5fcca6e6a05bb66422901129a89c71b"), looks := false }, kinds := [], alts := [], laidByText := true, laidKinds := [.widerDeep, .data], laidTests := true, laidLooks := .later }
def TokenPartsUptoCardSaid : Prop := Claim7.holds Tryd.pinned (.plain (OpenSpec.upto tokenPartsSpec)) tokenPartsUptoCard

/-- THE SECOND FORM's CARD OF 'fluxionlaw04.TokenForms'. -/
def tokenFormsUptoCard : Claim7 := { stood := { row := tokenFormsUptoRow, standIns := [], harness := (true, "db71a10bfccf849f4730c469467be62aa5fcca6e6a05bb66422901129a89c71b"), looks := false }, kinds := [], alts := [], laidByText := true, laidKinds := [.widerDeep, .data], laidTests := true, laidLooks := .later }
def TokenFormsUptoCardSaid : Prop := Claim7.holds Tryd.pinned (.plain (OpenSpec.upto tokenFormsSpec)) tokenFormsUptoCard

/-- THE SECOND FORM's CARD OF 'fluxionlaw04.TokenOrdered'. -/
def tokenOrderedUptoCard : Claim7 := { stood := { row := tokenOrderedUptoRow, standIns := [], harness := (true, "db71a10bfccf849f4730c469467be62aa5fcca6e6a05bb66422901129a89c71b"), looks := false }, kinds := [], alts := [], laidByText := true, laidKinds := [.widerDeep, .data], laidTests := true, laidLooks := .later }
def TokenOrderedUptoCardSaid : Prop := Claim7.holds Tryd.pinned (.plain (OpenSpec.upto tokenOrderedSpec)) tokenOrderedUptoCard

/-- THE SECOND FORM's CARD OF 'fluxionlaw04.TokenApart'. -/
def tokenApartUptoCard : Claim7 := { stood := { row := tokenApartUptoRow, standIns := [], harness := (true, "db71a10bfccf849f4730c469467be62aa5fcca6e6a05bb66422901129a89c71b"), looks := false }, kinds := [], alts := [], laidByText := true, laidKinds := [.widerDeep, .data], laidTests := true, laidLooks := .later }
def TokenApartUptoCardSaid : Prop := Claim7.holds Tryd.pinned (.plain (OpenSpec.upto tokenApartSpec)) tokenApartUptoCard

/-- THE SECOND FORM's CARD OF 'fluxionlaw04.TokenJoins'. -/
def tokenJoinsUptoCard : Claim7 := { stood := { row := tokenJoinsUptoRow, standIns := [], harness := (true, "db71a10bfccf849f4730c469467be62aa5fcca6e6a05bb66422901129a89c71b"), looks := false }, kinds := [], alts := [], laidByText := true, laidKinds := [.widerDeep, .data], laidTests := true, laidLooks := .later }
def TokenJoinsUptoCardSaid : Prop := Claim7.holds Tryd.pinned (.plain (OpenSpec.upto tokenJoinsSpec)) tokenJoinsUptoCard

/-- THE SECOND FORM's CARD OF 'fluxionlaw04.TokenJoined'. -/
def tokenJoinedUptoCard : Claim7 := { stood := { row := tokenJoinedUptoRow, standIns := [], harness := (true, "db71a10bfccf849f4730c469467be62aa5fcca6e6a05bb66422901129a89c71b"), looks := false }, kinds := [], alts := [], laidByText := true, laidKinds := [.widerDeep, .data], laidTests := true, laidLooks := .later }
def TokenJoinedUptoCardSaid : Prop := Claim7.holds Tryd.pinned (.plain (OpenSpec.upto tokenJoinedSpec)) tokenJoinedUptoCard
end Rows
end Go.Proofs.YteobbnehdlcphaaDoor
