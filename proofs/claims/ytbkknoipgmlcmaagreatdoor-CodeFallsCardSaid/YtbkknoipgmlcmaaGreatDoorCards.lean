/-
  DERIVED. GIVEN WITH THE SEED: THE CARDS: each row of YtbkknoipgmlcmaaGreatDoorRows.lean that lists a variable, with what it lists TIED to the program's text (the seventh form; the later family's looks); each row that meets fmt, with fmt's text TOLD by the authors' own Lean function (tested against real Go, not proved from fmt's source: count such statements apart). THE CARD IS WHAT COUNTS. Prove the row's statement (the work); the ties are given (YtbkknoipgmlcmaaGreatDoorTie.lean); close each card by the builder's one call (the guide's Derived/Test/ToyasCard.lean, 'card_holds'). Laid BY PROGRAM, IN A SANDBOX (cutbox-door.mjs). By AI agents, Wed Nov 11 2026. No macro, syntax, notation, axiom, sorry.
-/
import Derived.Test.YtbkknoipgmlcmaaGreatDoorRows
import GoSem.ClaimSeven
namespace Go.Proofs.YtbkknoipgmlcmaaGreatDoor
namespace Rows

/-- THE TIED CARD OF 'fluxionlaw29.CodeChecks'. -/
def codeChecksCard : Claim7 := { stood := { row := codeChecksRow, standIns := [], harness := (true, "dce79a17d3d67b6534df688ed3253e1a1ec6ed82c2657e2f6b4a5fe81f8c7c2c"), looks := true }, kinds := [], alts := [], laidByText := true, laidKinds := [.data, .data, .data, .data, .data, .data, .data, .pinned], laidTests := true, laidLooks := .later }
def CodeChecksCardSaid : Prop := Claim7.holds Tryz.pinned (.plain (OpenSpec.ofChange codeChecksSpec)) codeChecksCard

/-- THE TIED CARD OF 'fluxionlaw29.CodeBytes'. -/
def codeBytesCard : Claim7 := { stood := { row := codeBytesRow, standIns := [], harness := (true, "dce79a17d3d67b6534df688ed3253e1a1ec6ed82c2657e2f6b4a5fe81f8c7c2c"), looks := true }, kinds := [], alts := [], laidByText := true, laidKinds := [.data, .data, .data, .data, .data, .data, .data, .pinned], laidTests := true, laidLooks := .later }
def CodeBytesCardSaid : Prop := Claim7.holds Tryz.pinned (.plain (OpenSpec.ofChange codeBytesSpec)) codeBytesCard

/-- THE TIED CARD OF 'fluxionlaw29.CodeParses'. -/
def codeParsesCard : Claim7 := { stood := { row := codeParsesRow, standIns := [], harness := (true, "dce79a17d3d67b6534df688ed3253e1a1ec6ed82c2657e2f6b4a5fe81f8c7c2c"), looks := true }, kinds := [], alts := [], laidByText := true, laidKinds := [.data, .data, .data, .data, .data, .data, .data, .pinned], laidTests := true, laidLooks := .later }
def CodeParsesCardSaid : Prop := Claim7.holds Tryz.pinned (.plain (OpenSpec.ofChange codeParsesSpec)) codeParsesCard

/-- THE TIED CARD OF 'fluxionlaw29.CodeChanged'. -/
def codeChangedCard : Claim7 := { stood := { row := codeChangedRow, standIns := [], harness := (true, "dce79a17d3d67b6534df688ed3253e1a1ec6ed82c2657e2f6b4a5fe81f8c7c2c"), looks := true }, kinds := [], alts := [], laidByText := true, laidKinds := [.data, .data, .data, .data, .data, .data, .data, .pinned], laidTests := true, laidLooks := .later }
def CodeChangedCardSaid : Prop := Claim7.holds Tryz.pinned (.plain (OpenSpec.ofChange codeChangedSpec)) codeChangedCard

/-- THE TIED CARD OF 'fluxionlaw29.CodeSame'. -/
def codeSameCard : Claim7 := { stood := { row := codeSameRow, standIns := [], harness := (true, "dce79a17d3d67b6534df688ed3253e1a1ec6ed82c2657e2f6b4a5fe81f8c7c2c"), looks := true }, kinds := [], alts := [], laidByText := true, laidKinds := [.data, .data, .data, .data, .data, .data, .data, .pinned], laidTests := true, laidLooks := .later }
def CodeSameCardSaid : Prop := Claim7.holds Tryz.pinned (.plain (OpenSpec.ofChange codeSameSpec)) codeSameCard

/-- THE TIED CARD OF 'fluxionlaw29.CodeFalls'. -/
def codeFallsCard : Claim7 := { stood := { row := codeFallsRow, standIns := [], harness := (true, "dce79a17d3d67b6534df688ed3253e1a1ec6ed82c2657e2f6b4a5fe81f8c7c2c"), looks := true }, kinds := [], alts := [], laidByText := true, laidKinds := [.data, .data, .data, .data, .data, .data, .data, .pinned], laidTests := true, laidLooks := .later }
def CodeFallsCardSaid : Prop := Claim7.holds Tryz.pinned (.plain (OpenSpec.ofChange codeFallsSpec)) codeFallsCard

/-- THE TIED CARD OF 'fluxionlaw29.CodeAssembles'. -/
def codeAssemblesCard : Claim7 := { stood := { row := codeAssemblesRow, standIns := [], harness := (true, "dce79a17d3d67b6534df688ed3253e1a1ec6ed82c2657e2f6b4a5fe81f8c7c2c"), looks := true }, kinds := [], alts := [], laidByText := true, laidKinds := [.data, .data, .data, .data, .sentinel, .sentinel, .data, .data, .data, .pinned], laidTests := true, laidLooks := .later }
def CodeAssemblesCardSaid : Prop := Claim7.holds Tryz.pinned (.plain (OpenSpec.ofChange codeAssemblesSpec)) codeAssemblesCard

/-- THE TIED CARD OF 'fluxionlaw29.CodeBack'. -/
def codeBackCard : Claim7 := { stood := { row := codeBackRow, standIns := [], harness := (true, "dce79a17d3d67b6534df688ed3253e1a1ec6ed82c2657e2f6b4a5fe81f8c7c2c"), looks := true }, kinds := [], alts := [], laidByText := true, laidKinds := [.data, .data, .data, .data, .sentinel, .sentinel, .data, .data, .data, .pinned], laidTests := true, laidLooks := .later }
def CodeBackCardSaid : Prop := Claim7.holds Tryz.pinned (.plain (OpenSpec.ofChange codeBackSpec)) codeBackCard

/-- THE SECOND FORM's CARD OF 'fluxionlaw29.CodeChecks'. -/
def codeChecksUptoCard : Claim7 := { stood := { row := codeChecksUptoRow, standIns := [], harness := (true, "dce79a17d3d67b6534df688ed3253e1a1ec6ed82c2657e2f6b4a5fe81f8c7c2c"), looks := true }, kinds := [], alts := [], laidByText := true, laidKinds := [.data, .data, .data, .data, .data, .data, .data, .pinned], laidTests := true, laidLooks := .later }
def CodeChecksUptoCardSaid : Prop := Claim7.holds Tryz.pinned (.plain (OpenSpec.upto codeChecksSpec)) codeChecksUptoCard

/-- THE SECOND FORM's CARD OF 'fluxionlaw29.CodeBytes'. -/
def codeBytesUptoCard : Claim7 := { stood := { row := codeBytesUptoRow, standIns := [], harness := (true, "dce79a17d3d67b6534df688ed3253e1a1ec6ed82c2657e2f6b4a5fe81f8c7c2c"), looks := true }, kinds := [], alts := [], laidByText := true, laidKinds := [.data, .data, .data, .data, .data, .data, .data, .pinned], laidTests := true, laidLooks := .later }
def CodeBytesUptoCardSaid : Prop := Claim7.holds Tryz.pinned (.plain (OpenSpec.upto codeBytesSpec)) codeBytesUptoCard

/-- THE SECOND FORM's CARD OF 'fluxionlaw29.CodeParses'. -/
def codeParsesUptoCard : Claim7 := { stood := { row := codeParsesUptoRow, standIns := [], harness := (true, "dce79a17d3d67b6534df688ed3253e1a1ec6ed82c2657e2f6b4a5fe81f8c7c2c"), looks := true }, kinds := [], alts := [], laidByText := true, laidKinds := [.data, .data, .data, .data, .data, .data, .data, .pinned], laidTests := true, laidLooks := .later }
def CodeParsesUptoCardSaid : Prop := Claim7.holds Tryz.pinned (.plain (OpenSpec.upto codeParsesSpec)) codeParsesUptoCard

/-- THE SECOND FORM's CARD OF 'fluxionlaw29.CodeChanged'. -/
def codeChangedUptoCard : Claim7 := { stood := { row := codeChangedUptoRow, standIns := [], harness := (true, "dce79a17d3d67b6534df688ed3253e1a1ec6ed82c2657e2f6b4a5fe81f8c7c2c"), looks := true }, kinds := [], alts := [], laidByText := true, laidKinds := [.data, .data, .data, .data, .data, .data, .data, .pinned], laidTests := true, laidLooks := .later }
def CodeChangedUptoCardSaid : Prop := Claim7.holds Tryz.pinned (.plain (OpenSpec.upto codeChangedSpec)) codeChangedUptoCard

/-- THE SECOND FORM's CARD OF 'fluxionlaw29.CodeSame'. -/
def codeSameUptoCard : Claim7 := { stood := { row := codeSameUptoRow, standIns := [], harness := (true, "dce79a17d3d67b6534df688ed3253e1a1ec6ed82c2657e2f6b4a5fe81f8c7c2c"), looks := true }, kinds := [], alts := [], laidByText := true, laidKinds := [.data, .data, .data, .data, .data, .data, .data, .pinned], laidTests := true, laidLooks := .later }
def CodeSameUptoCardSaid : Prop := Claim7.holds Tryz.pinned (.plain (OpenSpec.upto codeSameSpec)) codeSameUptoCard

/-- THE SECOND FORM's CARD OF 'fluxionlaw29.CodeFalls'. -/
def codeFallsUptoCard : Claim7 := { stood := { row := codeFallsUptoRow, standIns := [], harness := (true, "dce79a17d3d67b6534df688ed3253e1a1ec6ed82c2657e2f6b4a5fe81f8c7c2c"), looks := true }, kinds := [], alts := [], laidByText := true, laidKinds := [.data, .data, .data, .data, .data, .data, .data, .pinned], laidTests := true, laidLooks := .later }
def CodeFallsUptoCardSaid : Prop := Claim7.holds Tryz.pinned (.plain (OpenSpec.upto codeFallsSpec)) codeFallsUptoCard

/-- THE SECOND FORM's CARD OF 'fluxionlaw29.CodeAssembles'. -/
def codeAssemblesUptoCard : Claim7 := { stood := { row := codeAssemblesUptoRow, standIns := [], harness := (true, "dce79a17d3d67b6534df688ed3253e1a1ec6ed82c2657e2f6b4a5fe81f8c7c2c"), looks := true }, kinds := [], alts := [], laidByText := true, laidKinds := [.data, .data, .data, .data, .sentinel, .sentinel, .data, .data, .data, .pinned], laidTests := true, laidLooks := .later }
def CodeAssemblesUptoCardSaid : Prop := Claim7.holds Tryz.pinned (.plain (OpenSpec.upto codeAssemblesSpec)) codeAssemblesUptoCard

/-- THE SECOND FORM's CARD OF 'fluxionlaw29.CodeBack'. -/
def codeBackUptoCard : Claim7 := { stood := { row := codeBackUptoRow, standIns := [], harness := (true, "dce79a17d3d67b6534df688ed3253e1a1ec6ed82c2657e2f6b4a5fe81f8c7c2c"), looks := true }, kinds := [], alts := [], laidByText := true, laidKinds := [.data, .data, .data, .data, .sentinel, .sentinel, .data, .data, .data, .pinned], laidTests := true, laidLooks := .later }
def CodeBackUptoCardSaid : Prop := Claim7.holds Tryz.pinned (.plain (OpenSpec.upto codeBackSpec)) codeBackUptoCard
end Rows
end Go.Proofs.YtbkknoipgmlcmaaGreatDoor
