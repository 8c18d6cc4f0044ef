/-
  NARROWER THAN 'FOR EVERY INPUT', by the rows' own cells (each row's printed sentence says how): TokenScans: laid · TokenPlaces: laid · TokenLines: laid · TokenParts: laid · TokenForms: laid · TokenOrdered: laid · TokenApart: laid · TokenJoins: laid · TokenJoined: laid.
  DERIVED. THE GIVEN ROWS OF THIS SEAT. 9 by the template 'for every input the law returns true; each argument reads behind the call as it read before'; 0 by the template 'total and deterministic' (their statements: YteobbnehdlcphaaDoorTotals.lean).
  GIVEN WITH THE SEED: the statements are not yours to turn. If you find one false, say at which input.
  Laid BY PROGRAM, IN A SANDBOX (cutbox-rows.mjs): the forced cells as the released guide's own fill.sh prints them over the translation e22fa0821b0fa5a1… (all of the seat's roots in one cut). By AI agents, Wed Nov 11 2026. No macro, syntax, notation, axiom, sorry.
-/
import Derived.Test.YteobbnehdlcphaaDoorChecked
import GoSem.Claim
import GoSem.ClaimJoined
import GoSem.ClaimMapViews
import Derived.JoinedTies
import Derived.KernelRfl
namespace Go.Proofs.YteobbnehdlcphaaDoor
/- THE CELL 'sum', in the pinned program and in every row, IS THE sha256 OF THE DUMP (.gsa) THAT YteobbnehdlcphaaDoorProg.lean LOADS. Nothing in Lean hashes anything: it is a label: what it is worth is what the hold of that sum in a sandbox is worth. -/
noncomputable def Tryd.pinned : Pinned := { name := "yteobbnehdlcphaadoor", sum := "e22fa0821b0fa5a1dd6770f72b63a3c22cc7d09eaed51010959e482a2f5de5f4", checked := Tryd.checked }
namespace Rows
def none {H : Type} : Left H := { results := [], args := [] }

/- WHAT THE LISTED PACKAGE-LEVEL VARIABLES READ AS WHEN THE CALL BEGINS. Each datum BY PROGRAM (the guide's laid-datum.mjs) off the statement by which the dump's own 'gosem.cut.vars' lays the variable. In a bare row this is a premise. The card (YteobbnehdlcphaaDoorCards.lean) ties it to the program's text. -/
def laid_fluxion_token_words {H : Type} : DataW H := .slice [.lit (.string [100, 101, 102]), .lit (.string [108, 101, 116]), .lit (.string [105, 110]), .lit (.string [105, 102]), .lit (.string [116, 104, 101, 110]), .lit (.string [101, 108, 115, 101]), .lit (.string [101, 97, 99, 104]), .lit (.string [115, 117, 109]), .lit (.string [102, 111, 108, 100]), .lit (.string [100, 111, 119, 110]), .lit (.string [114, 101, 97, 108]), .lit (.string [102, 108, 97, 103]), .lit (.string [97, 110, 100]), .lit (.string [111, 114]), .lit (.string [110, 111, 116]), .lit (.string [121, 101, 115]), .lit (.string [110, 111])] []
def laid_fluxion_token_signs {H : Type} : DataW H := .slice [.lit (.string [45, 62]), .lit (.string [60, 61]), .lit (.string [40]), .lit (.string [41]), .lit (.string [91]), .lit (.string [93]), .lit (.string [123]), .lit (.string [125]), .lit (.string [44]), .lit (.string [58]), .lit (.string [59]), .lit (.string [61]), .lit (.string [60]), .lit (.string [43]), .lit (.string [45]), .lit (.string [42]), .lit (.string [47])] []

/-- 'fluxionlaw04.TokenScans': WHATEVER THE INPUT: true; the input reads as it did. -/
def tokenScansSpec : ChangeSpec := { name := "tokenScans", fn := fun _ => fun
  | [d] => { results := [.lit (.bool true)], args := [d] }
  | _ => none }
def tokenScansRow : OpenClaim := { program := "yteobbnehdlcphaadoor", sum := "e22fa0821b0fa5a1dd6770f72b63a3c22cc7d09eaed51010959e482a2f5de5f4", func := "fluxion/fluxionlaw04.TokenScans", spec := "tokenScans", inPlace := ["internal/abi.NoEscape", "internal/bytealg.CountString", "internal/bytealg.IndexByteString", "internal/bytealg.IndexString"], unfollowed := true, recurses := true, named := ["fluxion/token.words", "fluxion/token.signs", "internal/bytealg.MaxLen"], apart := false, laid := [("fluxion/token.words", laid_fluxion_token_words), ("fluxion/token.signs", laid_fluxion_token_signs)] }
def TokenScansSaid : Prop := tokenScansRow.holds Tryd.pinned (OpenSpec.ofChange tokenScansSpec)

/-- ITS FALSE NEIGHBOUR: 'it returns false'. Refute it at one input. -/
def tokenScansWrong : ChangeSpec := { name := "tokenScans", fn := fun _ => fun
  | [d] => { results := [.lit (.bool false)], args := [d] }
  | _ => none }
def TokenScansWrongFalsely : Prop := tokenScansRow.holds Tryd.pinned (OpenSpec.ofChange tokenScansWrong)

/-- 'fluxionlaw04.TokenPlaces': WHATEVER THE INPUT: true; the input reads as it did. -/
def tokenPlacesSpec : ChangeSpec := { name := "tokenPlaces", fn := fun _ => fun
  | [d1, d2] => { results := [.lit (.bool true)], args := [d1, d2] }
  | _ => none }
def tokenPlacesRow : OpenClaim := { program := "yteobbnehdlcphaadoor", sum := "e22fa0821b0fa5a1dd6770f72b63a3c22cc7d09eaed51010959e482a2f5de5f4", func := "fluxion/fluxionlaw04.TokenPlaces", spec := "tokenPlaces", inPlace := ["internal/bytealg.CountString", "internal/bytealg.IndexByteString", "internal/bytealg.IndexString", "internal/abi.NoEscape"], unfollowed := true, recurses := true, named := ["internal/bytealg.MaxLen", "fluxion/token.words", "fluxion/token.signs"], apart := false, laid := [("fluxion/token.words", laid_fluxion_token_words), ("fluxion/token.signs", laid_fluxion_token_signs)] }
def TokenPlacesSaid : Prop := tokenPlacesRow.holds Tryd.pinned (OpenSpec.ofChange tokenPlacesSpec)

/-- ITS FALSE NEIGHBOUR: 'it returns false'. Refute it at one input. -/
def tokenPlacesWrong : ChangeSpec := { name := "tokenPlaces", fn := fun _ => fun
  | [d1, d2] => { results := [.lit (.bool false)], args := [d1, d2] }
  | _ => none }
def TokenPlacesWrongFalsely : Prop := tokenPlacesRow.holds Tryd.pinned (OpenSpec.ofChange tokenPlacesWrong)

/-- 'fluxionlaw04.TokenLines': WHATEVER THE INPUT: true; the input reads as it did. -/
def tokenLinesSpec : ChangeSpec := { name := "tokenLines", fn := fun _ => fun
  | [d1, d2, d3] => { results := [.lit (.bool true)], args := [d1, d2, d3] }
  | _ => none }
def tokenLinesRow : OpenClaim := { program := "yteobbnehdlcphaadoor", sum := "e22fa0821b0fa5a1dd6770f72b63a3c22cc7d09eaed51010959e482a2f5de5f4", func := "fluxion/fluxionlaw04.TokenLines", spec := "tokenLines", inPlace := ["internal/bytealg.CountString", "internal/bytealg.IndexByteString", "internal/bytealg.IndexString", "internal/abi.NoEscape"], unfollowed := true, recurses := true, named := ["internal/bytealg.MaxLen", "fluxion/token.words", "fluxion/token.signs"], apart := false, laid := [("fluxion/token.words", laid_fluxion_token_words), ("fluxion/token.signs", laid_fluxion_token_signs)] }
def TokenLinesSaid : Prop := tokenLinesRow.holds Tryd.pinned (OpenSpec.ofChange tokenLinesSpec)

/-- ITS FALSE NEIGHBOUR: 'it returns false'. Refute it at one input. -/
def tokenLinesWrong : ChangeSpec := { name := "tokenLines", fn := fun _ => fun
  | [d1, d2, d3] => { results := [.lit (.bool false)], args := [d1, d2, d3] }
  | _ => none }
def TokenLinesWrongFalsely : Prop := tokenLinesRow.holds Tryd.pinned (OpenSpec.ofChange tokenLinesWrong)

/-- 'fluxionlaw04.TokenParts': WHATEVER THE INPUT: true; the input reads as it did. -/
def tokenPartsSpec : ChangeSpec := { name := "tokenParts", fn := fun _ => fun
  | [d1, d2] => { results := [.lit (.bool true)], args := [d1, d2] }
  | _ => none }
def tokenPartsRow : OpenClaim := { program := "yteobbnehdlcphaadoor", sum := "e22fa0821b0fa5a1dd6770f72b63a3c22cc7d09eaed51010959e482a2f5de5f4", func := "fluxion/fluxionlaw04.TokenParts", spec := "tokenParts", inPlace := ["internal/abi.NoEscape", "internal/bytealg.CountString", "internal/bytealg.IndexByteString", "internal/bytealg.IndexString"], unfollowed := true, recurses := true, named := ["fluxion/token.words", "fluxion/token.signs", "internal/bytealg.MaxLen"], apart := false, laid := [("fluxion/token.words", laid_fluxion_token_words), ("fluxion/token.signs", laid_fluxion_token_signs)] }
def TokenPartsSaid : Prop := tokenPartsRow.holds Tryd.pinned (OpenSpec.ofChange tokenPartsSpec)

/-- ITS FALSE NEIGHBOUR: 'it returns false'. Refute it at one input. -/
def tokenPartsWrong : ChangeSpec := { name := "tokenParts", fn := fun _ => fun
  | [d1, d2] => { results := [.lit (.bool false)], args := [d1, d2] }
  | _ => none }
def TokenPartsWrongFalsely : Prop := tokenPartsRow.holds Tryd.pinned (OpenSpec.ofChange tokenPartsWrong)

/-- 'fluxionlaw04.TokenForms': WHATEVER THE INPUT: true; the input reads as it did. -/
def tokenFormsSpec : ChangeSpec := { name := "tokenForms", fn := fun _ => fun
  | [d] => { results := [.lit (.bool true)], args := [d] }
  | _ => none }
def tokenFormsRow : OpenClaim := { program := "yteobbnehdlcphaadoor", sum := "e22fa0821b0fa5a1dd6770f72b63a3c22cc7d09eaed51010959e482a2f5de5f4", func := "fluxion/fluxionlaw04.TokenForms", spec := "tokenForms", inPlace := ["internal/abi.NoEscape", "internal/bytealg.CountString", "internal/bytealg.IndexByteString", "internal/bytealg.IndexString"], unfollowed := true, recurses := true, named := ["fluxion/token.words", "fluxion/token.signs", "internal/bytealg.MaxLen"], apart := false, laid := [("fluxion/token.words", laid_fluxion_token_words), ("fluxion/token.signs", laid_fluxion_token_signs)] }
def TokenFormsSaid : Prop := tokenFormsRow.holds Tryd.pinned (OpenSpec.ofChange tokenFormsSpec)

/-- ITS FALSE NEIGHBOUR: 'it returns false'. Refute it at one input. -/
def tokenFormsWrong : ChangeSpec := { name := "tokenForms", fn := fun _ => fun
  | [d] => { results := [.lit (.bool false)], args := [d] }
  | _ => none }
def TokenFormsWrongFalsely : Prop := tokenFormsRow.holds Tryd.pinned (OpenSpec.ofChange tokenFormsWrong)

/-- 'fluxionlaw04.TokenOrdered': WHATEVER THE INPUT: true; the input reads as it did. -/
def tokenOrderedSpec : ChangeSpec := { name := "tokenOrdered", fn := fun _ => fun
  | [d] => { results := [.lit (.bool true)], args := [d] }
  | _ => none }
def tokenOrderedRow : OpenClaim := { program := "yteobbnehdlcphaadoor", sum := "e22fa0821b0fa5a1dd6770f72b63a3c22cc7d09eaed51010959e482a2f5de5f4", func := "fluxion/fluxionlaw04.TokenOrdered", spec := "tokenOrdered", inPlace := ["internal/abi.NoEscape", "internal/bytealg.CountString", "internal/bytealg.IndexByteString", "internal/bytealg.IndexString"], unfollowed := true, recurses := true, named := ["fluxion/token.words", "fluxion/token.signs", "internal/bytealg.MaxLen"], apart := false, laid := [("fluxion/token.words", laid_fluxion_token_words), ("fluxion/token.signs", laid_fluxion_token_signs)] }
def TokenOrderedSaid : Prop := tokenOrderedRow.holds Tryd.pinned (OpenSpec.ofChange tokenOrderedSpec)

/-- ITS FALSE NEIGHBOUR: 'it returns false'. Refute it at one input. -/
def tokenOrderedWrong : ChangeSpec := { name := "tokenOrdered", fn := fun _ => fun
  | [d] => { results := [.lit (.bool false)], args := [d] }
  | _ => none }
def TokenOrderedWrongFalsely : Prop := tokenOrderedRow.holds Tryd.pinned (OpenSpec.ofChange tokenOrderedWrong)

/-- 'fluxionlaw04.TokenApart': WHATEVER THE INPUT: true; the input reads as it did. -/
def tokenApartSpec : ChangeSpec := { name := "tokenApart", fn := fun _ => fun
  | [d1, d2] => { results := [.lit (.bool true)], args := [d1, d2] }
  | _ => none }
def tokenApartRow : OpenClaim := { program := "yteobbnehdlcphaadoor", sum := "e22fa0821b0fa5a1dd6770f72b63a3c22cc7d09eaed51010959e482a2f5de5f4", func := "fluxion/fluxionlaw04.TokenApart", spec := "tokenApart", inPlace := ["internal/abi.NoEscape", "internal/bytealg.CountString", "internal/bytealg.IndexByteString", "internal/bytealg.IndexString"], unfollowed := true, recurses := true, named := ["fluxion/token.words", "fluxion/token.signs", "internal/bytealg.MaxLen"], apart := false, laid := [("fluxion/token.words", laid_fluxion_token_words), ("fluxion/token.signs", laid_fluxion_token_signs)] }
def TokenApartSaid : Prop := tokenApartRow.holds Tryd.pinned (OpenSpec.ofChange tokenApartSpec)

/-- ITS FALSE NEIGHBOUR: 'it returns false'. Refute it at one input. -/
def tokenApartWrong : ChangeSpec := { name := "tokenApart", fn := fun _ => fun
  | [d1, d2] => { results := [.lit (.bool false)], args := [d1, d2] }
  | _ => none }
def TokenApartWrongFalsely : Prop := tokenApartRow.holds Tryd.pinned (OpenSpec.ofChange tokenApartWrong)

/-- 'fluxionlaw04.TokenJoins': WHATEVER THE INPUT: true; the input reads as it did. -/
def tokenJoinsSpec : ChangeSpec := { name := "tokenJoins", fn := fun _ => fun
  | [d1, d2] => { results := [.lit (.bool true)], args := [d1, d2] }
  | _ => none }
def tokenJoinsRow : OpenClaim := { program := "yteobbnehdlcphaadoor", sum := "e22fa0821b0fa5a1dd6770f72b63a3c22cc7d09eaed51010959e482a2f5de5f4", func := "fluxion/fluxionlaw04.TokenJoins", spec := "tokenJoins", inPlace := ["internal/abi.NoEscape", "internal/bytealg.CountString", "internal/bytealg.IndexByteString", "internal/bytealg.IndexString"], unfollowed := true, recurses := true, named := ["fluxion/token.words", "fluxion/token.signs", "internal/bytealg.MaxLen"], apart := false, laid := [("fluxion/token.words", laid_fluxion_token_words), ("fluxion/token.signs", laid_fluxion_token_signs)] }
def TokenJoinsSaid : Prop := tokenJoinsRow.holds Tryd.pinned (OpenSpec.ofChange tokenJoinsSpec)

/-- ITS FALSE NEIGHBOUR: 'it returns false'. Refute it at one input. -/
def tokenJoinsWrong : ChangeSpec := { name := "tokenJoins", fn := fun _ => fun
  | [d1, d2] => { results := [.lit (.bool false)], args := [d1, d2] }
  | _ => none }
def TokenJoinsWrongFalsely : Prop := tokenJoinsRow.holds Tryd.pinned (OpenSpec.ofChange tokenJoinsWrong)

/-- 'fluxionlaw04.TokenJoined': WHATEVER THE INPUT: true; the input reads as it did. -/
def tokenJoinedSpec : ChangeSpec := { name := "tokenJoined", fn := fun _ => fun
  | [d1, d2] => { results := [.lit (.bool true)], args := [d1, d2] }
  | _ => none }
def tokenJoinedRow : OpenClaim := { program := "yteobbnehdlcphaadoor", sum := "e22fa0821b0fa5a1dd6770f72b63a3c22cc7d09eaed51010959e482a2f5de5f4", func := "fluxion/fluxionlaw04.TokenJoined", spec := "tokenJoined", inPlace := ["internal/abi.NoEscape", "internal/bytealg.CountString", "internal/bytealg.IndexByteString", "internal/bytealg.IndexString"], unfollowed := true, recurses := true, named := ["fluxion/token.words", "fluxion/token.signs", "internal/bytealg.MaxLen"], apart := false, laid := [("fluxion/token.words", laid_fluxion_token_words), ("fluxion/token.signs", laid_fluxion_token_signs)] }
def TokenJoinedSaid : Prop := tokenJoinedRow.holds Tryd.pinned (OpenSpec.ofChange tokenJoinedSpec)

/-- ITS FALSE NEIGHBOUR: 'it returns false'. Refute it at one input. -/
def tokenJoinedWrong : ChangeSpec := { name := "tokenJoined", fn := fun _ => fun
  | [d1, d2] => { results := [.lit (.bool false)], args := [d1, d2] }
  | _ => none }
def TokenJoinedWrongFalsely : Prop := tokenJoinedRow.holds Tryd.pinned (OpenSpec.ofChange tokenJoinedWrong)

/- THE SECOND FORM. 'bulk': how many values and letters a reading holds, each counted each time it is reached (what is shared counts as often as it is met; a slice's spare places count too). A statement '..UptoSaid' is the law's where the arguments, and the package variables that the reading takes, are together of bulk at most 1048576: NARROWER than '..Said'. Prove '..Said' where nothing that the law and all that it calls make is longer than what came in: it says more and counts as full. Else prove '..UptoSaid'. A law counts once. -/
mutual
def uptoBulk {H : Type} : DataW H → Nat
  | .lit (.string bytes) => bytes.length + 1
  | .lit _ => 1
  | .nil => 1
  | .ptr d => uptoBulk d + 1
  | .slice elems spare => uptoBulkAll elems + uptoBulkAll spare + 1
  | .agg parts => uptoBulkAll parts + 1
  | .iface _ d => uptoBulk d + 1
  | .map entries => uptoBulkEntries entries + 1
  | .held _ => 1
def uptoBulkAll {H : Type} : List (DataW H) → Nat
  | [] => 0
  | d :: r => uptoBulk d + uptoBulkAll r
def uptoBulkEntries {H : Type} : List (Lit × DataW H) → Nat
  | [] => 0
  | x :: r => uptoBulkEntry x + uptoBulkEntries r
def uptoBulkEntry {H : Type} : Lit × DataW H → Nat
  | (.string bytes, d) => bytes.length + uptoBulk d + 1
  | (_, d) => uptoBulk d + 1
 end
def uptoSmall : (H : Type) → List (DataW H) → Bool := fun _ ds => decide (uptoBulkAll ds ≤ 1048576)
def OpenSpec.upto (s : _root_.Go.ChangeSpec) : _root_.Go.OpenSpec := { _root_.Go.OpenSpec.ofChange s with cond := some uptoSmall }

/-- 'fluxionlaw04.TokenScans', WHERE WHAT IT READS IS OF BULK AT MOST 1048576: true; the input reads as it did. -/
def tokenScansUptoRow : OpenClaim := { program := "yteobbnehdlcphaadoor", sum := "e22fa0821b0fa5a1dd6770f72b63a3c22cc7d09eaed51010959e482a2f5de5f4", func := "fluxion/fluxionlaw04.TokenScans", spec := "tokenScans", inPlace := ["internal/abi.NoEscape", "internal/bytealg.CountString", "internal/bytealg.IndexByteString", "internal/bytealg.IndexString"], unfollowed := true, recurses := true, named := ["fluxion/token.words", "fluxion/token.signs", "internal/bytealg.MaxLen"], apart := false, laid := [("fluxion/token.words", laid_fluxion_token_words), ("fluxion/token.signs", laid_fluxion_token_signs)], narrowed := true }
def TokenScansUptoSaid : Prop := tokenScansUptoRow.holds Tryd.pinned (OpenSpec.upto tokenScansSpec)

/-- 'fluxionlaw04.TokenPlaces', WHERE WHAT IT READS IS OF BULK AT MOST 1048576: true; the input reads as it did. -/
def tokenPlacesUptoRow : OpenClaim := { program := "yteobbnehdlcphaadoor", sum := "e22fa0821b0fa5a1dd6770f72b63a3c22cc7d09eaed51010959e482a2f5de5f4", func := "fluxion/fluxionlaw04.TokenPlaces", spec := "tokenPlaces", inPlace := ["internal/bytealg.CountString", "internal/bytealg.IndexByteString", "internal/bytealg.IndexString", "internal/abi.NoEscape"], unfollowed := true, recurses := true, named := ["internal/bytealg.MaxLen", "fluxion/token.words", "fluxion/token.signs"], apart := false, laid := [("fluxion/token.words", laid_fluxion_token_words), ("fluxion/token.signs", laid_fluxion_token_signs)], narrowed := true }
def TokenPlacesUptoSaid : Prop := tokenPlacesUptoRow.holds Tryd.pinned (OpenSpec.upto tokenPlacesSpec)

/-- 'fluxionlaw04.TokenLines', WHERE WHAT IT READS IS OF BULK AT MOST 1048576: true; the input reads as it did. -/
def tokenLinesUptoRow : OpenClaim := { program := "yteobbnehdlcphaadoor", sum := "e22fa0821b0fa5a1dd6770f72b63a3c22cc7d09eaed51010959e482a2f5de5f4", func := "fluxion/fluxionlaw04.TokenLines", spec := "tokenLines", inPlace := ["internal/bytealg.CountString", "internal/bytealg.IndexByteString", "internal/bytealg.IndexString", "internal/abi.NoEscape"], unfollowed := true, recurses := true, named := ["internal/bytealg.MaxLen", "fluxion/token.words", "fluxion/token.signs"], apart := false, laid := [("fluxion/token.words", laid_fluxion_token_words), ("fluxion/token.signs", laid_fluxion_token_signs)], narrowed := true }
def TokenLinesUptoSaid : Prop := tokenLinesUptoRow.holds Tryd.pinned (OpenSpec.upto tokenLinesSpec)

/-- 'fluxionlaw04.TokenParts', WHERE WHAT IT READS IS OF BULK AT MOST 1048576: true; the input reads as it did. -/
def tokenPartsUptoRow : OpenClaim := { program := "yteobbnehdlcphaadoor", sum := "e22fa0821b0fa5a1dd6770f72b63a3c22cc7d09eaed51010959e482a2f5de5f4", func := "fluxion/fluxionlaw04.TokenParts", spec := "tokenParts", inPlace := ["internal/abi.NoEscape", "internal/bytealg.CountString", "internal/bytealg.IndexByteString", "internal/bytealg.IndexString"], unfollowed := true, recurses := true, named := ["fluxion/token.words", "fluxion/token.signs", "internal/bytealg.MaxLen"], apart := false, laid := [("fluxion/token.words", laid_fluxion_token_words), ("fluxion/token.signs", laid_fluxion_token_signs)], narrowed := true }
def TokenPartsUptoSaid : Prop := tokenPartsUptoRow.holds Tryd.pinned (OpenSpec.upto tokenPartsSpec)

/-- 'fluxionlaw04.TokenForms', WHERE WHAT IT READS IS OF BULK AT MOST 1048576: true; the input reads as it did. -/
def tokenFormsUptoRow : OpenClaim := { program := "yteobbnehdlcphaadoor", sum := "e22fa0821b0fa5a1dd6770f72b63a3c22cc7d09eaed51010959e482a2f5de5f4", func := "fluxion/fluxionlaw04.TokenForms", spec := "tokenForms", inPlace := ["internal/abi.NoEscape", "internal/bytealg.CountString", "internal/bytealg.IndexByteString", "internal/bytealg.IndexString"], unfollowed := true, recurses := true, named := ["fluxion/token.words", "fluxion/token.signs", "internal/bytealg.MaxLen"], apart := false, laid := [("fluxion/token.words", laid_fluxion_token_words), ("fluxion/token.signs", laid_fluxion_token_signs)], narrowed := true }
def TokenFormsUptoSaid : Prop := tokenFormsUptoRow.holds Tryd.pinned (OpenSpec.upto tokenFormsSpec)

/-- 'fluxionlaw04.TokenOrdered', WHERE WHAT IT READS IS OF BULK AT MOST 1048576: true; the input reads as it did. -/
def tokenOrderedUptoRow : OpenClaim := { program := "yteobbnehdlcphaadoor", sum := "e22fa0821b0fa5a1dd6770f72b63a3c22cc7d09eaed51010959e482a2f5de5f4", func := "fluxion/fluxionlaw04.TokenOrdered", spec := "tokenOrdered", inPlace := ["internal/abi.NoEscape", "internal/bytealg.CountString", "internal/bytealg.IndexByteString", "internal/bytealg.IndexString"], unfollowed := true, recurses := true, named := ["fluxion/token.words", "fluxion/token.signs", "internal/bytealg.MaxLen"], apart := false, laid := [("fluxion/token.words", laid_fluxion_token_words), ("fluxion/token.signs", laid_fluxion_token_signs)], narrowed := true }
def TokenOrderedUptoSaid : Prop := tokenOrderedUptoRow.holds Tryd.pinned (OpenSpec.upto tokenOrderedSpec)

/-- 'fluxionlaw04.TokenApart', WHERE WHAT IT READS IS OF BULK AT MOST 1048576: true; the input reads as it did. -/
def tokenApartUptoRow : OpenClaim := { program := "yteobbnehdlcphaadoor", sum := "e22fa0821b0fa5a1dd6770f72b63a3c22cc7d09eaed51010959e482a2f5de5f4", func := "fluxion/fluxionlaw04.TokenApart", spec := "tokenApart", inPlace := ["internal/abi.NoEscape", "internal/bytealg.CountString", "internal/bytealg.IndexByteString", "internal/bytealg.IndexString"], unfollowed := true, recurses := true, named := ["fluxion/token.words", "fluxion/token.signs", "internal/bytealg.MaxLen"], apart := false, laid := [("fluxion/token.words", laid_fluxion_token_words), ("fluxion/token.signs", laid_fluxion_token_signs)], narrowed := true }
def TokenApartUptoSaid : Prop := tokenApartUptoRow.holds Tryd.pinned (OpenSpec.upto tokenApartSpec)

/-- 'fluxionlaw04.TokenJoins', WHERE WHAT IT READS IS OF BULK AT MOST 1048576: true; the input reads as it did. -/
def tokenJoinsUptoRow : OpenClaim := { program := "yteobbnehdlcphaadoor", sum := "e22fa0821b0fa5a1dd6770f72b63a3c22cc7d09eaed51010959e482a2f5de5f4", func := "fluxion/fluxionlaw04.TokenJoins", spec := "tokenJoins", inPlace := ["internal/abi.NoEscape", "internal/bytealg.CountString", "internal/bytealg.IndexByteString", "internal/bytealg.IndexString"], unfollowed := true, recurses := true, named := ["fluxion/token.words", "fluxion/token.signs", "internal/bytealg.MaxLen"], apart := false, laid := [("fluxion/token.words", laid_fluxion_token_words), ("fluxion/token.signs", laid_fluxion_token_signs)], narrowed := true }
def TokenJoinsUptoSaid : Prop := tokenJoinsUptoRow.holds Tryd.pinned (OpenSpec.upto tokenJoinsSpec)

/-- 'fluxionlaw04.TokenJoined', WHERE WHAT IT READS IS OF BULK AT MOST 1048576: true; the input reads as it did. -/
def tokenJoinedUptoRow : OpenClaim := { program := "yteobbnehdlcphaadoor", sum := "e22fa0821b0fa5a1dd6770f72b63a3c22cc7d09eaed51010959e482a2f5de5f4", func := "fluxion/fluxionlaw04.TokenJoined", spec := "tokenJoined", inPlace := ["internal/abi.NoEscape", "internal/bytealg.CountString", "internal/bytealg.IndexByteString", "internal/bytealg.IndexString"], unfollowed := true, recurses := true, named := ["fluxion/token.words", "fluxion/token.signs", "internal/bytealg.MaxLen"], apart := false, laid := [("fluxion/token.words", laid_fluxion_token_words), ("fluxion/token.signs", laid_fluxion_token_signs)], narrowed := true }
def TokenJoinedUptoSaid : Prop := tokenJoinedUptoRow.holds Tryd.pinned (OpenSpec.upto tokenJoinedSpec)

end Rows
end Go.Proofs.YteobbnehdlcphaaDoor
