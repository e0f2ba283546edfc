/-
  DERIVED. GIVEN WITH THE SEED: THE CARDS: each row of YtjeofffddbibeaaDoorRows.lean that lists a variable, with what it lists TIED to the program's text (the seventh form; the later family's looks); each row that meets fmt, with fmt's text TOLD by the authors' own Lean function (tested against real Go, not proved from fmt's source: count such statements apart). THE CARD IS WHAT COUNTS. Prove the row's statement (the work); the ties are given (YtjeofffddbibeaaDoorTie.lean); close each card by the builder's one call (the guide's Derived/Test/ToyasCard.lean, 'card_holds'). Laid BY PROGRAM, IN A SANDBOX (cutbox-door.mjs). By AI agents, Wed Nov 11 2026. No macro, syntax, notation, axiom, sorry.
-/
import Derived.Test.YtjeofffddbibeaaDoorRows
import GoSem.ClaimSeven
namespace Go.Proofs.YtjeofffddbibeaaDoor
namespace Rows

/-- THE TIED CARD OF 'epactlaw09.ExprNames'. -/
def exprNamesCard : Claim7 := { stood := { row := exprNamesRow, standIns := [], harness := (true, "0bc9eadbf310cb7d22738444cf39bf9689a49015a3ccdf421ed2f708e206e67a"), looks := false }, kinds := [], alts := [], laidByText := true, laidKinds := [.data, .pinned], laidTests := true, laidLooks := .later }
def ExprNamesCardSaid : Prop := Claim7.holds Tryd.pinned (.plain (OpenSpec.ofChange exprNamesSpec)) exprNamesCard

/-- THE TIED CARD OF 'epactlaw09.ExprTells'. -/
def exprTellsCard : Claim7 := { stood := { row := exprTellsRow, standIns := [], harness := (true, "0bc9eadbf310cb7d22738444cf39bf9689a49015a3ccdf421ed2f708e206e67a"), looks := false }, kinds := [], alts := [], laidByText := true, laidKinds := [.data, .pinned], laidTests := true, laidLooks := .later }
def ExprTellsCardSaid : Prop := Claim7.holds Tryd.pinned (.plain (OpenSpec.ofChange exprTellsSpec)) exprTellsCard

/-- THE TIED CARD OF 'epactlaw09.ExprCopies'. -/
def exprCopiesCard : Claim7 := { stood := { row := exprCopiesRow, standIns := [], harness := (true, "0bc9eadbf310cb7d22738444cf39bf9689a49015a3ccdf421ed2f708e206e67a"), looks := false }, kinds := [], alts := [], laidByText := true, laidKinds := [.data, .pinned], laidTests := true, laidLooks := .later }
def ExprCopiesCardSaid : Prop := Claim7.holds Tryd.pinned (.plain (OpenSpec.ofChange exprCopiesSpec)) exprCopiesCard

/-- THE TIED CARD OF 'epactlaw11.ParseTells'. -/
def parseTellsCard : Claim7 := { stood := { row := parseTellsRow, standIns := [], harness := (true, "0bc9eadbf310cb7d22738444cf39bf9689a49015a3ccdf421ed2f708e206e67a"), looks := false }, kinds := [], alts := [], laidByText := true, laidKinds := [.listed, .data], laidTests := true, laidLooks := .later }
def ParseTellsCardSaid : Prop := Claim7.holds Tryd.pinned (.plain (OpenSpec.ofChange parseTellsSpec)) parseTellsCard

/-- THE TIED CARD OF 'epactlaw11.ParseBack'. -/
def parseBackCard : Claim7 := { stood := { row := parseBackRow, standIns := [], harness := (true, "0bc9eadbf310cb7d22738444cf39bf9689a49015a3ccdf421ed2f708e206e67a"), looks := false }, kinds := [], alts := [], laidByText := true, laidKinds := [.listed, .data], laidTests := true, laidLooks := .later }
def ParseBackCardSaid : Prop := Claim7.holds Tryd.pinned (.plain (OpenSpec.ofChange parseBackSpec)) parseBackCard

/-- THE TIED CARD OF 'epactlaw11.ParseDepth'. -/
def parseDepthCard : Claim7 := { stood := { row := parseDepthRow, standIns := [], harness := (true, "0bc9eadbf310cb7d22738444cf39bf9689a49015a3ccdf421ed2f708e206e67a"), looks := false }, kinds := [], alts := [], laidByText := true, laidKinds := [.listed, .data], laidTests := true, laidLooks := .later }
def ParseDepthCardSaid : Prop := Claim7.holds Tryd.pinned (.plain (OpenSpec.ofChange parseDepthSpec)) parseDepthCard

/-- THE TIED CARD OF 'epactlaw11.ParseCommands'. -/
def parseCommandsCard : Claim7 := { stood := { row := parseCommandsRow, standIns := [], harness := (true, "0bc9eadbf310cb7d22738444cf39bf9689a49015a3ccdf421ed2f708e206e67a"), looks := false }, kinds := [], alts := [], laidByText := true, laidKinds := [.listed, .data], laidTests := true, laidLooks := .later }
def ParseCommandsCardSaid : Prop := Claim7.holds Tryd.pinned (.plain (OpenSpec.ofChange parseCommandsSpec)) parseCommandsCard

/-- THE TIED CARD OF 'epactlaw11.ParsePlace'. -/
def parsePlaceCard : Claim7 := { stood := { row := parsePlaceRow, standIns := [], harness := (true, "0bc9eadbf310cb7d22738444cf39bf9689a49015a3ccdf421ed2f708e206e67a"), looks := false }, kinds := [], alts := [], laidByText := true, laidKinds := [.listed, .data], laidTests := true, laidLooks := .later }
def ParsePlaceCardSaid : Prop := Claim7.holds Tryd.pinned (.plain (OpenSpec.ofChange parsePlaceSpec)) parsePlaceCard

/-- THE SECOND FORM's CARD OF 'epactlaw09.ExprNames'. -/
def exprNamesUptoCard : Claim7 := { stood := { row := exprNamesUptoRow, standIns := [], harness := (true, "0bc9eadbf310cb7d22738444cf39bf9689a49015a3ccdf421ed2f708e206e67a"), looks := false }, kinds := [], alts := [], laidByText := true, laidKinds := [.data, .pinned], laidTests := true, laidLooks := .later }
def ExprNamesUptoCardSaid : Prop := Claim7.holds Tryd.pinned (.plain (OpenSpec.upto exprNamesSpec)) exprNamesUptoCard

/-- THE SECOND FORM's CARD OF 'epactlaw09.ExprTells'. -/
def exprTellsUptoCard : Claim7 := { stood := { row := exprTellsUptoRow, standIns := [], harness := (true, "0bc9eadbf310cb7d22738444cf39bf9689a49015a3ccdf421ed2f708e206e67a"), looks := false }, kinds := [], alts := [], laidByText := true, laidKinds := [.data, .pinned], laidTests := true, laidLooks := .later }
def ExprTellsUptoCardSaid : Prop := Claim7.holds Tryd.pinned (.plain (OpenSpec.upto exprTellsSpec)) exprTellsUptoCard

/-- THE SECOND FORM's CARD OF 'epactlaw09.ExprCopies'. -/
def exprCopiesUptoCard : Claim7 := { stood := { row := exprCopiesUptoRow, standIns := [], harness := (true, "0bc9eadbf310cb7d22738444cf39bf9689a49015a3ccdf421ed2f708e206e67a"), looks := false }, kinds := [], alts := [], laidByText := true, laidKinds := [.data, .pinned], laidTests := true, laidLooks := .later }
def ExprCopiesUptoCardSaid : Prop := Claim7.holds Tryd.pinned (.plain (OpenSpec.upto exprCopiesSpec)) exprCopiesUptoCard

/-- THE SECOND FORM's CARD OF 'epactlaw11.ParseTells'. -/
def parseTellsUptoCard : Claim7 := { stood := { row := parseTellsUptoRow, standIns := [], harness := (true, "0bc9eadbf310cb7d22738444cf39bf9689a49015a3ccdf421ed2f708e206e67a"), looks := false }, kinds := [], alts := [], laidByText := true, laidKinds := [.listed, .data], laidTests := true, laidLooks := .later }
def ParseTellsUptoCardSaid : Prop := Claim7.holds Tryd.pinned (.plain (OpenSpec.upto parseTellsSpec)) parseTellsUptoCard

/-- THE SECOND FORM's CARD OF 'epactlaw11.ParseBack'. -/
def parseBackUptoCard : Claim7 := { stood := { row := parseBackUptoRow, standIns := [], harness := (true, "0bc9eadbf310cb7d22738444cf39bf9689a49015a3ccdf421ed2f708e206e67a"), looks := false }, kinds := [], alts := [], laidByText := true, laidKinds := [.listed, .data], laidTests := true, laidLooks := .later }
def ParseBackUptoCardSaid : Prop := Claim7.holds Tryd.pinned (.plain (OpenSpec.upto parseBackSpec)) parseBackUptoCard

/-- THE SECOND FORM's CARD OF 'epactlaw11.ParseDepth'. -/
def parseDepthUptoCard : Claim7 := { stood := { row := parseDepthUptoRow, standIns := [], harness := (true, "0bc9eadbf310cb7d22738444cf39bf9689a49015a3ccdf421ed2f708e206e67a"), looks := false }, kinds := [], alts := [], laidByText := true, laidKinds := [.listed, .data], laidTests := true, laidLooks := .later }
def ParseDepthUptoCardSaid : Prop := Claim7.holds Tryd.pinned (.plain (OpenSpec.upto parseDepthSpec)) parseDepthUptoCard

/-- THE SECOND FORM's CARD OF 'epactlaw11.ParseCommands'. -/
def parseCommandsUptoCard : Claim7 := { stood := { row := parseCommandsUptoRow, standIns := [], harness := (true, "0bc9eadbf310cb7d22738444cf39bf9689a49015a3ccdf421ed2f708e206e67a"), looks := false }, kinds := [], alts := [], laidByText := true, laidKinds := [.listed, .data], laidTests := true, laidLooks := .later }
def ParseCommandsUptoCardSaid : Prop := Claim7.holds Tryd.pinned (.plain (OpenSpec.upto parseCommandsSpec)) parseCommandsUptoCard

/-- THE SECOND FORM's CARD OF 'epactlaw11.ParsePlace'. -/
def parsePlaceUptoCard : Claim7 := { stood := { row := parsePlaceUptoRow, standIns := [], harness := (true, "0bc9eadbf310cb7d22738444cf39bf9689a49015a3ccdf421ed2f708e206e67a"), looks := false }, kinds := [], alts := [], laidByText := true, laidKinds := [.listed, .data], laidTests := true, laidLooks := .later }
def ParsePlaceUptoCardSaid : Prop := Claim7.holds Tryd.pinned (.plain (OpenSpec.upto parsePlaceSpec)) parsePlaceUptoCard
end Rows
end Go.Proofs.YtjeofffddbibeaaDoor
