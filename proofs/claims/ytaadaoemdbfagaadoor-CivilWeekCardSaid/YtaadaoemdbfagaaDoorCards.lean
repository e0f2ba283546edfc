/-
  DERIVED. GIVEN WITH THE SEED: THE CARDS: each row of YtaadaoemdbfagaaDoorRows.lean that lists a variable, with what it lists TIED to the program's text (the seventh form; the later family's looks); each row that meets fmt, with fmt's text TOLD by the authors' own Lean function (tested against real Go, not proved from fmt's source: count such statements apart). THE CARD IS WHAT COUNTS. Prove the row's statement (the work); the ties are given (YtaadaoemdbfagaaDoorTie.lean); close each card by the builder's one call (the guide's Derived/Test/ToyasCard.lean, 'card_holds'). Laid BY PROGRAM, IN A SANDBOX (cutbox-door.mjs). By AI agents, Wed Nov 11 2026. No macro, syntax, notation, axiom, sorry.
-/
import Derived.Test.YtaadaoemdbfagaaDoorRows
import GoSem.ClaimSeven
namespace Go.Proofs.YtaadaoemdbfagaaDoor
namespace Rows

/-- THE TIED CARD OF 'epactlaw03.CivilTells'. -/
def civilTellsCard : Claim7 := { stood := { row := civilTellsRow, standIns := [], harness := (true, "81d1fa936ed3f85a850b46f3d397986bbfb77830fea97a2098b66767e7b5b177"), looks := false }, kinds := [], alts := [], laidByText := true, laidKinds := [.data], laidTests := true, laidLooks := .later }
def CivilTellsCardSaid : Prop := Claim7.holds Tryd.pinned (.plain (OpenSpec.ofChange civilTellsSpec)) civilTellsCard

/-- THE TIED CARD OF 'epactlaw03.CivilBack'. -/
def civilBackCard : Claim7 := { stood := { row := civilBackRow, standIns := [], harness := (true, "81d1fa936ed3f85a850b46f3d397986bbfb77830fea97a2098b66767e7b5b177"), looks := false }, kinds := [], alts := [], laidByText := true, laidKinds := [.data], laidTests := true, laidLooks := .later }
def CivilBackCardSaid : Prop := Claim7.holds Tryd.pinned (.plain (OpenSpec.ofChange civilBackSpec)) civilBackCard

/-- THE TIED CARD OF 'epactlaw03.CivilCycle'. -/
def civilCycleCard : Claim7 := { stood := { row := civilCycleRow, standIns := [], harness := (true, "81d1fa936ed3f85a850b46f3d397986bbfb77830fea97a2098b66767e7b5b177"), looks := false }, kinds := [], alts := [], laidByText := true, laidKinds := [.data], laidTests := true, laidLooks := .later }
def CivilCycleCardSaid : Prop := Claim7.holds Tryd.pinned (.plain (OpenSpec.ofChange civilCycleSpec)) civilCycleCard

/-- THE TIED CARD OF 'epactlaw03.CivilOrder'. -/
def civilOrderCard : Claim7 := { stood := { row := civilOrderRow, standIns := [], harness := (true, "81d1fa936ed3f85a850b46f3d397986bbfb77830fea97a2098b66767e7b5b177"), looks := false }, kinds := [], alts := [], laidByText := true, laidKinds := [.data], laidTests := true, laidLooks := .later }
def CivilOrderCardSaid : Prop := Claim7.holds Tryd.pinned (.plain (OpenSpec.ofChange civilOrderSpec)) civilOrderCard

/-- THE TIED CARD OF 'epactlaw03.CivilWeek'. -/
def civilWeekCard : Claim7 := { stood := { row := civilWeekRow, standIns := [], harness := (true, "81d1fa936ed3f85a850b46f3d397986bbfb77830fea97a2098b66767e7b5b177"), looks := false }, kinds := [], alts := [], laidByText := true, laidKinds := [.data], laidTests := true, laidLooks := .later }
def CivilWeekCardSaid : Prop := Claim7.holds Tryd.pinned (.plain (OpenSpec.ofChange civilWeekSpec)) civilWeekCard

/-- THE SECOND FORM's CARD OF 'epactlaw03.CivilTells'. -/
def civilTellsUptoCard : Claim7 := { stood := { row := civilTellsUptoRow, standIns := [], harness := (true, "81d1fa936ed3f85a850b46f3d397986bbfb77830fea97a2098b66767e7b5b177"), looks := false }, kinds := [], alts := [], laidByText := true, laidKinds := [.data], laidTests := true, laidLooks := .later }
def CivilTellsUptoCardSaid : Prop := Claim7.holds Tryd.pinned (.plain (OpenSpec.upto civilTellsSpec)) civilTellsUptoCard

/-- THE SECOND FORM's CARD OF 'epactlaw03.CivilBack'. -/
def civilBackUptoCard : Claim7 := { stood := { row := civilBackUptoRow, standIns := [], harness := (true, "81d1fa936ed3f85a850b46f3d397986bbfb77830fea97a2098b66767e7b5b177"), looks := false }, kinds := [], alts := [], laidByText := true, laidKinds := [.data], laidTests := true, laidLooks := .later }
def CivilBackUptoCardSaid : Prop := Claim7.holds Tryd.pinned (.plain (OpenSpec.upto civilBackSpec)) civilBackUptoCard

/-- THE SECOND FORM's CARD OF 'epactlaw03.CivilCycle'. -/
def civilCycleUptoCard : Claim7 := { stood := { row := civilCycleUptoRow, standIns := [], harness := (true, "81d1fa936ed3f85a850b46f3d397986bbfb77830fea97a2098b66767e7b5b177"), looks := false }, kinds := [], alts := [], laidByText := true, laidKinds := [.data], laidTests := true, laidLooks := .later }
def CivilCycleUptoCardSaid : Prop := Claim7.holds Tryd.pinned (.plain (OpenSpec.upto civilCycleSpec)) civilCycleUptoCard

/-- THE SECOND FORM's CARD OF 'epactlaw03.CivilOrder'. -/
def civilOrderUptoCard : Claim7 := { stood := { row := civilOrderUptoRow, standIns := [], harness := (true, "81d1fa936ed3f85a850b46f3d397986bbfb77830fea97a2098b66767e7b5b177"), looks := false }, kinds := [], alts := [], laidByText := true, laidKinds := [.data], laidTests := true, laidLooks := .later }
def CivilOrderUptoCardSaid : Prop := Claim7.holds Tryd.pinned (.plain (OpenSpec.upto civilOrderSpec)) civilOrderUptoCard

/-- THE SECOND FORM's CARD OF 'epactlaw03.CivilWeek'. -/
def civilWeekUptoCard : Claim7 := { stood := { row := civilWeekUptoRow, standIns := [], harness := (true, "81d1fa936ed3f85a850b46f3d397986bbfb77830fea97a2098b66767e7b5b177"), looks := false }, kinds := [], alts := [], laidByText := true, laidKinds := [.data], laidTests := true, laidLooks := .later }
def CivilWeekUptoCardSaid : Prop := Claim7.holds Tryd.pinned (.plain (OpenSpec.upto civilWeekSpec)) civilWeekUptoCard
end Rows
end Go.Proofs.YtaadaoemdbfagaaDoor
