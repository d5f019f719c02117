/-
  DERIVED. GIVEN WITH THE SEED: THE CARDS: each row of YtnngbnenekjffaaDoorRows.lean that lists a variable, with what it lists TIED to the program's text (the seventh form; the later family's looks); each row that meets fmt, with fmt's text TOLD by the authors' own Lean function (tested against real Go, not proved from fmt's source: count such statements apart). THE CARD IS WHAT COUNTS. Prove the row's statement (the work); the ties are given (YtnngbnenekjffaaDoorTie.lean); close each card by the builder's one call (the guide's Derived/Test/ToyasCard.lean, 'card_holds'). Laid BY PROGRAM, IN A SANDBOX (cutbox-door.mjs). By AI agents, Wed Nov 11 2026. No macro, syntax, notation, axiom, sorry.
-/
import Derived.Test.YtnngbnenekjffaaDoorRows
import GoSem.ClaimSeven
namespace Go.Proofs.YtnngbnenekjffaaDoor
namespace Rows

/-- THE TIED CARD OF 'aediculelaw15.RelocFills'. -/
def relocFillsCard : Claim7 := { stood := { row := relocFillsRow, standIns := [], harness := (true, "14443d74ca080b61ca5d50fbed322ed9a2b47a6208a4ee0c97f07433584a6a1b"), looks := false }, kinds := [], alts := [], laidByText := true, laidKinds := [.data, .pinned], laidTests := true, laidLooks := .later }
def RelocFillsCardSaid : Prop := Claim7.holds Tryd.pinned (.plain (OpenSpec.ofChange relocFillsSpec)) relocFillsCard

/-- THE TIED CARD OF 'aediculelaw15.RelocBack'. -/
def relocBackCard : Claim7 := { stood := { row := relocBackRow, standIns := [], harness := (true, "14443d74ca080b61ca5d50fbed322ed9a2b47a6208a4ee0c97f07433584a6a1b"), looks := false }, kinds := [], alts := [], laidByText := true, laidKinds := [.data, .pinned], laidTests := true, laidLooks := .later }
def RelocBackCardSaid : Prop := Claim7.holds Tryd.pinned (.plain (OpenSpec.ofChange relocBackSpec)) relocBackCard

/-- THE TIED CARD OF 'aediculelaw10.AsmMakes'. -/
def asmMakesCard : Claim7 := { stood := { row := asmMakesRow, standIns := [], harness := (true, "14443d74ca080b61ca5d50fbed322ed9a2b47a6208a4ee0c97f07433584a6a1b"), looks := false }, kinds := [], alts := [], laidByText := true, laidKinds := [.data, .pinned], laidTests := true, laidLooks := .later }
def AsmMakesCardSaid : Prop := Claim7.holds Tryd.pinned (.plain (OpenSpec.ofChange asmMakesSpec)) asmMakesCard

/-- THE TIED CARD OF 'aediculelaw10.AsmData'. -/
def asmDataCard : Claim7 := { stood := { row := asmDataRow, standIns := [], harness := (true, "14443d74ca080b61ca5d50fbed322ed9a2b47a6208a4ee0c97f07433584a6a1b"), looks := false }, kinds := [], alts := [], laidByText := true, laidKinds := [.data, .pinned], laidTests := true, laidLooks := .later }
def AsmDataCardSaid : Prop := Claim7.holds Tryd.pinned (.plain (OpenSpec.ofChange asmDataSpec)) asmDataCard

/-- THE TIED CARD OF 'aediculelaw10.AsmFills'. -/
def asmFillsCard : Claim7 := { stood := { row := asmFillsRow, standIns := [], harness := (true, "14443d74ca080b61ca5d50fbed322ed9a2b47a6208a4ee0c97f07433584a6a1b"), looks := false }, kinds := [], alts := [], laidByText := true, laidKinds := [.data, .pinned], laidTests := true, laidLooks := .later }
def AsmFillsCardSaid : Prop := Claim7.holds Tryd.pinned (.plain (OpenSpec.ofChange asmFillsSpec)) asmFillsCard

/-- THE TIED CARD OF 'aediculelaw08.ObjMay'. -/
def objMayCard : Claim7 := { stood := { row := objMayRow, standIns := [], harness := (true, "14443d74ca080b61ca5d50fbed322ed9a2b47a6208a4ee0c97f07433584a6a1b"), looks := false }, kinds := [], alts := [], laidByText := true, laidKinds := [.data, .pinned], laidTests := true, laidLooks := .later }
def ObjMayCardSaid : Prop := Claim7.holds Tryd.pinned (.plain (OpenSpec.ofChange objMaySpec)) objMayCard

/-- THE TIED CARD OF 'aediculelaw08.ObjNames'. -/
def objNamesCard : Claim7 := { stood := { row := objNamesRow, standIns := [], harness := (true, "14443d74ca080b61ca5d50fbed322ed9a2b47a6208a4ee0c97f07433584a6a1b"), looks := false }, kinds := [], alts := [], laidByText := true, laidKinds := [.data, .pinned], laidTests := true, laidLooks := .later }
def ObjNamesCardSaid : Prop := Claim7.holds Tryd.pinned (.plain (OpenSpec.ofChange objNamesSpec)) objNamesCard

/-- THE TIED CARD OF 'aediculelaw08.ObjFinds'. -/
def objFindsCard : Claim7 := { stood := { row := objFindsRow, standIns := [], harness := (true, "14443d74ca080b61ca5d50fbed322ed9a2b47a6208a4ee0c97f07433584a6a1b"), looks := false }, kinds := [], alts := [], laidByText := true, laidKinds := [.data, .pinned], laidTests := true, laidLooks := .later }
def ObjFindsCardSaid : Prop := Claim7.holds Tryd.pinned (.plain (OpenSpec.ofChange objFindsSpec)) objFindsCard

/-- THE SECOND FORM's CARD OF 'aediculelaw15.RelocFills'. -/
def relocFillsUptoCard : Claim7 := { stood := { row := relocFillsUptoRow, standIns := [], harness := (true, "14443d74ca080b61ca5d50fbed322ed9a2b47a6208a4ee0c97f07433584a6a1b"), looks := false }, kinds := [], alts := [], laidByText := true, laidKinds := [.data, .pinned], laidTests := true, laidLooks := .later }
def RelocFillsUptoCardSaid : Prop := Claim7.holds Tryd.pinned (.plain (OpenSpec.upto relocFillsSpec)) relocFillsUptoCard

/-- THE SECOND FORM's CARD OF 'aediculelaw15.RelocBack'. -/
def relocBackUptoCard : Claim7 := { stood := { row := relocBackUptoRow, standIns := [], harness := (true, "14443d74ca080b61ca5d50fbed322ed9a2b47a6208a4ee0c97f07433584a6a1b"), looks := false }, kinds := [], alts := [], laidByText := true, laidKinds := [.data, .pinned], laidTests := true, laidLooks := .later }
def RelocBackUptoCardSaid : Prop := Claim7.holds Tryd.pinned (.plain (OpenSpec.upto relocBackSpec)) relocBackUptoCard

/-- THE SECOND FORM's CARD OF 'aediculelaw10.AsmMakes'. -/
def asmMakesUptoCard : Claim7 := { stood := { row := asmMakesUptoRow, standIns := [], harness := (true, "14443d74ca080b61ca5d50fbed322ed9a2b47a6208a4ee0c97f07433584a6a1b"), looks := false }, kinds := [], alts := [], laidByText := true, laidKinds := [.data, .pinned], laidTests := true, laidLooks := .later }
def AsmMakesUptoCardSaid : Prop := Claim7.holds Tryd.pinned (.plain (OpenSpec.upto asmMakesSpec)) asmMakesUptoCard

/-- THE SECOND FORM's CARD OF 'aediculelaw10.AsmData'. -/
def asmDataUptoCard : Claim7 := { stood := { row := asmDataUptoRow, standIns := [], harness := (true, "14443d74ca080b61ca5d50fbed322ed9a2b47a6208a4ee0c97f07433584a6a1b"), looks := false }, kinds := [], alts := [], laidByText := true, laidKinds := [.data, .pinned], laidTests := true, laidLooks := .later }
def AsmDataUptoCardSaid : Prop := Claim7.holds Tryd.pinned (.plain (OpenSpec.upto asmDataSpec)) asmDataUptoCard

/-- THE SECOND FORM's CARD OF 'aediculelaw10.AsmFills'. -/
def asmFillsUptoCard : Claim7 := { stood := { row := asmFillsUptoRow, standIns := [], harness := (true, "14443d74ca080b61ca5d50fbed322ed9a2b47a6208a4ee0c97f07433584a6a1b"), looks := false }, kinds := [], alts := [], laidByText := true, laidKinds := [.data, .pinned], laidTests := true, laidLooks := .later }
def AsmFillsUptoCardSaid : Prop := Claim7.holds Tryd.pinned (.plain (OpenSpec.upto asmFillsSpec)) asmFillsUptoCard

/-- THE SECOND FORM's CARD OF 'aediculelaw08.ObjMay'. -/
def objMayUptoCard : Claim7 := { stood := { row := objMayUptoRow, standIns := [], harness := (true, "14443d74ca080b61ca5d50fbed322ed9a2b47a6208a4ee0c97f07433584a6a1b"), looks := false }, kinds := [], alts := [], laidByText := true, laidKinds := [.data, .pinned], laidTests := true, laidLooks := .later }
def ObjMayUptoCardSaid : Prop := Claim7.holds Tryd.pinned (.plain (OpenSpec.upto objMaySpec)) objMayUptoCard

/-- THE SECOND FORM's CARD OF 'aediculelaw08.ObjNames'. -/
def objNamesUptoCard : Claim7 := { stood := { row := objNamesUptoRow, standIns := [], harness := (true, "14443d74ca080b61ca5d50fbed322ed9a2b47a6208a4ee0c97f07433584a6a1b"), looks := false }, kinds := [], alts := [], laidByText := true, laidKinds := [.data, .pinned], laidTests := true, laidLooks := .later }
def ObjNamesUptoCardSaid : Prop := Claim7.holds Tryd.pinned (.plain (OpenSpec.upto objNamesSpec)) objNamesUptoCard

/-- THE SECOND FORM's CARD OF 'aediculelaw08.ObjFinds'. -/
def objFindsUptoCard : Claim7 := { stood := { row := objFindsUptoRow, standIns := [], harness := (true, "14443d74ca080b61ca5d50fbed322ed9a2b47a6208a4ee0c97f07433584a6a1b"), looks := false }, kinds := [], alts := [], laidByText := true, laidKinds := [.data, .pinned], laidTests := true, laidLooks := .later }
def ObjFindsUptoCardSaid : Prop := Claim7.holds Tryd.pinned (.plain (OpenSpec.upto objFindsSpec)) objFindsUptoCard
end Rows
end Go.Proofs.YtnngbnenekjffaaDoor
