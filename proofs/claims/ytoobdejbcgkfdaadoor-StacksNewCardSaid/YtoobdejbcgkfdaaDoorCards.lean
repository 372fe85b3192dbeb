/-
  DERIVED. GIVEN WITH THE SEED: THE CARDS: each row of YtoobdejbcgkfdaaDoorRows.lean that lists a variable, with what it lists TIED to the program's text (the seventh form; the later family's looks); each row that meets fmt, with fmt's text TOLD by the authors' own Lean function (tested against real Go, not proved from fmt's source: count such statements apart). THE CARD IS WHAT COUNTS. Prove the row's statement (the work); the ties are given (YtoobdejbcgkfdaaDoorTie.lean); close each card by the builder's one call (the guide's Derived/Test/ToyasCard.lean, 'card_holds'). Laid BY PROGRAM, IN A SANDBOX (cutbox-door.mjs). By AI agents, Wed Nov 11 2026. No macro, syntax, notation, axiom, sorry.
-/
import Derived.Test.YtoobdejbcgkfdaaDoorRows
import GoSem.ClaimSeven
namespace Go.Proofs.YtoobdejbcgkfdaaDoor
namespace Rows

/-- THE TIED CARD OF 'pawnshoplaw30.GrantNames'. -/
def grantNamesCard : Claim7 := { stood := { row := grantNamesRow, standIns := [], harness := (true, "4daf9fd32799669838d22aa47c5b432513cebeeb268cd24e6250c35a0385a75a"), looks := false }, kinds := [], alts := [], laidByText := true, laidKinds := [.data], laidTests := true, laidLooks := .later }
def GrantNamesCardSaid : Prop := Claim7.holds Tryd.pinned (.plain (OpenSpec.ofChange grantNamesSpec)) grantNamesCard

/-- THE TIED CARD OF 'pawnshoplaw32.PhasesTells'. -/
def phasesTellsCard : Claim7 := { stood := { row := phasesTellsRow, standIns := [], harness := (true, "4daf9fd32799669838d22aa47c5b432513cebeeb268cd24e6250c35a0385a75a"), looks := false }, kinds := [], alts := [], laidByText := true, laidKinds := [.data], laidTests := true, laidLooks := .later }
def PhasesTellsCardSaid : Prop := Claim7.holds Tryd.pinned (.plain (OpenSpec.ofChange phasesTellsSpec)) phasesTellsCard

/-- THE TIED CARD OF 'pawnshoplaw31.GuardNames'. -/
def guardNamesCard : Claim7 := { stood := { row := guardNamesRow, standIns := [], harness := (true, "4daf9fd32799669838d22aa47c5b432513cebeeb268cd24e6250c35a0385a75a"), looks := false }, kinds := [], alts := [], laidByText := true, laidKinds := [.data], laidTests := true, laidLooks := .later }
def GuardNamesCardSaid : Prop := Claim7.holds Tryd.pinned (.plain (OpenSpec.ofChange guardNamesSpec)) guardNamesCard

/-- THE TIED CARD OF 'pawnshoplaw32.PhasesNames'. -/
def phasesNamesCard : Claim7 := { stood := { row := phasesNamesRow, standIns := [], harness := (true, "4daf9fd32799669838d22aa47c5b432513cebeeb268cd24e6250c35a0385a75a"), looks := false }, kinds := [], alts := [], laidByText := true, laidKinds := [.data], laidTests := true, laidLooks := .later }
def PhasesNamesCardSaid : Prop := Claim7.holds Tryd.pinned (.plain (OpenSpec.ofChange phasesNamesSpec)) phasesNamesCard

/-- THE TIED CARD OF 'pawnshoplaw32.PhasesKeeps'. -/
def phasesKeepsCard : Claim7 := { stood := { row := phasesKeepsRow, standIns := [], harness := (true, "4daf9fd32799669838d22aa47c5b432513cebeeb268cd24e6250c35a0385a75a"), looks := false }, kinds := [], alts := [], laidByText := true, laidKinds := [.data], laidTests := true, laidLooks := .later }
def PhasesKeepsCardSaid : Prop := Claim7.holds Tryd.pinned (.plain (OpenSpec.ofChange phasesKeepsSpec)) phasesKeepsCard

/-- THE TIED CARD OF 'pawnshoplaw32.PhasesOld'. -/
def phasesOldCard : Claim7 := { stood := { row := phasesOldRow, standIns := [], harness := (true, "4daf9fd32799669838d22aa47c5b432513cebeeb268cd24e6250c35a0385a75a"), looks := false }, kinds := [], alts := [], laidByText := true, laidKinds := [.data], laidTests := true, laidLooks := .later }
def PhasesOldCardSaid : Prop := Claim7.holds Tryd.pinned (.plain (OpenSpec.ofChange phasesOldSpec)) phasesOldCard

/-- THE TIED CARD OF 'pawnshoplaw32.PhasesMany'. -/
def phasesManyCard : Claim7 := { stood := { row := phasesManyRow, standIns := [], harness := (true, "4daf9fd32799669838d22aa47c5b432513cebeeb268cd24e6250c35a0385a75a"), looks := false }, kinds := [], alts := [], laidByText := true, laidKinds := [.data], laidTests := true, laidLooks := .later }
def PhasesManyCardSaid : Prop := Claim7.holds Tryd.pinned (.plain (OpenSpec.ofChange phasesManySpec)) phasesManyCard

/-- THE TIED CARD OF 'pawnshoplaw33.StacksUses'. -/
def stacksUsesCard : Claim7 := { stood := { row := stacksUsesRow, standIns := [], harness := (true, "4daf9fd32799669838d22aa47c5b432513cebeeb268cd24e6250c35a0385a75a"), looks := false }, kinds := [], alts := [], laidByText := true, laidKinds := [.data], laidTests := true, laidLooks := .later }
def StacksUsesCardSaid : Prop := Claim7.holds Tryd.pinned (.plain (OpenSpec.ofChange stacksUsesSpec)) stacksUsesCard

/-- THE TIED CARD OF 'pawnshoplaw33.StacksNames'. -/
def stacksNamesCard : Claim7 := { stood := { row := stacksNamesRow, standIns := [], harness := (true, "4daf9fd32799669838d22aa47c5b432513cebeeb268cd24e6250c35a0385a75a"), looks := false }, kinds := [], alts := [], laidByText := true, laidKinds := [.data], laidTests := true, laidLooks := .later }
def StacksNamesCardSaid : Prop := Claim7.holds Tryd.pinned (.plain (OpenSpec.ofChange stacksNamesSpec)) stacksNamesCard

/-- THE TIED CARD OF 'pawnshoplaw33.StacksCells'. -/
def stacksCellsCard : Claim7 := { stood := { row := stacksCellsRow, standIns := [], harness := (true, "4daf9fd32799669838d22aa47c5b432513cebeeb268cd24e6250c35a0385a75a"), looks := false }, kinds := [], alts := [], laidByText := true, laidKinds := [.data], laidTests := true, laidLooks := .later }
def StacksCellsCardSaid : Prop := Claim7.holds Tryd.pinned (.plain (OpenSpec.ofChange stacksCellsSpec)) stacksCellsCard

/-- THE TIED CARD OF 'pawnshoplaw33.StacksOrder'. -/
def stacksOrderCard : Claim7 := { stood := { row := stacksOrderRow, standIns := [], harness := (true, "4daf9fd32799669838d22aa47c5b432513cebeeb268cd24e6250c35a0385a75a"), looks := false }, kinds := [], alts := [], laidByText := true, laidKinds := [.data], laidTests := true, laidLooks := .later }
def StacksOrderCardSaid : Prop := Claim7.holds Tryd.pinned (.plain (OpenSpec.ofChange stacksOrderSpec)) stacksOrderCard

/-- THE TIED CARD OF 'pawnshoplaw33.StacksNew'. -/
def stacksNewCard : Claim7 := { stood := { row := stacksNewRow, standIns := [], harness := (true, "4daf9fd32799669838d22aa47c5b432513cebeeb268cd24e6250c35a0385a75a"), looks := false }, kinds := [], alts := [], laidByText := true, laidKinds := [.data], laidTests := true, laidLooks := .later }
def StacksNewCardSaid : Prop := Claim7.holds Tryd.pinned (.plain (OpenSpec.ofChange stacksNewSpec)) stacksNewCard

/-- THE SECOND FORM's CARD OF 'pawnshoplaw30.GrantNames'. -/
def grantNamesUptoCard : Claim7 := { stood := { row := grantNamesUptoRow, standIns := [], harness := (true, "4daf9fd32799669838d22aa47c5b432513cebeeb268cd24e6250c35a0385a75a"), looks := false }, kinds := [], alts := [], laidByText := true, laidKinds := [.data], laidTests := true, laidLooks := .later }
def GrantNamesUptoCardSaid : Prop := Claim7.holds Tryd.pinned (.plain (OpenSpec.upto grantNamesSpec)) grantNamesUptoCard

/-- THE SECOND FORM's CARD OF 'pawnshoplaw32.PhasesTells'. -/
def phasesTellsUptoCard : Claim7 := { stood := { row := phasesTellsUptoRow, standIns := [], harness := (true, "4daf9fd32799669838d22aa47c5b432513cebeeb268cd24e6250c35a0385a75a"), looks := false }, kinds := [], alts := [], laidByText := true, laidKinds := [.data], laidTests := true, laidLooks := .later }
def PhasesTellsUptoCardSaid : Prop := Claim7.holds Tryd.pinned (.plain (OpenSpec.upto phasesTellsSpec)) phasesTellsUptoCard

/-- THE SECOND FORM's CARD OF 'pawnshoplaw31.GuardNames'. -/
def guardNamesUptoCard : Claim7 := { stood := { row := guardNamesUptoRow, standIns := [], harness := (true, "4daf9fd32799669838d22aa47c5b432513cebeeb268cd24e6250c35a0385a75a"), looks := false }, kinds := [], alts := [], laidByText := true, laidKinds := [.data], laidTests := true, laidLooks := .later }
def GuardNamesUptoCardSaid : Prop := Claim7.holds Tryd.pinned (.plain (OpenSpec.upto guardNamesSpec)) guardNamesUptoCard

/-- THE SECOND FORM's CARD OF 'pawnshoplaw32.PhasesNames'. -/
def phasesNamesUptoCard : Claim7 := { stood := { row := phasesNamesUptoRow, standIns := [], harness := (true, "4daf9fd32799669838d22aa47c5b432513cebeeb268cd24e6250c35a0385a75a"), looks := false }, kinds := [], alts := [], laidByText := true, laidKinds := [.data], laidTests := true, laidLooks := .later }
def PhasesNamesUptoCardSaid : Prop := Claim7.holds Tryd.pinned (.plain (OpenSpec.upto phasesNamesSpec)) phasesNamesUptoCard

/-- THE SECOND FORM's CARD OF 'pawnshoplaw32.PhasesKeeps'. -/
def phasesKeepsUptoCard : Claim7 := { stood := { row := phasesKeepsUptoRow, standIns := [], harness := (true, "4daf9fd32799669838d22aa47c5b432513cebeeb268cd24e6250c35a0385a75a"), looks := false }, kinds := [], alts := [], laidByText := true, laidKinds := [.data], laidTests := true, laidLooks := .later }
def PhasesKeepsUptoCardSaid : Prop := Claim7.holds Tryd.pinned (.plain (OpenSpec.upto phasesKeepsSpec)) phasesKeepsUptoCard

/-- THE SECOND FORM's CARD OF 'pawnshoplaw32.PhasesOld'. -/
def phasesOldUptoCard : Claim7 := { stood := { row := phasesOldUptoRow, standIns := [], harness := (true, "4daf9fd32799669838d22aa47c5b432513cebeeb268cd24e6250c35a0385a75a"), looks := false }, kinds := [], alts := [], laidByText := true, laidKinds := [.data], laidTests := true, laidLooks := .later }
def PhasesOldUptoCardSaid : Prop := Claim7.holds Tryd.pinned (.plain (OpenSpec.upto phasesOldSpec)) phasesOldUptoCard

/-- THE SECOND FORM's CARD OF 'pawnshoplaw32.PhasesMany'. -/
def phasesManyUptoCard : Claim7 := { stood := { row := phasesManyUptoRow, standIns := [], harness := (true, "4daf9fd32799669838d22aa47c5b432513cebeeb268cd24e6250c35a0385a75a"), looks := false }, kinds := [], alts := [], laidByText := true, laidKinds := [.data], laidTests := true, laidLooks := .later }
def PhasesManyUptoCardSaid : Prop := Claim7.holds Tryd.pinned (.plain (OpenSpec.upto phasesManySpec)) phasesManyUptoCard

/-- THE SECOND FORM's CARD OF 'pawnshoplaw33.StacksUses'. -/
def stacksUsesUptoCard : Claim7 := { stood := { row := stacksUsesUptoRow, standIns := [], harness := (true, "4daf9fd32799669838d22aa47c5b432513cebeeb268cd24e6250c35a0385a75a"), looks := false }, kinds := [], alts := [], laidByText := true, laidKinds := [.data], laidTests := true, laidLooks := .later }
def StacksUsesUptoCardSaid : Prop := Claim7.holds Tryd.pinned (.plain (OpenSpec.upto stacksUsesSpec)) stacksUsesUptoCard

/-- THE SECOND FORM's CARD OF 'pawnshoplaw33.StacksNames'. -/
def stacksNamesUptoCard : Claim7 := { stood := { row := stacksNamesUptoRow, standIns := [], harness := (true, "4daf9fd32799669838d22aa47c5b432513cebeeb268cd24e6250c35a0385a75a"), looks := false }, kinds := [], alts := [], laidByText := true, laidKinds := [.data], laidTests := true, laidLooks := .later }
def StacksNamesUptoCardSaid : Prop := Claim7.holds Tryd.pinned (.plain (OpenSpec.upto stacksNamesSpec)) stacksNamesUptoCard

/-- THE SECOND FORM's CARD OF 'pawnshoplaw33.StacksCells'. -/
def stacksCellsUptoCard : Claim7 := { stood := { row := stacksCellsUptoRow, standIns := [], harness := (true, "4daf9fd32799669838d22aa47c5b432513cebeeb268cd24e6250c35a0385a75a"), looks := false }, kinds := [], alts := [], laidByText := true, laidKinds := [.data], laidTests := true, laidLooks := .later }
def StacksCellsUptoCardSaid : Prop := Claim7.holds Tryd.pinned (.plain (OpenSpec.upto stacksCellsSpec)) stacksCellsUptoCard

/-- THE SECOND FORM's CARD OF 'pawnshoplaw33.StacksOrder'. -/
def stacksOrderUptoCard : Claim7 := { stood := { row := stacksOrderUptoRow, standIns := [], harness := (true, "4daf9fd32799669838d22aa47c5b432513cebeeb268cd24e6250c35a0385a75a"), looks := false }, kinds := [], alts := [], laidByText := true, laidKinds := [.data], laidTests := true, laidLooks := .later }
def StacksOrderUptoCardSaid : Prop := Claim7.holds Tryd.pinned (.plain (OpenSpec.upto stacksOrderSpec)) stacksOrderUptoCard

/-- THE SECOND FORM's CARD OF 'pawnshoplaw33.StacksNew'. -/
def stacksNewUptoCard : Claim7 := { stood := { row := stacksNewUptoRow, standIns := [], harness := (true, "4daf9fd32799669838d22aa47c5b432513cebeeb268cd24e6250c35a0385a75a"), looks := false }, kinds := [], alts := [], laidByText := true, laidKinds := [.data], laidTests := true, laidLooks := .later }
def StacksNewUptoCardSaid : Prop := Claim7.holds Tryd.pinned (.plain (OpenSpec.upto stacksNewSpec)) stacksNewUptoCard
end Rows
end Go.Proofs.YtoobdejbcgkfdaaDoor
