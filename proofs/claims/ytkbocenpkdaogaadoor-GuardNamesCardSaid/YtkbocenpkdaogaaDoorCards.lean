/-
  DERIVED. GIVEN WITH THE SEED: THE CARDS: each row of YtkbocenpkdaogaaDoorRows.lean that lists a variable, with what it lists TIED to the program's text (the seventh form; the later family's looks); each row that meets fmt, with fmt's text TOLD by the authors' own Lean function (tested against real Go, not proved from fmt's source: count such statements apart). THE CARD IS WHAT COUNTS. Prove the row's statement (the work); the ties are given (YtkbocenpkdaogaaDoorTie.lean); close each card by the builder's one call (the guide's Derived/Test/ToyasCard.lean, 'card_holds'). Laid BY PROGRAM, IN A SANDBOX (cutbox-door.mjs). By AI agents, Wed Nov 11 2026. No macro, syntax, notation, axiom, sorry.
-/
import Derived.Test.YtkbocenpkdaogaaDoorRows
import GoSem.ClaimSeven
namespace Go.Proofs.YtkbocenpkdaogaaDoor
namespace Rows

/-- THE TIED CARD OF 'pawnshoplaw30.GrantNames'. -/
def grantNamesCard : Claim7 := { stood := { row := grantNamesRow, standIns := [], harness := (true, "9f3cc30c86182e531f414476e9fdf93f0b337473bc7e99bb5c9b7706b61b99d5"), looks := false }, kinds := [], alts := [], laidByText := true, laidKinds := [.data], laidTests := true, laidLooks := .later }
def GrantNamesCardSaid : Prop := Claim7.holds Tryd.pinned (.plain (OpenSpec.ofChange grantNamesSpec)) grantNamesCard

/-- THE TIED CARD OF 'pawnshoplaw31.GuardNames'. -/
def guardNamesCard : Claim7 := { stood := { row := guardNamesRow, standIns := [], harness := (true, "9f3cc30c86182e531f414476e9fdf93f0b337473bc7e99bb5c9b7706b61b99d5"), looks := false }, kinds := [], alts := [], laidByText := true, laidKinds := [.data], laidTests := true, laidLooks := .later }
def GuardNamesCardSaid : Prop := Claim7.holds Tryd.pinned (.plain (OpenSpec.ofChange guardNamesSpec)) guardNamesCard

/-- THE TIED CARD OF 'pawnshoplaw32.PhasesNames'. -/
def phasesNamesCard : Claim7 := { stood := { row := phasesNamesRow, standIns := [], harness := (true, "9f3cc30c86182e531f414476e9fdf93f0b337473bc7e99bb5c9b7706b61b99d5"), looks := false }, kinds := [], alts := [], laidByText := true, laidKinds := [.data], laidTests := true, laidLooks := .later }
def PhasesNamesCardSaid : Prop := Claim7.holds Tryd.pinned (.plain (OpenSpec.ofChange phasesNamesSpec)) phasesNamesCard

/-- THE TIED CARD OF 'pawnshoplaw33.StacksNames'. -/
def stacksNamesCard : Claim7 := { stood := { row := stacksNamesRow, standIns := [], harness := (true, "9f3cc30c86182e531f414476e9fdf93f0b337473bc7e99bb5c9b7706b61b99d5"), looks := false }, kinds := [], alts := [], laidByText := true, laidKinds := [.data], laidTests := true, laidLooks := .later }
def StacksNamesCardSaid : Prop := Claim7.holds Tryd.pinned (.plain (OpenSpec.ofChange stacksNamesSpec)) stacksNamesCard

/-- THE TIED CARD OF 'pawnshoplaw34.DeallocNames'. -/
def deallocNamesCard : Claim7 := { stood := { row := deallocNamesRow, standIns := [], harness := (true, "9f3cc30c86182e531f414476e9fdf93f0b337473bc7e99bb5c9b7706b61b99d5"), looks := false }, kinds := [], alts := [], laidByText := true, laidKinds := [.data], laidTests := true, laidLooks := .later }
def DeallocNamesCardSaid : Prop := Claim7.holds Tryd.pinned (.plain (OpenSpec.ofChange deallocNamesSpec)) deallocNamesCard

/-- THE SECOND FORM's CARD OF 'pawnshoplaw30.GrantNames'. -/
def grantNamesUptoCard : Claim7 := { stood := { row := grantNamesUptoRow, standIns := [], harness := (true, "9f3cc30c86182e531f414476e9fdf93f0b337473bc7e99bb5c9b7706b61b99d5"), looks := false }, kinds := [], alts := [], laidByText := true, laidKinds := [.data], laidTests := true, laidLooks := .later }
def GrantNamesUptoCardSaid : Prop := Claim7.holds Tryd.pinned (.plain (OpenSpec.upto grantNamesSpec)) grantNamesUptoCard

/-- THE SECOND FORM's CARD OF 'pawnshoplaw31.GuardNames'. -/
def guardNamesUptoCard : Claim7 := { stood := { row := guardNamesUptoRow, standIns := [], harness := (true, "9f3cc30c86182e531f414476e9fdf93f0b337473bc7e99bb5c9b7706b61b99d5"), looks := false }, kinds := [], alts := [], laidByText := true, laidKinds := [.data], laidTests := true, laidLooks := .later }
def GuardNamesUptoCardSaid : Prop := Claim7.holds Tryd.pinned (.plain (OpenSpec.upto guardNamesSpec)) guardNamesUptoCard

/-- THE SECOND FORM's CARD OF 'pawnshoplaw32.PhasesNames'. -/
def phasesNamesUptoCard : Claim7 := { stood := { row := phasesNamesUptoRow, standIns := [], harness := (true, "9f3cc30c86182e531f414476e9fdf93f0b337473bc7e99bb5c9b7706b61b99d5"), looks := false }, kinds := [], alts := [], laidByText := true, laidKinds := [.data], laidTests := true, laidLooks := .later }
def PhasesNamesUptoCardSaid : Prop := Claim7.holds Tryd.pinned (.plain (OpenSpec.upto phasesNamesSpec)) phasesNamesUptoCard

/-- THE SECOND FORM's CARD OF 'pawnshoplaw33.StacksNames'. -/
def stacksNamesUptoCard : Claim7 := { stood := { row := stacksNamesUptoRow, standIns := [], harness := (true, "9f3cc30c86182e531f414476e9fdf93f0b337473bc7e99bb5c9b7706b61b99d5"), looks := false }, kinds := [], alts := [], laidByText := true, laidKinds := [.data], laidTests := true, laidLooks := .later }
def StacksNamesUptoCardSaid : Prop := Claim7.holds Tryd.pinned (.plain (OpenSpec.upto stacksNamesSpec)) stacksNamesUptoCard

/-- THE SECOND FORM's CARD OF 'pawnshoplaw34.DeallocNames'. -/
def deallocNamesUptoCard : Claim7 := { stood := { row := deallocNamesUptoRow, standIns := [], harness := (true, "9f3cc30c86182e531f414476e9fdf93f0b337473bc7e99bb5c9b7706b61b99d5"), looks := false }, kinds := [], alts := [], laidByText := true, laidKinds := [.data], laidTests := true, laidLooks := .later }
def DeallocNamesUptoCardSaid : Prop := Claim7.holds Tryd.pinned (.plain (OpenSpec.upto deallocNamesSpec)) deallocNamesUptoCard
end Rows
end Go.Proofs.YtkbocenpkdaogaaDoor
