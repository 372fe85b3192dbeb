/-
  DERIVED. GIVEN WITH THE SEED: THE CARDS: each row of YtjfkfibhgilolaaDoorRows.lean that lists a variable, with what it lists TIED to the program's text (the seventh form; the later family's looks); each row that meets fmt, with fmt's text TOLD by the authors' own Lean function (tested against real Go, not proved from fmt's source: count such statements apart). THE CARD IS WHAT COUNTS. Prove the row's statement (the work); the ties are given (YtjfkfibhgilolaaDoorTie.lean); close each card by the builder's one call (the guide's Derived/Test/ToyasCard.lean, 'card_holds'). Laid BY PROGRAM, IN A SANDBOX (cutbox-door.mjs). By AI agents, Wed Nov 11 2026. No macro, syntax, notation, axiom, sorry.
-/
import Derived.Test.YtjfkfibhgilolaaDoorRows
import GoSem.ClaimSeven
namespace Go.Proofs.YtjfkfibhgilolaaDoor
namespace Rows

/-- THE TIED CARD OF 'pawnshoplaw30.GrantNames'. -/
def grantNamesCard : Claim7 := { stood := { row := grantNamesRow, standIns := [], harness := (true, "0eced24d22d6f494289ddd210e58d92fe3dd8602149a0963de1d017da7637c49"), looks := false }, kinds := [], alts := [], laidByText := true, laidKinds := [.data], laidTests := true, laidLooks := .later }
def GrantNamesCardSaid : Prop := Claim7.holds Tryd.pinned (.plain (OpenSpec.ofChange grantNamesSpec)) grantNamesCard

/-- THE TIED CARD OF 'pawnshoplaw31.GuardNames'. -/
def guardNamesCard : Claim7 := { stood := { row := guardNamesRow, standIns := [], harness := (true, "0eced24d22d6f494289ddd210e58d92fe3dd8602149a0963de1d017da7637c49"), looks := false }, kinds := [], alts := [], laidByText := true, laidKinds := [.data], laidTests := true, laidLooks := .later }
def GuardNamesCardSaid : Prop := Claim7.holds Tryd.pinned (.plain (OpenSpec.ofChange guardNamesSpec)) guardNamesCard

/-- THE TIED CARD OF 'pawnshoplaw32.PhasesNames'. -/
def phasesNamesCard : Claim7 := { stood := { row := phasesNamesRow, standIns := [], harness := (true, "0eced24d22d6f494289ddd210e58d92fe3dd8602149a0963de1d017da7637c49"), looks := false }, kinds := [], alts := [], laidByText := true, laidKinds := [.data], laidTests := true, laidLooks := .later }
def PhasesNamesCardSaid : Prop := Claim7.holds Tryd.pinned (.plain (OpenSpec.ofChange phasesNamesSpec)) phasesNamesCard

/-- THE TIED CARD OF 'pawnshoplaw33.StacksNames'. -/
def stacksNamesCard : Claim7 := { stood := { row := stacksNamesRow, standIns := [], harness := (true, "0eced24d22d6f494289ddd210e58d92fe3dd8602149a0963de1d017da7637c49"), looks := false }, kinds := [], alts := [], laidByText := true, laidKinds := [.data], laidTests := true, laidLooks := .later }
def StacksNamesCardSaid : Prop := Claim7.holds Tryd.pinned (.plain (OpenSpec.ofChange stacksNamesSpec)) stacksNamesCard

/-- THE TIED CARD OF 'pawnshoplaw33.StacksCells'. -/
def stacksCellsCard : Claim7 := { stood := { row := stacksCellsRow, standIns := [], harness := (true, "0eced24d22d6f494289ddd210e58d92fe3dd8602149a0963de1d017da7637c49"), looks := false }, kinds := [], alts := [], laidByText := true, laidKinds := [.data], laidTests := true, laidLooks := .later }
def StacksCellsCardSaid : Prop := Claim7.holds Tryd.pinned (.plain (OpenSpec.ofChange stacksCellsSpec)) stacksCellsCard

/-- THE TIED CARD OF 'pawnshoplaw33.StacksOrder'. -/
def stacksOrderCard : Claim7 := { stood := { row := stacksOrderRow, standIns := [], harness := (true, "0eced24d22d6f494289ddd210e58d92fe3dd8602149a0963de1d017da7637c49"), looks := false }, kinds := [], alts := [], laidByText := true, laidKinds := [.data], laidTests := true, laidLooks := .later }
def StacksOrderCardSaid : Prop := Claim7.holds Tryd.pinned (.plain (OpenSpec.ofChange stacksOrderSpec)) stacksOrderCard

/-- THE TIED CARD OF 'pawnshoplaw34.DeallocMany'. -/
def deallocManyCard : Claim7 := { stood := { row := deallocManyRow, standIns := [], harness := (true, "0eced24d22d6f494289ddd210e58d92fe3dd8602149a0963de1d017da7637c49"), looks := false }, kinds := [], alts := [], laidByText := true, laidKinds := [.data], laidTests := true, laidLooks := .later }
def DeallocManyCardSaid : Prop := Claim7.holds Tryd.pinned (.plain (OpenSpec.ofChange deallocManySpec)) deallocManyCard

/-- THE TIED CARD OF 'pawnshoplaw34.DeallocNothing'. -/
def deallocNothingCard : Claim7 := { stood := { row := deallocNothingRow, standIns := [], harness := (true, "0eced24d22d6f494289ddd210e58d92fe3dd8602149a0963de1d017da7637c49"), looks := false }, kinds := [], alts := [], laidByText := true, laidKinds := [.data], laidTests := true, laidLooks := .later }
def DeallocNothingCardSaid : Prop := Claim7.holds Tryd.pinned (.plain (OpenSpec.ofChange deallocNothingSpec)) deallocNothingCard

/-- THE TIED CARD OF 'pawnshoplaw34.DeallocNames'. -/
def deallocNamesCard : Claim7 := { stood := { row := deallocNamesRow, standIns := [], harness := (true, "0eced24d22d6f494289ddd210e58d92fe3dd8602149a0963de1d017da7637c49"), looks := false }, kinds := [], alts := [], laidByText := true, laidKinds := [.data], laidTests := true, laidLooks := .later }
def DeallocNamesCardSaid : Prop := Claim7.holds Tryd.pinned (.plain (OpenSpec.ofChange deallocNamesSpec)) deallocNamesCard

/-- THE TIED CARD OF 'pawnshoplaw34.DeallocAccess'. -/
def deallocAccessCard : Claim7 := { stood := { row := deallocAccessRow, standIns := [], harness := (true, "0eced24d22d6f494289ddd210e58d92fe3dd8602149a0963de1d017da7637c49"), looks := false }, kinds := [], alts := [], laidByText := true, laidKinds := [.data], laidTests := true, laidLooks := .later }
def DeallocAccessCardSaid : Prop := Claim7.holds Tryd.pinned (.plain (OpenSpec.ofChange deallocAccessSpec)) deallocAccessCard

/-- THE SECOND FORM's CARD OF 'pawnshoplaw30.GrantNames'. -/
def grantNamesUptoCard : Claim7 := { stood := { row := grantNamesUptoRow, standIns := [], harness := (true, "0eced24d22d6f494289ddd210e58d92fe3dd8602149a0963de1d017da7637c49"), looks := false }, kinds := [], alts := [], laidByText := true, laidKinds := [.data], laidTests := true, laidLooks := .later }
def GrantNamesUptoCardSaid : Prop := Claim7.holds Tryd.pinned (.plain (OpenSpec.upto grantNamesSpec)) grantNamesUptoCard

/-- THE SECOND FORM's CARD OF 'pawnshoplaw31.GuardNames'. -/
def guardNamesUptoCard : Claim7 := { stood := { row := guardNamesUptoRow, standIns := [], harness := (true, "0eced24d22d6f494289ddd210e58d92fe3dd8602149a0963de1d017da7637c49"), looks := false }, kinds := [], alts := [], laidByText := true, laidKinds := [.data], laidTests := true, laidLooks := .later }
def GuardNamesUptoCardSaid : Prop := Claim7.holds Tryd.pinned (.plain (OpenSpec.upto guardNamesSpec)) guardNamesUptoCard

/-- THE SECOND FORM's CARD OF 'pawnshoplaw32.PhasesNames'. -/
def phasesNamesUptoCard : Claim7 := { stood := { row := phasesNamesUptoRow, standIns := [], harness := (true, "0eced24d22d6f494289ddd210e58d92fe3dd8602149a0963de1d017da7637c49"), looks := false }, kinds := [], alts := [], laidByText := true, laidKinds := [.data], laidTests := true, laidLooks := .later }
def PhasesNamesUptoCardSaid : Prop := Claim7.holds Tryd.pinned (.plain (OpenSpec.upto phasesNamesSpec)) phasesNamesUptoCard

/-- THE SECOND FORM's CARD OF 'pawnshoplaw33.StacksNames'. -/
def stacksNamesUptoCard : Claim7 := { stood := { row := stacksNamesUptoRow, standIns := [], harness := (true, "0eced24d22d6f494289ddd210e58d92fe3dd8602149a0963de1d017da7637c49"), looks := false }, kinds := [], alts := [], laidByText := true, laidKinds := [.data], laidTests := true, laidLooks := .later }
def StacksNamesUptoCardSaid : Prop := Claim7.holds Tryd.pinned (.plain (OpenSpec.upto stacksNamesSpec)) stacksNamesUptoCard

/-- THE SECOND FORM's CARD OF 'pawnshoplaw33.StacksCells'. -/
def stacksCellsUptoCard : Claim7 := { stood := { row := stacksCellsUptoRow, standIns := [], harness := (true, "0eced24d22d6f494289ddd210e58d92fe3dd8602149a0963de1d017da7637c49"), looks := false }, kinds := [], alts := [], laidByText := true, laidKinds := [.data], laidTests := true, laidLooks := .later }
def StacksCellsUptoCardSaid : Prop := Claim7.holds Tryd.pinned (.plain (OpenSpec.upto stacksCellsSpec)) stacksCellsUptoCard

/-- THE SECOND FORM's CARD OF 'pawnshoplaw33.StacksOrder'. -/
def stacksOrderUptoCard : Claim7 := { stood := { row := stacksOrderUptoRow, standIns := [], harness := (true, "0eced24d22d6f494289ddd210e58d92fe3dd8602149a0963de1d017da7637c49"), looks := false }, kinds := [], alts := [], laidByText := true, laidKinds := [.data], laidTests := true, laidLooks := .later }
def StacksOrderUptoCardSaid : Prop := Claim7.holds Tryd.pinned (.plain (OpenSpec.upto stacksOrderSpec)) stacksOrderUptoCard

/-- THE SECOND FORM's CARD OF 'pawnshoplaw34.DeallocMany'. -/
def deallocManyUptoCard : Claim7 := { stood := { row := deallocManyUptoRow, standIns := [], harness := (true, "0eced24d22d6f494289ddd210e58d92fe3dd8602149a0963de1d017da7637c49"), looks := false }, kinds := [], alts := [], laidByText := true, laidKinds := [.data], laidTests := true, laidLooks := .later }
def DeallocManyUptoCardSaid : Prop := Claim7.holds Tryd.pinned (.plain (OpenSpec.upto deallocManySpec)) deallocManyUptoCard

/-- THE SECOND FORM's CARD OF 'pawnshoplaw34.DeallocNothing'. -/
def deallocNothingUptoCard : Claim7 := { stood := { row := deallocNothingUptoRow, standIns := [], harness := (true, "0eced24d22d6f494289ddd210e58d92fe3dd8602149a0963de1d017da7637c49"), looks := false }, kinds := [], alts := [], laidByText := true, laidKinds := [.data], laidTests := true, laidLooks := .later }
def DeallocNothingUptoCardSaid : Prop := Claim7.holds Tryd.pinned (.plain (OpenSpec.upto deallocNothingSpec)) deallocNothingUptoCard

/-- THE SECOND FORM's CARD OF 'pawnshoplaw34.DeallocNames'. -/
def deallocNamesUptoCard : Claim7 := { stood := { row := deallocNamesUptoRow, standIns := [], harness := (true, "0eced24d22d6f494289ddd210e58d92fe3dd8602149a0963de1d017da7637c49"), looks := false }, kinds := [], alts := [], laidByText := true, laidKinds := [.data], laidTests := true, laidLooks := .later }
def DeallocNamesUptoCardSaid : Prop := Claim7.holds Tryd.pinned (.plain (OpenSpec.upto deallocNamesSpec)) deallocNamesUptoCard

/-- THE SECOND FORM's CARD OF 'pawnshoplaw34.DeallocAccess'. -/
def deallocAccessUptoCard : Claim7 := { stood := { row := deallocAccessUptoRow, standIns := [], harness := (true, "0eced24d22d6f494289ddd210e58d92fe3dd8602149a0963de1d017da7637c49"), looks := false }, kinds := [], alts := [], laidByText := true, laidKinds := [.data], laidTests := true, laidLooks := .later }
def DeallocAccessUptoCardSaid : Prop := Claim7.holds Tryd.pinned (.plain (OpenSpec.upto deallocAccessSpec)) deallocAccessUptoCard
end Rows
end Go.Proofs.YtjfkfibhgilolaaDoor
