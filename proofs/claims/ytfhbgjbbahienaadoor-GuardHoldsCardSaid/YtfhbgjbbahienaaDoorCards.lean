/-
  DERIVED. GIVEN WITH THE SEED: THE CARDS: each row of YtfhbgjbbahienaaDoorRows.lean that lists a variable, with what it lists TIED to the program's text (the seventh form; the later family's looks); each row that meets fmt, with fmt's text TOLD by the authors' own Lean function (tested against real Go, not proved from fmt's source: count such statements apart). THE CARD IS WHAT COUNTS. Prove the row's statement (the work); the ties are given (YtfhbgjbbahienaaDoorTie.lean); close each card by the builder's one call (the guide's Derived/Test/ToyasCard.lean, 'card_holds'). Laid BY PROGRAM, IN A SANDBOX (cutbox-door.mjs). By AI agents, Wed Nov 11 2026. No macro, syntax, notation, axiom, sorry.
-/
import Derived.Test.YtfhbgjbbahienaaDoorRows
import GoSem.ClaimSeven
namespace Go.Proofs.YtfhbgjbbahienaaDoor
namespace Rows

/-- THE TIED CARD OF 'pawnshoplaw30.GrantAccess'. -/
def grantAccessCard : Claim7 := { stood := { row := grantAccessRow, standIns := [], harness := (true, "7966878b09b07ef6bdc98ee6033f21b833f373396f422f5f97f024dabef8dccd"), looks := false }, kinds := [], alts := [], laidByText := true, laidKinds := [.data], laidTests := true, laidLooks := .later }
def GrantAccessCardSaid : Prop := Claim7.holds Tryd.pinned (.plain (OpenSpec.ofChange grantAccessSpec)) grantAccessCard

/-- THE TIED CARD OF 'pawnshoplaw30.GrantTags'. -/
def grantTagsCard : Claim7 := { stood := { row := grantTagsRow, standIns := [], harness := (true, "7966878b09b07ef6bdc98ee6033f21b833f373396f422f5f97f024dabef8dccd"), looks := false }, kinds := [], alts := [], laidByText := true, laidKinds := [.data], laidTests := true, laidLooks := .later }
def GrantTagsCardSaid : Prop := Claim7.holds Tryd.pinned (.plain (OpenSpec.ofChange grantTagsSpec)) grantTagsCard

/-- THE TIED CARD OF 'pawnshoplaw30.GrantNames'. -/
def grantNamesCard : Claim7 := { stood := { row := grantNamesRow, standIns := [], harness := (true, "7966878b09b07ef6bdc98ee6033f21b833f373396f422f5f97f024dabef8dccd"), looks := false }, kinds := [], alts := [], laidByText := true, laidKinds := [.data], laidTests := true, laidLooks := .later }
def GrantNamesCardSaid : Prop := Claim7.holds Tryd.pinned (.plain (OpenSpec.ofChange grantNamesSpec)) grantNamesCard

/-- THE TIED CARD OF 'pawnshoplaw30.GrantTop'. -/
def grantTopCard : Claim7 := { stood := { row := grantTopRow, standIns := [], harness := (true, "7966878b09b07ef6bdc98ee6033f21b833f373396f422f5f97f024dabef8dccd"), looks := false }, kinds := [], alts := [], laidByText := true, laidKinds := [.data], laidTests := true, laidLooks := .later }
def GrantTopCardSaid : Prop := Claim7.holds Tryd.pinned (.plain (OpenSpec.ofChange grantTopSpec)) grantTopCard

/-- THE TIED CARD OF 'pawnshoplaw31.GuardUses'. -/
def guardUsesCard : Claim7 := { stood := { row := guardUsesRow, standIns := [], harness := (true, "7966878b09b07ef6bdc98ee6033f21b833f373396f422f5f97f024dabef8dccd"), looks := false }, kinds := [], alts := [], laidByText := true, laidKinds := [.data], laidTests := true, laidLooks := .later }
def GuardUsesCardSaid : Prop := Claim7.holds Tryd.pinned (.plain (OpenSpec.ofChange guardUsesSpec)) guardUsesCard

/-- THE TIED CARD OF 'pawnshoplaw31.GuardHolds'. -/
def guardHoldsCard : Claim7 := { stood := { row := guardHoldsRow, standIns := [], harness := (true, "7966878b09b07ef6bdc98ee6033f21b833f373396f422f5f97f024dabef8dccd"), looks := false }, kinds := [], alts := [], laidByText := true, laidKinds := [.data], laidTests := true, laidLooks := .later }
def GuardHoldsCardSaid : Prop := Claim7.holds Tryd.pinned (.plain (OpenSpec.ofChange guardHoldsSpec)) guardHoldsCard

/-- THE TIED CARD OF 'pawnshoplaw31.GuardFewer'. -/
def guardFewerCard : Claim7 := { stood := { row := guardFewerRow, standIns := [], harness := (true, "7966878b09b07ef6bdc98ee6033f21b833f373396f422f5f97f024dabef8dccd"), looks := false }, kinds := [], alts := [], laidByText := true, laidKinds := [.data], laidTests := true, laidLooks := .later }
def GuardFewerCardSaid : Prop := Claim7.holds Tryd.pinned (.plain (OpenSpec.ofChange guardFewerSpec)) guardFewerCard

/-- THE TIED CARD OF 'pawnshoplaw31.GuardNames'. -/
def guardNamesCard : Claim7 := { stood := { row := guardNamesRow, standIns := [], harness := (true, "7966878b09b07ef6bdc98ee6033f21b833f373396f422f5f97f024dabef8dccd"), looks := false }, kinds := [], alts := [], laidByText := true, laidKinds := [.data], laidTests := true, laidLooks := .later }
def GuardNamesCardSaid : Prop := Claim7.holds Tryd.pinned (.plain (OpenSpec.ofChange guardNamesSpec)) guardNamesCard

/-- THE SECOND FORM's CARD OF 'pawnshoplaw30.GrantAccess'. -/
def grantAccessUptoCard : Claim7 := { stood := { row := grantAccessUptoRow, standIns := [], harness := (true, "7966878b09b07ef6bdc98ee6033f21b833f373396f422f5f97f024dabef8dccd"), looks := false }, kinds := [], alts := [], laidByText := true, laidKinds := [.data], laidTests := true, laidLooks := .later }
def GrantAccessUptoCardSaid : Prop := Claim7.holds Tryd.pinned (.plain (OpenSpec.upto grantAccessSpec)) grantAccessUptoCard

/-- THE SECOND FORM's CARD OF 'pawnshoplaw30.GrantTags'. -/
def grantTagsUptoCard : Claim7 := { stood := { row := grantTagsUptoRow, standIns := [], harness := (true, "7966878b09b07ef6bdc98ee6033f21b833f373396f422f5f97f024dabef8dccd"), looks := false }, kinds := [], alts := [], laidByText := true, laidKinds := [.data], laidTests := true, laidLooks := .later }
def GrantTagsUptoCardSaid : Prop := Claim7.holds Tryd.pinned (.plain (OpenSpec.upto grantTagsSpec)) grantTagsUptoCard

/-- THE SECOND FORM's CARD OF 'pawnshoplaw30.GrantNames'. -/
def grantNamesUptoCard : Claim7 := { stood := { row := grantNamesUptoRow, standIns := [], harness := (true, "7966878b09b07ef6bdc98ee6033f21b833f373396f422f5f97f024dabef8dccd"), looks := false }, kinds := [], alts := [], laidByText := true, laidKinds := [.data], laidTests := true, laidLooks := .later }
def GrantNamesUptoCardSaid : Prop := Claim7.holds Tryd.pinned (.plain (OpenSpec.upto grantNamesSpec)) grantNamesUptoCard

/-- THE SECOND FORM's CARD OF 'pawnshoplaw30.GrantTop'. -/
def grantTopUptoCard : Claim7 := { stood := { row := grantTopUptoRow, standIns := [], harness := (true, "7966878b09b07ef6bdc98ee6033f21b833f373396f422f5f97f024dabef8dccd"), looks := false }, kinds := [], alts := [], laidByText := true, laidKinds := [.data], laidTests := true, laidLooks := .later }
def GrantTopUptoCardSaid : Prop := Claim7.holds Tryd.pinned (.plain (OpenSpec.upto grantTopSpec)) grantTopUptoCard

/-- THE SECOND FORM's CARD OF 'pawnshoplaw31.GuardUses'. -/
def guardUsesUptoCard : Claim7 := { stood := { row := guardUsesUptoRow, standIns := [], harness := (true, "7966878b09b07ef6bdc98ee6033f21b833f373396f422f5f97f024dabef8dccd"), looks := false }, kinds := [], alts := [], laidByText := true, laidKinds := [.data], laidTests := true, laidLooks := .later }
def GuardUsesUptoCardSaid : Prop := Claim7.holds Tryd.pinned (.plain (OpenSpec.upto guardUsesSpec)) guardUsesUptoCard

/-- THE SECOND FORM's CARD OF 'pawnshoplaw31.GuardHolds'. -/
def guardHoldsUptoCard : Claim7 := { stood := { row := guardHoldsUptoRow, standIns := [], harness := (true, "7966878b09b07ef6bdc98ee6033f21b833f373396f422f5f97f024dabef8dccd"), looks := false }, kinds := [], alts := [], laidByText := true, laidKinds := [.data], laidTests := true, laidLooks := .later }
def GuardHoldsUptoCardSaid : Prop := Claim7.holds Tryd.pinned (.plain (OpenSpec.upto guardHoldsSpec)) guardHoldsUptoCard

/-- THE SECOND FORM's CARD OF 'pawnshoplaw31.GuardFewer'. -/
def guardFewerUptoCard : Claim7 := { stood := { row := guardFewerUptoRow, standIns := [], harness := (true, "7966878b09b07ef6bdc98ee6033f21b833f373396f422f5f97f024dabef8dccd"), looks := false }, kinds := [], alts := [], laidByText := true, laidKinds := [.data], laidTests := true, laidLooks := .later }
def GuardFewerUptoCardSaid : Prop := Claim7.holds Tryd.pinned (.plain (OpenSpec.upto guardFewerSpec)) guardFewerUptoCard

/-- THE SECOND FORM's CARD OF 'pawnshoplaw31.GuardNames'. -/
def guardNamesUptoCard : Claim7 := { stood := { row := guardNamesUptoRow, standIns := [], harness := (true, "7966878b09b07ef6bdc98ee6033f21b833f373396f422f5f97f024dabef8dccd"), looks := false }, kinds := [], alts := [], laidByText := true, laidKinds := [.data], laidTests := true, laidLooks := .later }
def GuardNamesUptoCardSaid : Prop := Claim7.holds Tryd.pinned (.plain (OpenSpec.upto guardNamesSpec)) guardNamesUptoCard
end Rows
end Go.Proofs.YtfhbgjbbahienaaDoor
