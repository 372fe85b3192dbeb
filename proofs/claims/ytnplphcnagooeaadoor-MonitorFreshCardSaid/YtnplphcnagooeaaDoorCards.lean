/-
  DERIVED. GIVEN WITH THE SEED: THE CARDS: each row of YtnplphcnagooeaaDoorRows.lean that lists a variable, with what it lists TIED to the program's text (the seventh form; the later family's looks); each row that meets fmt, with fmt's text TOLD by the authors' own Lean function (tested against real Go, not proved from fmt's source: count such statements apart). THE CARD IS WHAT COUNTS. Prove the row's statement (the work); the ties are given (YtnplphcnagooeaaDoorTie.lean); close each card by the builder's one call (the guide's Derived/Test/ToyasCard.lean, 'card_holds'). Laid BY PROGRAM, IN A SANDBOX (cutbox-door.mjs). By AI agents, Wed Nov 11 2026. No macro, syntax, notation, axiom, sorry.
-/
import Derived.Test.YtnplphcnagooeaaDoorRows
import GoSem.ClaimSeven
namespace Go.Proofs.YtnplphcnagooeaaDoor
namespace Rows

/-- THE TIED CARD OF 'pawnshoptop.TopStacks'. -/
def topStacksCard : Claim7 := { stood := { row := topStacksRow, standIns := [], harness := (true, "3e4725534b5fda264990b78b102271a013f7c44b26931f8a13c35c76481a4c95"), looks := false }, kinds := [], alts := [], laidByText := true, laidKinds := [.data], laidTests := true, laidLooks := .later }
def TopStacksCardSaid : Prop := Claim7.holds Tryd.pinned (.plain (OpenSpec.ofChange topStacksSpec)) topStacksCard

/-- THE TIED CARD OF 'pawnshoplaw35.MonitorFresh'. -/
def monitorFreshCard : Claim7 := { stood := { row := monitorFreshRow, standIns := [], harness := (true, "3e4725534b5fda264990b78b102271a013f7c44b26931f8a13c35c76481a4c95"), looks := false }, kinds := [], alts := [], laidByText := true, laidKinds := [.data], laidTests := true, laidLooks := .later }
def MonitorFreshCardSaid : Prop := Claim7.holds Tryd.pinned (.plain (OpenSpec.ofChange monitorFreshSpec)) monitorFreshCard

/-- THE SECOND FORM's CARD OF 'pawnshoptop.TopStacks'. -/
def topStacksUptoCard : Claim7 := { stood := { row := topStacksUptoRow, standIns := [], harness := (true, "3e4725534b5fda264990b78b102271a013f7c44b26931f8a13c35c76481a4c95"), looks := false }, kinds := [], alts := [], laidByText := true, laidKinds := [.data], laidTests := true, laidLooks := .later }
def TopStacksUptoCardSaid : Prop := Claim7.holds Tryd.pinned (.plain (OpenSpec.upto topStacksSpec)) topStacksUptoCard

/-- THE SECOND FORM's CARD OF 'pawnshoplaw35.MonitorFresh'. -/
def monitorFreshUptoCard : Claim7 := { stood := { row := monitorFreshUptoRow, standIns := [], harness := (true, "3e4725534b5fda264990b78b102271a013f7c44b26931f8a13c35c76481a4c95"), looks := false }, kinds := [], alts := [], laidByText := true, laidKinds := [.data], laidTests := true, laidLooks := .later }
def MonitorFreshUptoCardSaid : Prop := Claim7.holds Tryd.pinned (.plain (OpenSpec.upto monitorFreshSpec)) monitorFreshUptoCard
end Rows
end Go.Proofs.YtnplphcnagooeaaDoor
