/-
  DERIVED. GIVEN WITH THE SEED: THE CARDS: each row of YtoanoodfacmieaaGreatDoorRows.lean that lists a variable, with what it lists TIED to the program's text (the seventh form; the later family's looks); each row that meets fmt, with fmt's text TOLD by the authors' own Lean function (tested against real Go, not proved from fmt's source: count such statements apart). THE CARD IS WHAT COUNTS. Prove the row's statement (the work); the ties are given (YtoanoodfacmieaaGreatDoorTie.lean); close each card by the builder's one call (the guide's Derived/Test/ToyasCard.lean, 'card_holds'). Laid BY PROGRAM, IN A SANDBOX (cutbox-door.mjs). By AI agents, Wed Nov 11 2026. No macro, syntax, notation, axiom, sorry.
-/
import Derived.Test.YtoanoodfacmieaaGreatDoorRows
import GoSem.ClaimSeven
namespace Go.Proofs.YtoanoodfacmieaaGreatDoor
namespace Rows

/-- THE TIED CARD OF 'pawnshoplaw35.MonitorSteps'. -/
def monitorStepsCard : Claim7 := { stood := { row := monitorStepsRow, standIns := [], harness := (true, "437bc8712c2c422d5f8b51962f2b39424cd94a1f0c02e7e1cd02f52e5346a130"), looks := false }, kinds := [], alts := [], laidByText := true, laidKinds := [.data], laidTests := true, laidLooks := .later }
def MonitorStepsCardSaid : Prop := Claim7.holds Tryz.pinned (.plain (OpenSpec.ofChange monitorStepsSpec)) monitorStepsCard

/-- THE SECOND FORM's CARD OF 'pawnshoplaw35.MonitorSteps'. -/
def monitorStepsUptoCard : Claim7 := { stood := { row := monitorStepsUptoRow, standIns := [], harness := (true, "437bc8712c2c422d5f8b51962f2b39424cd94a1f0c02e7e1cd02f52e5346a130"), looks := false }, kinds := [], alts := [], laidByText := true, laidKinds := [.data], laidTests := true, laidLooks := .later }
def MonitorStepsUptoCardSaid : Prop := Claim7.holds Tryz.pinned (.plain (OpenSpec.upto monitorStepsSpec)) monitorStepsUptoCard
end Rows
end Go.Proofs.YtoanoodfacmieaaGreatDoor
