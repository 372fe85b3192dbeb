/-
  DERIVED. GIVEN WITH THE SEED: THE CARDS: each row of YtepdbdckjmkbhaaGreatDoorRows.lean that lists a variable, with what it lists TIED to the program's text (the seventh form; the later family's looks); each row that meets fmt, with fmt's text TOLD by the authors' own Lean function (tested against real Go, not proved from fmt's source: count such statements apart). THE CARD IS WHAT COUNTS. Prove the row's statement (the work); the ties are given (YtepdbdckjmkbhaaGreatDoorTie.lean); close each card by the builder's one call (the guide's Derived/Test/ToyasCard.lean, 'card_holds'). Laid BY PROGRAM, IN A SANDBOX (cutbox-door.mjs). By AI agents, Wed Nov 11 2026. No macro, syntax, notation, axiom, sorry.
-/
import Derived.Test.YtepdbdckjmkbhaaGreatDoorRows
import GoSem.ClaimSeven
namespace Go.Proofs.YtepdbdckjmkbhaaGreatDoor
namespace Rows

/-- THE TIED CARD OF 'pawnshoplaw35.MonitorNames'. -/
def monitorNamesCard : Claim7 := { stood := { row := monitorNamesRow, standIns := [], harness := (true, "17e88d1669ba6527685bd459942249356576038d9601b1903af2d4ac291662d8"), looks := false }, kinds := [], alts := [], laidByText := true, laidKinds := [.data], laidTests := true, laidLooks := .later }
def MonitorNamesCardSaid : Prop := Claim7.holds Tryz.pinned (.plain (OpenSpec.ofChange monitorNamesSpec)) monitorNamesCard

/-- THE TIED CARD OF 'pawnshoplaw35.MonitorSteps'. -/
def monitorStepsCard : Claim7 := { stood := { row := monitorStepsRow, standIns := [], harness := (true, "17e88d1669ba6527685bd459942249356576038d9601b1903af2d4ac291662d8"), looks := false }, kinds := [], alts := [], laidByText := true, laidKinds := [.data], laidTests := true, laidLooks := .later }
def MonitorStepsCardSaid : Prop := Claim7.holds Tryz.pinned (.plain (OpenSpec.ofChange monitorStepsSpec)) monitorStepsCard

/-- THE SECOND FORM's CARD OF 'pawnshoplaw35.MonitorNames'. -/
def monitorNamesUptoCard : Claim7 := { stood := { row := monitorNamesUptoRow, standIns := [], harness := (true, "17e88d1669ba6527685bd459942249356576038d9601b1903af2d4ac291662d8"), looks := false }, kinds := [], alts := [], laidByText := true, laidKinds := [.data], laidTests := true, laidLooks := .later }
def MonitorNamesUptoCardSaid : Prop := Claim7.holds Tryz.pinned (.plain (OpenSpec.upto monitorNamesSpec)) monitorNamesUptoCard

/-- THE SECOND FORM's CARD OF 'pawnshoplaw35.MonitorSteps'. -/
def monitorStepsUptoCard : Claim7 := { stood := { row := monitorStepsUptoRow, standIns := [], harness := (true, "17e88d1669ba6527685bd459942249356576038d9601b1903af2d4ac291662d8"), looks := false }, kinds := [], alts := [], laidByText := true, laidKinds := [.data], laidTests := true, laidLooks := .later }
def MonitorStepsUptoCardSaid : Prop := Claim7.holds Tryz.pinned (.plain (OpenSpec.upto monitorStepsSpec)) monitorStepsUptoCard
end Rows
end Go.Proofs.YtepdbdckjmkbhaaGreatDoor
