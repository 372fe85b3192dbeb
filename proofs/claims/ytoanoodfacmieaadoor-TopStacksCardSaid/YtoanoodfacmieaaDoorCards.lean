/-
  DERIVED. GIVEN WITH THE SEED: THE CARDS: each row of YtoanoodfacmieaaDoorRows.lean that lists a variable, with what it lists TIED to the program's text (the seventh form; the later family's looks); each row that meets fmt, with fmt's text TOLD by the authors' own Lean function (tested against real Go, not proved from fmt's source: count such statements apart). THE CARD IS WHAT COUNTS. Prove the row's statement (the work); the ties are given (YtoanoodfacmieaaDoorTie.lean); close each card by the builder's one call (the guide's Derived/Test/ToyasCard.lean, 'card_holds'). Laid BY PROGRAM, IN A SANDBOX (cutbox-door.mjs). By AI agents, Wed Nov 11 2026. No macro, syntax, notation, axiom, sorry.
-/
import Derived.Test.YtoanoodfacmieaaDoorRows
import GoSem.ClaimSeven
namespace Go.Proofs.YtoanoodfacmieaaDoor
namespace Rows

/-- THE TIED CARD OF 'pawnshoptop.TopStacks'. -/
def topStacksCard : Claim7 := { stood := { row := topStacksRow, standIns := [], harness := (true, "29c7e35de7926e981058e7a9c7a050d82ae741a37ba7e99c6ffe032056e16ca7"), looks := false }, kinds := [], alts := [], laidByText := true, laidKinds := [.data], laidTests := true, laidLooks := .later }
def TopStacksCardSaid : Prop := Claim7.holds Tryd.pinned (.plain (OpenSpec.ofChange topStacksSpec)) topStacksCard

/-- THE SECOND FORM's CARD OF 'pawnshoptop.TopStacks'. -/
def topStacksUptoCard : Claim7 := { stood := { row := topStacksUptoRow, standIns := [], harness := (true, "29c7e35de7926e981058e7a9c7a050d82ae741a37ba7e99c6ffe032056e16ca7"), looks := false }, kinds := [], alts := [], laidByText := true, laidKinds := [.data], laidTests := true, laidLooks := .later }
def TopStacksUptoCardSaid : Prop := Claim7.holds Tryd.pinned (.plain (OpenSpec.upto topStacksSpec)) topStacksUptoCard
end Rows
end Go.Proofs.YtoanoodfacmieaaDoor
