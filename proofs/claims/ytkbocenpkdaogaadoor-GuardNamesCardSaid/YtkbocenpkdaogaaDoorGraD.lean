/- Contracts: the reference's Tagged and Retag (layer 30). -/
import Derived.Test.YtkbocenpkdaogaaDoorGraC
import Derived.Deep.RegionHeld3
namespace Go.Proofs.YtkbocenpkdaogaaDoor
set_option maxRecDepth 100000
open Go.RowKit

def tagdL (l : List Item) (k old : Int) (x : Item) : List Item := if usedW l old (writesOf k) = 0 then usedL l old (writesOf k) ++ [⟨permOf k, x.t, x.c⟩] else []
def tagdG (l : List Item) (k old : Int) : List Item := if usedW l old (writesOf k) = 0 then usedG l old (writesOf k) else []
theorem tagd_no {l : List Item} {k old : Int} {x : Item} (h : usedW l old (writesOf k) ≠ 0) : tagdL l k old x = [] ∧ tagdG l k old = [] := by simp [tagdL, tagdG, h]
theorem tagd_yes {l : List Item} {k old : Int} {x : Item} (h : usedW l old (writesOf k) = 0) : tagdL l k old x = usedL l old (writesOf k) ++ [⟨permOf k, x.t, x.c⟩] ∧ tagdG l k old = usedG l old (writesOf k) := by simp [tagdL, tagdG, h]



end Go.Proofs.YtkbocenpkdaogaaDoor
