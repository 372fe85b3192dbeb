/- Contracts: one and ranged of the reference of layer 33. (printed by gen/ranged33.py) -/
import Derived.Test.YtkbocenpkdaogaaDoorStkF
namespace Go.Proofs.YtkbocenpkdaogaaDoor
set_option maxRecDepth 100000
open Go.RowKit

def oneR (kind tag : Int) (it : Item) (run : List Int) (l : List Item) : List Item × Int × Int := if kind = 0 then useR l tag false run else if kind = 9 then useR l tag true run else tagR l kind tag it run
theorem oneR_read {tag : Int} {it : Item} {run : List Int} {l : List Item} : oneR 0 tag it run l = useR l tag false run := rfl
theorem oneR_write {tag : Int} {it : Item} {run : List Int} {l : List Item} : oneR 9 tag it run l = useR l tag true run := rfl
theorem oneR_tag {kind tag : Int} {it : Item} {run : List Int} {l : List Item} (h0 : kind ≠ 0) (h9 : kind ≠ 9) : oneR kind tag it run l = tagR l kind tag it run := by rw [oneR, if_neg h0, if_neg h9]



end Go.Proofs.YtkbocenpkdaogaaDoor
