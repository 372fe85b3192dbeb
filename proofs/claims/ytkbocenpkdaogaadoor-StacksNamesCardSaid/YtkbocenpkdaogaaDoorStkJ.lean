/- Contracts: use and one of the statements of layer 33. (printed by gen/law33b.py) -/
import Derived.Test.YtkbocenpkdaogaaDoorStkI
namespace Go.Proofs.YtkbocenpkdaogaaDoor
set_option maxRecDepth 100000
open Go.RowKit

def useA (x : Stk) (what a n tag : Int) (run : List Int) : Stk × Int × Int := if what = 0 then use33 x a n tag false run else if what = 5 then use33 x a n tag true run else tag33 x a n what tag ⟨0, 9, 0⟩ run
def oneA (what tag : Int) (run : List Int) (l : List Item) : List Item × Int × Int := if what = 0 then useR l tag false run else if what = 5 then useR l tag true run else tagR l what tag ⟨0, 9, 0⟩ run
theorem useA_read {x : Stk} {a n tag : Int} {run : List Int} : useA x 0 a n tag run = use33 x a n tag false run := rfl
theorem useA_write {x : Stk} {a n tag : Int} {run : List Int} : useA x 5 a n tag run = use33 x a n tag true run := rfl
theorem useA_tag {x : Stk} {what a n tag : Int} {run : List Int} (h0 : what ≠ 0) (h5 : what ≠ 5) : useA x what a n tag run = tag33 x a n what tag ⟨0, 9, 0⟩ run := by rw [useA, if_neg h0, if_neg h5]
theorem oneA_read {l : List Item} {tag : Int} {run : List Int} : oneA 0 tag run l = useR l tag false run := rfl
theorem oneA_write {l : List Item} {tag : Int} {run : List Int} : oneA 5 tag run l = useR l tag true run := rfl
theorem oneA_tag {l : List Item} {what tag : Int} {run : List Int} (h0 : what ≠ 0) (h5 : what ≠ 5) : oneA what tag run l = tagR l what tag ⟨0, 9, 0⟩ run := by rw [oneA, if_neg h0, if_neg h5]



end Go.Proofs.YtkbocenpkdaogaaDoor
