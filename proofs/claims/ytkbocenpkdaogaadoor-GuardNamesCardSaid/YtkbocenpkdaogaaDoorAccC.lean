/- Contracts: the reference's Used. (printed by gen/accc.py) -/
import Derived.Test.YtkbocenpkdaogaaDoorAccA
import Derived.LoopIn
namespace Go.Proofs.YtkbocenpkdaogaaDoor
set_option maxRecDepth 100000
open Go.RowKit

theorem filter_yes (n : List Item) : n.filter (fun _ => true) = n := List.filter_eq_self.2 (fun _ _ => rfl)
theorem filter_no (n : List Item) : n.filter (fun x => !((fun _ => true) x)) = [] := List.filter_eq_nil_iff.2 (by simp)


end Go.Proofs.YtkbocenpkdaogaaDoor
