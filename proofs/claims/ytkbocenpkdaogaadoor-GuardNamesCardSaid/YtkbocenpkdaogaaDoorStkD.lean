/- Contracts: Twin of the reference of layer 33. (printed by gen/stk33.py) -/
import Derived.Test.YtkbocenpkdaogaaDoorStkC
import Derived.Deep.RegionLaw
namespace Go.Proofs.YtkbocenpkdaogaaDoor
set_option maxRecDepth 100000
open Go.RowKit


end Go.Proofs.YtkbocenpkdaogaaDoor
