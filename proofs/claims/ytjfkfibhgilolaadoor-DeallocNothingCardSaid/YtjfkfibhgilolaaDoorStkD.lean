/- Contracts: Twin of the reference of layer 33. (printed by gen/stk33.py) -/
import Derived.Test.YtjfkfibhgilolaaDoorStkC
import Derived.Deep.RegionLaw
namespace Go.Proofs.YtjfkfibhgilolaaDoor
set_option maxRecDepth 100000
open Go.RowKit


end Go.Proofs.YtjfkfibhgilolaaDoor
