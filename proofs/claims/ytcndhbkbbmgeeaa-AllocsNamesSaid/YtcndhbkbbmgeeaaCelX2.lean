/- Contracts: Asked of the reference of layer 27. -/
import Derived.Test.YtcndhbkbbmgeeaaCelX1
namespace Go.Proofs.Ytcndhbkbbmgeeaa
set_option maxRecDepth 100000
open Go.RowKit

/-- A number and an error. -/
def RetII (w : World) (n err : Int) (en : Ending) (w' : World) : Prop := en = .returned (.tuple #[.int .i64 n, .int .i64 err]) ∧ Ext w w'


end Go.Proofs.Ytcndhbkbbmgeeaa
