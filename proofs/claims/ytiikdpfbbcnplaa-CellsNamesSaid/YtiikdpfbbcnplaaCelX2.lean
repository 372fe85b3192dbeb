/- Contracts: Asked of the reference of layer 27. -/
import Derived.Test.YtiikdpfbbcnplaaCelX1
namespace Go.Proofs.Ytiikdpfbbcnplaa
set_option maxRecDepth 100000
open Go.RowKit

/-- A number and an error. -/
def RetII (w : World) (n err : Int) (en : Ending) (w' : World) : Prop := en = .returned (.tuple #[.int .i64 n, .int .i64 err]) ∧ Ext w w'


end Go.Proofs.Ytiikdpfbbcnplaa
