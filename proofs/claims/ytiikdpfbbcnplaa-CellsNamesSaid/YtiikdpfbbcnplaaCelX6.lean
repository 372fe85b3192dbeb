/- Contract: StoreAll of the reference of layer 27. -/
import Derived.Test.YtiikdpfbbcnplaaCelX5
import Derived.Deep.RegionHeld3
namespace Go.Proofs.Ytiikdpfbbcnplaa
set_option maxRecDepth 100000
open Go.RowKit

theorem RetMW.none {w w' : World} {why err : Int} (h : Ext w w') : RetMW w Mem.zero why err (.returned (.tuple #[.agg #[.slice none 0 0, .int .i64 0], .int .u8 why, .int .i64 err])) w' := ⟨_, rfl, FrM.zero _ _, h⟩


end Go.Proofs.Ytiikdpfbbcnplaa
