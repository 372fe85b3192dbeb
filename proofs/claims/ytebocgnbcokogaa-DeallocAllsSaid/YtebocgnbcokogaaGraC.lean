/- Contracts: grant.Perm, grant.Retag, the reference's Tagged and Retag (layer 30). -/
import Derived.Test.YtebocgnbcokogaaGraB
namespace Go.Proofs.Ytebocgnbcokogaa
set_option maxRecDepth 100000
open Go.RowKit



end Go.Proofs.Ytebocgnbcokogaa
