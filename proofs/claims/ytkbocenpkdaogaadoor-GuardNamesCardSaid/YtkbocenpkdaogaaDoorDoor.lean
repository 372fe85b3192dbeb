/- How a statement is closed whose row lists the variable perms: what it holds at the start. -/
import Derived.Test.YtkbocenpkdaogaaDoorGraB
import Derived.Test.YtkbocenpkdaogaaDoorClose
import Derived.Test.YtkbocenpkdaogaaDoorCards
import Derived.Test.YtkbocenpkdaogaaDoorTie
import Derived.ProofKit
import Derived.OpenShut
import Derived.Deep.DeepHandedRow
import Derived.Lib.LaidTab
namespace Go.Proofs.YtkbocenpkdaogaaDoor
set_option maxRecDepth 100000
open Go.ChangeShapes Go.WideShapes Go.ChangeAt Go.RowKit

theorem u8B_of {x : Int} (h : (Lit.int .u8 x).wf = true) : u8B x := by simpa [Lit.wf, IntKind.min, IntKind.max, IntKind.signed, IntKind.bits, u8B] using h
theorem i64B_of {x : Int} (h : (Lit.int .i64 x).wf = true) : i64B x := by simpa [Lit.wf, IntKind.min, IntKind.max, IntKind.signed, IntKind.bits, i64B] using h

theorem gPerms : Tryd.prog.globalNamed "pawnshop/grant.perms" = some 0 := by kernel_rfl
theorem gPermsType : (Tryd.prog.globals[0]?).map (·.type) = some 73 := by kernel_rfl
theorem cellsPerms : Tryd.prog.cellsOf 73 = 5 := by kernel_rfl
theorem cellsU8 : Tryd.prog.cellsOf 5 = 1 := by kernel_rfl

theorem perms_of_laid {W : World} (h : laidMetH Tryd.prog [("pawnshop/grant.perms", Rows.laid_pawnshop_grant_perms)] W) : Perms W := by
  have hT : Lib.TabIs Tryd.prog W "pawnshop/grant.perms" .u8 [0, 4, 1, 2, 3] := Lib.tabIs_of_head (rest := []) gPerms gPermsType Tryd.underlying73 Tryd.underlying5 cellsU8 cellsPerms h
  exact ⟨hT.cell gPerms 0 (by decide), hT.cell gPerms 1 (by decide), hT.cell gPerms 2 (by decide), hT.cell gPerms 3 (by decide), hT.cell gPerms 4 (by decide)⟩

/-- A world for the witness: the settled one, in which perms holds what its initialiser lays. -/
noncomputable def doorWorld (os : Os) : World :=
  { World.holding Tryd.prog os ⟨#[], #[], []⟩ with heap := (World.holding Tryd.prog os ⟨#[], #[], []⟩).heap.modify 0 fun
      | .cells _ t frozen => .cells #[.int .u8 0, .int .u8 4, .int .u8 1, .int .u8 2, .int .u8 3] t frozen
      | o => o }

end Go.Proofs.YtkbocenpkdaogaaDoor
