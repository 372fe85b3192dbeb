/- Several texts in one: Door. -/
import Derived.Test.YtnplphcnagooeaaGreatDoorQ04
import Derived.Test.YtnplphcnagooeaaGreatDoorQ10
import Derived.Test.YtnplphcnagooeaaGreatDoorCards
import Derived.Test.YtnplphcnagooeaaGreatDoorTie
import Derived.ProofKit
import Derived.OpenShut
import Derived.Deep.DeepHandedRow
import Derived.Lib.LaidTab
/- How a statement is closed whose row lists the variable perms: what it holds at the start. -/
namespace Go.Proofs.YtnplphcnagooeaaGreatDoor
set_option maxRecDepth 100000
open Go.ChangeShapes Go.WideShapes Go.ChangeAt Go.RowKit
theorem u8B_of {x : Int} (h : (Lit.int .u8 x).wf=true) : u8B x:=by simpa [Lit.wf,IntKind.min,IntKind.max,IntKind.signed,IntKind.bits,u8B] using h
theorem gPerms : Tryz.prog.globalNamed "pawnshop/grant.perms" = some 0 := by kernel_rfl
theorem gPermsType : (Tryz.prog.globals[0]?).map (·.type)=some 180:=by kernel_rfl
theorem cellsPerms : Tryz.prog.cellsOf 180=5:=by kernel_rfl
theorem cellsU8 : Tryz.prog.cellsOf 5=1:=by kernel_rfl
theorem perms_of_laid {W : World} (h : laidMetH Tryz.prog [("pawnshop/grant.perms", Rows.laid_pawnshop_grant_perms)] W) : Perms W := by
 have hT : Lib.TabIs Tryz.prog W "pawnshop/grant.perms" .u8 [0, 4, 1, 2, 3] := Lib.tabIs_of_head (rest := []) gPerms gPermsType Tryz.underlying180 Tryz.underlying5 cellsU8 cellsPerms h
 exact ⟨hT.cell gPerms 0 (by decide),hT.cell gPerms 1 (by decide),hT.cell gPerms 2 (by decide),hT.cell gPerms 3 (by decide),hT.cell gPerms 4 (by decide)⟩
noncomputable def doorWorld (os : Os) : World :=
 { World.holding Tryz.prog os ⟨#[],#[],[]⟩ with heap:=(World.holding Tryz.prog os ⟨#[],#[],[]⟩).heap.modify 0 fun
   | .cells _ t frozen => .cells #[.int .u8 0,.int .u8 4,.int .u8 1,.int .u8 2,.int .u8 3] t frozen
   | o=>o }
end Go.Proofs.YtnplphcnagooeaaGreatDoor
