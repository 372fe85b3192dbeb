/-
  NARROWER THAN 'FOR EVERY INPUT', by the rows' own cells (each row's printed sentence says how): GrantNames: laid · GuardNames: laid · PhasesNames: laid · StacksNames: laid · StacksCells: laid · StacksOrder: laid · DeallocMany: laid · DeallocNothing: laid · DeallocNames: laid · DeallocAccess: laid.
  DERIVED. THE GIVEN ROWS OF THIS SEAT. 10 by the template 'for every input the law returns true; each argument reads behind the call as it read before'; 0 by the template 'total and deterministic' (their statements: YtjfkfibhgilolaaDoorTotals.lean).
  GIVEN WITH THE SEED: the statements are not yours to turn. If you find one false, say at which input.
  Laid BY PROGRAM, IN A SANDBOX (cutbox-rows.mjs): the forced cells as the released guide's own fill.sh prints them over the translation e22f20eafdd7a33d… (all of the seat's roots in one cut). By AI agents, Wed Nov 11 2026. No macro, syntax, notation, axiom, sorry.
-/
import Derived.Test.YtjfkfibhgilolaaDoorChecked
import GoSem.Claim
import GoSem.ClaimJoined
import GoSem.ClaimMapViews
import Derived.JoinedTies
import Derived.KernelRfl
namespace Go.Proofs.YtjfkfibhgilolaaDoor
/- THE CELL 'sum', in the pinned program and in every row, IS THE sha256 OF THE DUMP (.gsa) THAT YtjfkfibhgilolaaDoorProg.lean LOADS. Nothing in Lean hashes anything: it is a label: what it is worth is what the hold of that sum in a sandbox is worth. -/
noncomputable def Tryd.pinned : Pinned := { name := "ytjfkfibhgilolaadoor", sum := "e22f20eafdd7a33d5015f7c659230eb3bf77f1aaab1e301202866e4443ee8f95", checked := Tryd.checked }
namespace Rows
def none {H : Type} : Left H := { results := [], args := [] }

/- WHAT THE LISTED PACKAGE-LEVEL VARIABLES READ AS WHEN THE CALL BEGINS. Each datum BY PROGRAM (the guide's laid-datum.mjs) off the statement by which the dump's own 'gosem.cut.vars' lays the variable. In a bare row this is a premise. The card (YtjfkfibhgilolaaDoorCards.lean) ties it to the program's text. -/
def laid_pawnshop_grant_perms {H : Type} : DataW H := .agg [.lit (.int .u8 0), .lit (.int .u8 4), .lit (.int .u8 1), .lit (.int .u8 2), .lit (.int .u8 3)]

/-- 'pawnshoplaw30.GrantNames': WHATEVER THE INPUT: true; the input reads as it did. -/
def grantNamesSpec : ChangeSpec := { name := "grantNames", fn := fun _ => fun
  | [] => { results := [.lit (.bool true)], args := [] }
  | _ => none }
def grantNamesRow : OpenClaim := { program := "ytjfkfibhgilolaadoor", sum := "e22f20eafdd7a33d5015f7c659230eb3bf77f1aaab1e301202866e4443ee8f95", func := "pawnshop/pawnshoplaw30.GrantNames", spec := "grantNames", unfollowed := true, recurses := true, named := ["pawnshop/grant.perms"], apart := false, laid := [("pawnshop/grant.perms", laid_pawnshop_grant_perms)] }
def GrantNamesSaid : Prop := grantNamesRow.holds Tryd.pinned (OpenSpec.ofChange grantNamesSpec)

/-- ITS FALSE NEIGHBOUR: 'it returns false'. Refute it at one input. -/
def grantNamesWrong : ChangeSpec := { name := "grantNames", fn := fun _ => fun
  | [] => { results := [.lit (.bool false)], args := [] }
  | _ => none }
def GrantNamesWrongFalsely : Prop := grantNamesRow.holds Tryd.pinned (OpenSpec.ofChange grantNamesWrong)

/-- 'pawnshoplaw31.GuardNames': WHATEVER THE INPUT: true; the input reads as it did. -/
def guardNamesSpec : ChangeSpec := { name := "guardNames", fn := fun _ => fun
  | [] => { results := [.lit (.bool true)], args := [] }
  | _ => none }
def guardNamesRow : OpenClaim := { program := "ytjfkfibhgilolaadoor", sum := "e22f20eafdd7a33d5015f7c659230eb3bf77f1aaab1e301202866e4443ee8f95", func := "pawnshop/pawnshoplaw31.GuardNames", spec := "guardNames", unfollowed := true, recurses := true, named := ["pawnshop/grant.perms"], apart := false, laid := [("pawnshop/grant.perms", laid_pawnshop_grant_perms)] }
def GuardNamesSaid : Prop := guardNamesRow.holds Tryd.pinned (OpenSpec.ofChange guardNamesSpec)

/-- ITS FALSE NEIGHBOUR: 'it returns false'. Refute it at one input. -/
def guardNamesWrong : ChangeSpec := { name := "guardNames", fn := fun _ => fun
  | [] => { results := [.lit (.bool false)], args := [] }
  | _ => none }
def GuardNamesWrongFalsely : Prop := guardNamesRow.holds Tryd.pinned (OpenSpec.ofChange guardNamesWrong)

/-- 'pawnshoplaw32.PhasesNames': WHATEVER THE INPUT: true; the input reads as it did. -/
def phasesNamesSpec : ChangeSpec := { name := "phasesNames", fn := fun _ => fun
  | [] => { results := [.lit (.bool true)], args := [] }
  | _ => none }
def phasesNamesRow : OpenClaim := { program := "ytjfkfibhgilolaadoor", sum := "e22f20eafdd7a33d5015f7c659230eb3bf77f1aaab1e301202866e4443ee8f95", func := "pawnshop/pawnshoplaw32.PhasesNames", spec := "phasesNames", unfollowed := true, recurses := true, named := ["pawnshop/grant.perms"], apart := false, laid := [("pawnshop/grant.perms", laid_pawnshop_grant_perms)] }
def PhasesNamesSaid : Prop := phasesNamesRow.holds Tryd.pinned (OpenSpec.ofChange phasesNamesSpec)

/-- ITS FALSE NEIGHBOUR: 'it returns false'. Refute it at one input. -/
def phasesNamesWrong : ChangeSpec := { name := "phasesNames", fn := fun _ => fun
  | [] => { results := [.lit (.bool false)], args := [] }
  | _ => none }
def PhasesNamesWrongFalsely : Prop := phasesNamesRow.holds Tryd.pinned (OpenSpec.ofChange phasesNamesWrong)

/-- 'pawnshoplaw33.StacksNames': WHATEVER THE INPUT: true; the input reads as it did. -/
def stacksNamesSpec : ChangeSpec := { name := "stacksNames", fn := fun _ => fun
  | [] => { results := [.lit (.bool true)], args := [] }
  | _ => none }
def stacksNamesRow : OpenClaim := { program := "ytjfkfibhgilolaadoor", sum := "e22f20eafdd7a33d5015f7c659230eb3bf77f1aaab1e301202866e4443ee8f95", func := "pawnshop/pawnshoplaw33.StacksNames", spec := "stacksNames", unfollowed := true, recurses := true, named := ["pawnshop/grant.perms"], apart := false, laid := [("pawnshop/grant.perms", laid_pawnshop_grant_perms)] }
def StacksNamesSaid : Prop := stacksNamesRow.holds Tryd.pinned (OpenSpec.ofChange stacksNamesSpec)

/-- ITS FALSE NEIGHBOUR: 'it returns false'. Refute it at one input. -/
def stacksNamesWrong : ChangeSpec := { name := "stacksNames", fn := fun _ => fun
  | [] => { results := [.lit (.bool false)], args := [] }
  | _ => none }
def StacksNamesWrongFalsely : Prop := stacksNamesRow.holds Tryd.pinned (OpenSpec.ofChange stacksNamesWrong)

/-- 'pawnshoplaw33.StacksCells': WHATEVER THE INPUT: true; the input reads as it did. -/
def stacksCellsSpec : ChangeSpec := { name := "stacksCells", fn := fun _ => fun
  | [d1, d2, d3, d4, d5, d6] => { results := [.lit (.bool true)], args := [d1, d2, d3, d4, d5, d6] }
  | _ => none }
def stacksCellsRow : OpenClaim := { program := "ytjfkfibhgilolaadoor", sum := "e22f20eafdd7a33d5015f7c659230eb3bf77f1aaab1e301202866e4443ee8f95", func := "pawnshop/pawnshoplaw33.StacksCells", spec := "stacksCells", unfollowed := true, recurses := true, named := ["pawnshop/grant.perms"], apart := false, laid := [("pawnshop/grant.perms", laid_pawnshop_grant_perms)] }
def StacksCellsSaid : Prop := stacksCellsRow.holds Tryd.pinned (OpenSpec.ofChange stacksCellsSpec)

/-- ITS FALSE NEIGHBOUR: 'it returns false'. Refute it at one input. -/
def stacksCellsWrong : ChangeSpec := { name := "stacksCells", fn := fun _ => fun
  | [d1, d2, d3, d4, d5, d6] => { results := [.lit (.bool false)], args := [d1, d2, d3, d4, d5, d6] }
  | _ => none }
def StacksCellsWrongFalsely : Prop := stacksCellsRow.holds Tryd.pinned (OpenSpec.ofChange stacksCellsWrong)

/-- 'pawnshoplaw33.StacksOrder': WHATEVER THE INPUT: true; the input reads as it did. -/
def stacksOrderSpec : ChangeSpec := { name := "stacksOrder", fn := fun _ => fun
  | [d1, d2, d3, d4] => { results := [.lit (.bool true)], args := [d1, d2, d3, d4] }
  | _ => none }
def stacksOrderRow : OpenClaim := { program := "ytjfkfibhgilolaadoor", sum := "e22f20eafdd7a33d5015f7c659230eb3bf77f1aaab1e301202866e4443ee8f95", func := "pawnshop/pawnshoplaw33.StacksOrder", spec := "stacksOrder", unfollowed := true, recurses := true, named := ["pawnshop/grant.perms"], apart := false, laid := [("pawnshop/grant.perms", laid_pawnshop_grant_perms)] }
def StacksOrderSaid : Prop := stacksOrderRow.holds Tryd.pinned (OpenSpec.ofChange stacksOrderSpec)

/-- ITS FALSE NEIGHBOUR: 'it returns false'. Refute it at one input. -/
def stacksOrderWrong : ChangeSpec := { name := "stacksOrder", fn := fun _ => fun
  | [d1, d2, d3, d4] => { results := [.lit (.bool false)], args := [d1, d2, d3, d4] }
  | _ => none }
def StacksOrderWrongFalsely : Prop := stacksOrderRow.holds Tryd.pinned (OpenSpec.ofChange stacksOrderWrong)

/-- 'pawnshoplaw34.DeallocMany': WHATEVER THE INPUT: true; the input reads as it did. -/
def deallocManySpec : ChangeSpec := { name := "deallocMany", fn := fun _ => fun
  | [d1, d2] => { results := [.lit (.bool true)], args := [d1, d2] }
  | _ => none }
def deallocManyRow : OpenClaim := { program := "ytjfkfibhgilolaadoor", sum := "e22f20eafdd7a33d5015f7c659230eb3bf77f1aaab1e301202866e4443ee8f95", func := "pawnshop/pawnshoplaw34.DeallocMany", spec := "deallocMany", unfollowed := true, recurses := true, named := ["pawnshop/grant.perms"], apart := false, laid := [("pawnshop/grant.perms", laid_pawnshop_grant_perms)] }
def DeallocManySaid : Prop := deallocManyRow.holds Tryd.pinned (OpenSpec.ofChange deallocManySpec)

/-- ITS FALSE NEIGHBOUR: 'it returns false'. Refute it at one input. -/
def deallocManyWrong : ChangeSpec := { name := "deallocMany", fn := fun _ => fun
  | [d1, d2] => { results := [.lit (.bool false)], args := [d1, d2] }
  | _ => none }
def DeallocManyWrongFalsely : Prop := deallocManyRow.holds Tryd.pinned (OpenSpec.ofChange deallocManyWrong)

/-- 'pawnshoplaw34.DeallocNothing': WHATEVER THE INPUT: true; the input reads as it did. -/
def deallocNothingSpec : ChangeSpec := { name := "deallocNothing", fn := fun _ => fun
  | [d1, d2, d3] => { results := [.lit (.bool true)], args := [d1, d2, d3] }
  | _ => none }
def deallocNothingRow : OpenClaim := { program := "ytjfkfibhgilolaadoor", sum := "e22f20eafdd7a33d5015f7c659230eb3bf77f1aaab1e301202866e4443ee8f95", func := "pawnshop/pawnshoplaw34.DeallocNothing", spec := "deallocNothing", unfollowed := true, recurses := true, named := ["pawnshop/grant.perms"], apart := false, laid := [("pawnshop/grant.perms", laid_pawnshop_grant_perms)] }
def DeallocNothingSaid : Prop := deallocNothingRow.holds Tryd.pinned (OpenSpec.ofChange deallocNothingSpec)

/-- ITS FALSE NEIGHBOUR: 'it returns false'. Refute it at one input. -/
def deallocNothingWrong : ChangeSpec := { name := "deallocNothing", fn := fun _ => fun
  | [d1, d2, d3] => { results := [.lit (.bool false)], args := [d1, d2, d3] }
  | _ => none }
def DeallocNothingWrongFalsely : Prop := deallocNothingRow.holds Tryd.pinned (OpenSpec.ofChange deallocNothingWrong)

/-- 'pawnshoplaw34.DeallocNames': WHATEVER THE INPUT: true; the input reads as it did. -/
def deallocNamesSpec : ChangeSpec := { name := "deallocNames", fn := fun _ => fun
  | [] => { results := [.lit (.bool true)], args := [] }
  | _ => none }
def deallocNamesRow : OpenClaim := { program := "ytjfkfibhgilolaadoor", sum := "e22f20eafdd7a33d5015f7c659230eb3bf77f1aaab1e301202866e4443ee8f95", func := "pawnshop/pawnshoplaw34.DeallocNames", spec := "deallocNames", unfollowed := true, recurses := true, named := ["pawnshop/grant.perms"], apart := false, laid := [("pawnshop/grant.perms", laid_pawnshop_grant_perms)] }
def DeallocNamesSaid : Prop := deallocNamesRow.holds Tryd.pinned (OpenSpec.ofChange deallocNamesSpec)

/-- ITS FALSE NEIGHBOUR: 'it returns false'. Refute it at one input. -/
def deallocNamesWrong : ChangeSpec := { name := "deallocNames", fn := fun _ => fun
  | [] => { results := [.lit (.bool false)], args := [] }
  | _ => none }
def DeallocNamesWrongFalsely : Prop := deallocNamesRow.holds Tryd.pinned (OpenSpec.ofChange deallocNamesWrong)

/-- 'pawnshoplaw34.DeallocAccess': WHATEVER THE INPUT: true; the input reads as it did. -/
def deallocAccessSpec : ChangeSpec := { name := "deallocAccess", fn := fun _ => fun
  | [d1, d2, d3, d4, d5] => { results := [.lit (.bool true)], args := [d1, d2, d3, d4, d5] }
  | _ => none }
def deallocAccessRow : OpenClaim := { program := "ytjfkfibhgilolaadoor", sum := "e22f20eafdd7a33d5015f7c659230eb3bf77f1aaab1e301202866e4443ee8f95", func := "pawnshop/pawnshoplaw34.DeallocAccess", spec := "deallocAccess", unfollowed := true, recurses := true, named := ["pawnshop/grant.perms"], apart := false, laid := [("pawnshop/grant.perms", laid_pawnshop_grant_perms)] }
def DeallocAccessSaid : Prop := deallocAccessRow.holds Tryd.pinned (OpenSpec.ofChange deallocAccessSpec)

/-- ITS FALSE NEIGHBOUR: 'it returns false'. Refute it at one input. -/
def deallocAccessWrong : ChangeSpec := { name := "deallocAccess", fn := fun _ => fun
  | [d1, d2, d3, d4, d5] => { results := [.lit (.bool false)], args := [d1, d2, d3, d4, d5] }
  | _ => none }
def DeallocAccessWrongFalsely : Prop := deallocAccessRow.holds Tryd.pinned (OpenSpec.ofChange deallocAccessWrong)

/- THE SECOND FORM. 'bulk': how many values and letters a reading holds, each counted each time it is reached (what is shared counts as often as it is met; a slice's spare places count too). A statement '..UptoSaid' is the law's where the arguments, and the package variables that the reading takes, are together of bulk at most 1048576: NARROWER than '..Said'. Prove '..Said' where nothing that the law and all that it calls make is longer than what came in: it says more and counts as full. Else prove '..UptoSaid'. A law counts once. -/
mutual
def uptoBulk {H : Type} : DataW H → Nat
  | .lit (.string bytes) => bytes.length + 1
  | .lit _ => 1
  | .nil => 1
  | .ptr d => uptoBulk d + 1
  | .slice elems spare => uptoBulkAll elems + uptoBulkAll spare + 1
  | .agg parts => uptoBulkAll parts + 1
  | .iface _ d => uptoBulk d + 1
  | .map entries => uptoBulkEntries entries + 1
  | .held _ => 1
def uptoBulkAll {H : Type} : List (DataW H) → Nat
  | [] => 0
  | d :: r => uptoBulk d + uptoBulkAll r
def uptoBulkEntries {H : Type} : List (Lit × DataW H) → Nat
  | [] => 0
  | x :: r => uptoBulkEntry x + uptoBulkEntries r
def uptoBulkEntry {H : Type} : Lit × DataW H → Nat
  | (.string bytes, d) => bytes.length + uptoBulk d + 1
  | (_, d) => uptoBulk d + 1
 end
def uptoSmall : (H : Type) → List (DataW H) → Bool := fun _ ds => decide (uptoBulkAll ds ≤ 1048576)
def OpenSpec.upto (s : _root_.Go.ChangeSpec) : _root_.Go.OpenSpec := { _root_.Go.OpenSpec.ofChange s with cond := some uptoSmall }

/-- 'pawnshoplaw30.GrantNames', WHERE WHAT IT READS IS OF BULK AT MOST 1048576: true; the input reads as it did. -/
def grantNamesUptoRow : OpenClaim := { program := "ytjfkfibhgilolaadoor", sum := "e22f20eafdd7a33d5015f7c659230eb3bf77f1aaab1e301202866e4443ee8f95", func := "pawnshop/pawnshoplaw30.GrantNames", spec := "grantNames", unfollowed := true, recurses := true, named := ["pawnshop/grant.perms"], apart := false, laid := [("pawnshop/grant.perms", laid_pawnshop_grant_perms)], narrowed := true }
def GrantNamesUptoSaid : Prop := grantNamesUptoRow.holds Tryd.pinned (OpenSpec.upto grantNamesSpec)

/-- 'pawnshoplaw31.GuardNames', WHERE WHAT IT READS IS OF BULK AT MOST 1048576: true; the input reads as it did. -/
def guardNamesUptoRow : OpenClaim := { program := "ytjfkfibhgilolaadoor", sum := "e22f20eafdd7a33d5015f7c659230eb3bf77f1aaab1e301202866e4443ee8f95", func := "pawnshop/pawnshoplaw31.GuardNames", spec := "guardNames", unfollowed := true, recurses := true, named := ["pawnshop/grant.perms"], apart := false, laid := [("pawnshop/grant.perms", laid_pawnshop_grant_perms)], narrowed := true }
def GuardNamesUptoSaid : Prop := guardNamesUptoRow.holds Tryd.pinned (OpenSpec.upto guardNamesSpec)

/-- 'pawnshoplaw32.PhasesNames', WHERE WHAT IT READS IS OF BULK AT MOST 1048576: true; the input reads as it did. -/
def phasesNamesUptoRow : OpenClaim := { program := "ytjfkfibhgilolaadoor", sum := "e22f20eafdd7a33d5015f7c659230eb3bf77f1aaab1e301202866e4443ee8f95", func := "pawnshop/pawnshoplaw32.PhasesNames", spec := "phasesNames", unfollowed := true, recurses := true, named := ["pawnshop/grant.perms"], apart := false, laid := [("pawnshop/grant.perms", laid_pawnshop_grant_perms)], narrowed := true }
def PhasesNamesUptoSaid : Prop := phasesNamesUptoRow.holds Tryd.pinned (OpenSpec.upto phasesNamesSpec)

/-- 'pawnshoplaw33.StacksNames', WHERE WHAT IT READS IS OF BULK AT MOST 1048576: true; the input reads as it did. -/
def stacksNamesUptoRow : OpenClaim := { program := "ytjfkfibhgilolaadoor", sum := "e22f20eafdd7a33d5015f7c659230eb3bf77f1aaab1e301202866e4443ee8f95", func := "pawnshop/pawnshoplaw33.StacksNames", spec := "stacksNames", unfollowed := true, recurses := true, named := ["pawnshop/grant.perms"], apart := false, laid := [("pawnshop/grant.perms", laid_pawnshop_grant_perms)], narrowed := true }
def StacksNamesUptoSaid : Prop := stacksNamesUptoRow.holds Tryd.pinned (OpenSpec.upto stacksNamesSpec)

/-- 'pawnshoplaw33.StacksCells', WHERE WHAT IT READS IS OF BULK AT MOST 1048576: true; the input reads as it did. -/
def stacksCellsUptoRow : OpenClaim := { program := "ytjfkfibhgilolaadoor", sum := "e22f20eafdd7a33d5015f7c659230eb3bf77f1aaab1e301202866e4443ee8f95", func := "pawnshop/pawnshoplaw33.StacksCells", spec := "stacksCells", unfollowed := true, recurses := true, named := ["pawnshop/grant.perms"], apart := false, laid := [("pawnshop/grant.perms", laid_pawnshop_grant_perms)], narrowed := true }
def StacksCellsUptoSaid : Prop := stacksCellsUptoRow.holds Tryd.pinned (OpenSpec.upto stacksCellsSpec)

/-- 'pawnshoplaw33.StacksOrder', WHERE WHAT IT READS IS OF BULK AT MOST 1048576: true; the input reads as it did. -/
def stacksOrderUptoRow : OpenClaim := { program := "ytjfkfibhgilolaadoor", sum := "e22f20eafdd7a33d5015f7c659230eb3bf77f1aaab1e301202866e4443ee8f95", func := "pawnshop/pawnshoplaw33.StacksOrder", spec := "stacksOrder", unfollowed := true, recurses := true, named := ["pawnshop/grant.perms"], apart := false, laid := [("pawnshop/grant.perms", laid_pawnshop_grant_perms)], narrowed := true }
def StacksOrderUptoSaid : Prop := stacksOrderUptoRow.holds Tryd.pinned (OpenSpec.upto stacksOrderSpec)

/-- 'pawnshoplaw34.DeallocMany', WHERE WHAT IT READS IS OF BULK AT MOST 1048576: true; the input reads as it did. -/
def deallocManyUptoRow : OpenClaim := { program := "ytjfkfibhgilolaadoor", sum := "e22f20eafdd7a33d5015f7c659230eb3bf77f1aaab1e301202866e4443ee8f95", func := "pawnshop/pawnshoplaw34.DeallocMany", spec := "deallocMany", unfollowed := true, recurses := true, named := ["pawnshop/grant.perms"], apart := false, laid := [("pawnshop/grant.perms", laid_pawnshop_grant_perms)], narrowed := true }
def DeallocManyUptoSaid : Prop := deallocManyUptoRow.holds Tryd.pinned (OpenSpec.upto deallocManySpec)

/-- 'pawnshoplaw34.DeallocNothing', WHERE WHAT IT READS IS OF BULK AT MOST 1048576: true; the input reads as it did. -/
def deallocNothingUptoRow : OpenClaim := { program := "ytjfkfibhgilolaadoor", sum := "e22f20eafdd7a33d5015f7c659230eb3bf77f1aaab1e301202866e4443ee8f95", func := "pawnshop/pawnshoplaw34.DeallocNothing", spec := "deallocNothing", unfollowed := true, recurses := true, named := ["pawnshop/grant.perms"], apart := false, laid := [("pawnshop/grant.perms", laid_pawnshop_grant_perms)], narrowed := true }
def DeallocNothingUptoSaid : Prop := deallocNothingUptoRow.holds Tryd.pinned (OpenSpec.upto deallocNothingSpec)

/-- 'pawnshoplaw34.DeallocNames', WHERE WHAT IT READS IS OF BULK AT MOST 1048576: true; the input reads as it did. -/
def deallocNamesUptoRow : OpenClaim := { program := "ytjfkfibhgilolaadoor", sum := "e22f20eafdd7a33d5015f7c659230eb3bf77f1aaab1e301202866e4443ee8f95", func := "pawnshop/pawnshoplaw34.DeallocNames", spec := "deallocNames", unfollowed := true, recurses := true, named := ["pawnshop/grant.perms"], apart := false, laid := [("pawnshop/grant.perms", laid_pawnshop_grant_perms)], narrowed := true }
def DeallocNamesUptoSaid : Prop := deallocNamesUptoRow.holds Tryd.pinned (OpenSpec.upto deallocNamesSpec)

/-- 'pawnshoplaw34.DeallocAccess', WHERE WHAT IT READS IS OF BULK AT MOST 1048576: true; the input reads as it did. -/
def deallocAccessUptoRow : OpenClaim := { program := "ytjfkfibhgilolaadoor", sum := "e22f20eafdd7a33d5015f7c659230eb3bf77f1aaab1e301202866e4443ee8f95", func := "pawnshop/pawnshoplaw34.DeallocAccess", spec := "deallocAccess", unfollowed := true, recurses := true, named := ["pawnshop/grant.perms"], apart := false, laid := [("pawnshop/grant.perms", laid_pawnshop_grant_perms)], narrowed := true }
def DeallocAccessUptoSaid : Prop := deallocAccessUptoRow.holds Tryd.pinned (OpenSpec.upto deallocAccessSpec)

end Rows
end Go.Proofs.YtjfkfibhgilolaaDoor
