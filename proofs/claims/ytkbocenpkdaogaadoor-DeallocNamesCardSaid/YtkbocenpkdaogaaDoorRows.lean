/-
  NARROWER THAN 'FOR EVERY INPUT', by the rows' own cells (each row's printed sentence says how): GrantNames: laid · GuardNames: laid · PhasesNames: laid · StacksNames: laid · DeallocNames: laid.
  DERIVED. THE GIVEN ROWS OF THIS SEAT. 5 by the template 'for every input the law returns true; each argument reads behind the call as it read before'; 0 by the template 'total and deterministic' (their statements: YtkbocenpkdaogaaDoorTotals.lean).
  GIVEN WITH THE SEED: the statements are not yours to turn. If you find one false, say at which input.
  Laid BY PROGRAM, IN A SANDBOX (cutbox-rows.mjs): the forced cells as the released guide's own fill.sh prints them over the translation 981ab9c16b04e59a… (all of the seat's roots in one cut). By AI agents, Wed Nov 11 2026. No macro, syntax, notation, axiom, sorry.
-/
import Derived.Test.YtkbocenpkdaogaaDoorChecked
import GoSem.Claim
import GoSem.ClaimJoined
import GoSem.ClaimMapViews
import Derived.JoinedTies
import Derived.KernelRfl
namespace Go.Proofs.YtkbocenpkdaogaaDoor
/- THE CELL 'sum', in the pinned program and in every row, IS THE sha256 OF THE DUMP (.gsa) THAT YtkbocenpkdaogaaDoorProg.lean LOADS. Nothing in Lean hashes anything: it is a label: what it is worth is what the hold of that sum in a sandbox is worth. -/
noncomputable def Tryd.pinned : Pinned := { name := "ytkbocenpkdaogaadoor", sum := "981ab9c16b04e59abc0ae7fe71872f67c295a6f0bcebe5b4e2d10a852c858e84", checked := Tryd.checked }
namespace Rows
def none {H : Type} : Left H := { results := [], args := [] }

/- WHAT THE LISTED PACKAGE-LEVEL VARIABLES READ AS WHEN THE CALL BEGINS. Each datum BY PROGRAM (the guide's laid-datum.mjs) off the statement by which the dump's own 'gosem.cut.vars' lays the variable. In a bare row this is a premise. The card (YtkbocenpkdaogaaDoorCards.lean) ties it to the program's text. -/
def laid_pawnshop_grant_perms {H : Type} : DataW H := .agg [.lit (.int .u8 0), .lit (.int .u8 4), .lit (.int .u8 1), .lit (.int .u8 2), .lit (.int .u8 3)]

/-- 'pawnshoplaw30.GrantNames': WHATEVER THE INPUT: true; the input reads as it did. -/
def grantNamesSpec : ChangeSpec := { name := "grantNames", fn := fun _ => fun
  | [] => { results := [.lit (.bool true)], args := [] }
  | _ => none }
def grantNamesRow : OpenClaim := { program := "ytkbocenpkdaogaadoor", sum := "981ab9c16b04e59abc0ae7fe71872f67c295a6f0bcebe5b4e2d10a852c858e84", func := "pawnshop/pawnshoplaw30.GrantNames", spec := "grantNames", unfollowed := true, recurses := true, named := ["pawnshop/grant.perms"], apart := false, laid := [("pawnshop/grant.perms", laid_pawnshop_grant_perms)] }
def GrantNamesSaid : Prop := grantNamesRow.holds Tryd.pinned (OpenSpec.ofChange grantNamesSpec)

/-- ITS FALSE NEIGHBOUR: 'it returns false'. Refute it at one input. -/
def grantNamesWrong : ChangeSpec := { name := "grantNames", fn := fun _ => fun
  | [] => { results := [.lit (.bool false)], args := [] }
  | _ => none }
def GrantNamesWrongFalsely : Prop := grantNamesRow.holds Tryd.pinned (OpenSpec.ofChange grantNamesWrong)

/-- 'pawnshoplaw31.GuardNames': WHATEVER THE INPUT: true; the input reads as it did. -/
def guardNamesSpec : ChangeSpec := { name := "guardNames", fn := fun _ => fun
  | [] => { results := [.lit (.bool true)], args := [] }
  | _ => none }
def guardNamesRow : OpenClaim := { program := "ytkbocenpkdaogaadoor", sum := "981ab9c16b04e59abc0ae7fe71872f67c295a6f0bcebe5b4e2d10a852c858e84", func := "pawnshop/pawnshoplaw31.GuardNames", spec := "guardNames", unfollowed := true, recurses := true, named := ["pawnshop/grant.perms"], apart := false, laid := [("pawnshop/grant.perms", laid_pawnshop_grant_perms)] }
def GuardNamesSaid : Prop := guardNamesRow.holds Tryd.pinned (OpenSpec.ofChange guardNamesSpec)

/-- ITS FALSE NEIGHBOUR: 'it returns false'. Refute it at one input. -/
def guardNamesWrong : ChangeSpec := { name := "guardNames", fn := fun _ => fun
  | [] => { results := [.lit (.bool false)], args := [] }
  | _ => none }
def GuardNamesWrongFalsely : Prop := guardNamesRow.holds Tryd.pinned (OpenSpec.ofChange guardNamesWrong)

/-- 'pawnshoplaw32.PhasesNames': WHATEVER THE INPUT: true; the input reads as it did. -/
def phasesNamesSpec : ChangeSpec := { name := "phasesNames", fn := fun _ => fun
  | [] => { results := [.lit (.bool true)], args := [] }
  | _ => none }
def phasesNamesRow : OpenClaim := { program := "ytkbocenpkdaogaadoor", sum := "981ab9c16b04e59abc0ae7fe71872f67c295a6f0bcebe5b4e2d10a852c858e84", func := "pawnshop/pawnshoplaw32.PhasesNames", spec := "phasesNames", unfollowed := true, recurses := true, named := ["pawnshop/grant.perms"], apart := false, laid := [("pawnshop/grant.perms", laid_pawnshop_grant_perms)] }
def PhasesNamesSaid : Prop := phasesNamesRow.holds Tryd.pinned (OpenSpec.ofChange phasesNamesSpec)

/-- ITS FALSE NEIGHBOUR: 'it returns false'. Refute it at one input. -/
def phasesNamesWrong : ChangeSpec := { name := "phasesNames", fn := fun _ => fun
  | [] => { results := [.lit (.bool false)], args := [] }
  | _ => none }
def PhasesNamesWrongFalsely : Prop := phasesNamesRow.holds Tryd.pinned (OpenSpec.ofChange phasesNamesWrong)

/-- 'pawnshoplaw33.StacksNames': WHATEVER THE INPUT: true; the input reads as it did. -/
def stacksNamesSpec : ChangeSpec := { name := "stacksNames", fn := fun _ => fun
  | [] => { results := [.lit (.bool true)], args := [] }
  | _ => none }
def stacksNamesRow : OpenClaim := { program := "ytkbocenpkdaogaadoor", sum := "981ab9c16b04e59abc0ae7fe71872f67c295a6f0bcebe5b4e2d10a852c858e84", func := "pawnshop/pawnshoplaw33.StacksNames", spec := "stacksNames", unfollowed := true, recurses := true, named := ["pawnshop/grant.perms"], apart := false, laid := [("pawnshop/grant.perms", laid_pawnshop_grant_perms)] }
def StacksNamesSaid : Prop := stacksNamesRow.holds Tryd.pinned (OpenSpec.ofChange stacksNamesSpec)

/-- ITS FALSE NEIGHBOUR: 'it returns false'. Refute it at one input. -/
def stacksNamesWrong : ChangeSpec := { name := "stacksNames", fn := fun _ => fun
  | [] => { results := [.lit (.bool false)], args := [] }
  | _ => none }
def StacksNamesWrongFalsely : Prop := stacksNamesRow.holds Tryd.pinned (OpenSpec.ofChange stacksNamesWrong)

/-- 'pawnshoplaw34.DeallocNames': WHATEVER THE INPUT: true; the input reads as it did. -/
def deallocNamesSpec : ChangeSpec := { name := "deallocNames", fn := fun _ => fun
  | [] => { results := [.lit (.bool true)], args := [] }
  | _ => none }
def deallocNamesRow : OpenClaim := { program := "ytkbocenpkdaogaadoor", sum := "981ab9c16b04e59abc0ae7fe71872f67c295a6f0bcebe5b4e2d10a852c858e84", func := "pawnshop/pawnshoplaw34.DeallocNames", spec := "deallocNames", unfollowed := true, recurses := true, named := ["pawnshop/grant.perms"], apart := false, laid := [("pawnshop/grant.perms", laid_pawnshop_grant_perms)] }
def DeallocNamesSaid : Prop := deallocNamesRow.holds Tryd.pinned (OpenSpec.ofChange deallocNamesSpec)

/-- ITS FALSE NEIGHBOUR: 'it returns false'. Refute it at one input. -/
def deallocNamesWrong : ChangeSpec := { name := "deallocNames", fn := fun _ => fun
  | [] => { results := [.lit (.bool false)], args := [] }
  | _ => none }
def DeallocNamesWrongFalsely : Prop := deallocNamesRow.holds Tryd.pinned (OpenSpec.ofChange deallocNamesWrong)

/- THE SECOND FORM. 'bulk': how many values and letters a reading holds, each counted each time it is reached (what is shared counts as often as it is met; a slice's spare places count too). A statement '..UptoSaid' is the law's where the arguments, and the package variables that the reading takes, are together of bulk at most 1048576: NARROWER than '..Said'. Prove '..Said' where nothing that the law and all that it calls make is longer than what came in: it says more and counts as full. Else prove '..UptoSaid'. A law counts once. -/
mutual
def uptoBulk {H : Type} : DataW H → Nat
  | .lit (.string bytes) => bytes.length + 1
  | .lit _ => 1
  | .nil => 1
  | .ptr d => uptoBulk d + 1
  | .slice elems spare => uptoBulkAll elems + uptoBulkAll spare + 1
  | .agg parts => uptoBulkAll parts + 1
  | .iface _ d => uptoBulk d + 1
  | .map entries => uptoBulkEntries entries + 1
  | .held _ => 1
def uptoBulkAll {H : Type} : List (DataW H) → Nat
  | [] => 0
  | d :: r => uptoBulk d + uptoBulkAll r
def uptoBulkEntries {H : Type} : List (Lit × DataW H) → Nat
  | [] => 0
  | x :: r => uptoBulkEntry x + uptoBulkEntries r
def uptoBulkEntry {H : Type} : Lit × DataW H → Nat
  | (.string bytes, d) => bytes.length + uptoBulk d + 1
  | (_, d) => uptoBulk d + 1
 end
def uptoSmall : (H : Type) → List (DataW H) → Bool := fun _ ds => decide (uptoBulkAll ds ≤ 1048576)
def OpenSpec.upto (s : _root_.Go.ChangeSpec) : _root_.Go.OpenSpec := { _root_.Go.OpenSpec.ofChange s with cond := some uptoSmall }

/-- 'pawnshoplaw30.GrantNames', WHERE WHAT IT READS IS OF BULK AT MOST 1048576: true; the input reads as it did. -/
def grantNamesUptoRow : OpenClaim := { program := "ytkbocenpkdaogaadoor", sum := "981ab9c16b04e59abc0ae7fe71872f67c295a6f0bcebe5b4e2d10a852c858e84", func := "pawnshop/pawnshoplaw30.GrantNames", spec := "grantNames", unfollowed := true, recurses := true, named := ["pawnshop/grant.perms"], apart := false, laid := [("pawnshop/grant.perms", laid_pawnshop_grant_perms)], narrowed := true }
def GrantNamesUptoSaid : Prop := grantNamesUptoRow.holds Tryd.pinned (OpenSpec.upto grantNamesSpec)

/-- 'pawnshoplaw31.GuardNames', WHERE WHAT IT READS IS OF BULK AT MOST 1048576: true; the input reads as it did. -/
def guardNamesUptoRow : OpenClaim := { program := "ytkbocenpkdaogaadoor", sum := "981ab9c16b04e59abc0ae7fe71872f67c295a6f0bcebe5b4e2d10a852c858e84", func := "pawnshop/pawnshoplaw31.GuardNames", spec := "guardNames", unfollowed := true, recurses := true, named := ["pawnshop/grant.perms"], apart := false, laid := [("pawnshop/grant.perms", laid_pawnshop_grant_perms)], narrowed := true }
def GuardNamesUptoSaid : Prop := guardNamesUptoRow.holds Tryd.pinned (OpenSpec.upto guardNamesSpec)

/-- 'pawnshoplaw32.PhasesNames', WHERE WHAT IT READS IS OF BULK AT MOST 1048576: true; the input reads as it did. -/
def phasesNamesUptoRow : OpenClaim := { program := "ytkbocenpkdaogaadoor", sum := "981ab9c16b04e59abc0ae7fe71872f67c295a6f0bcebe5b4e2d10a852c858e84", func := "pawnshop/pawnshoplaw32.PhasesNames", spec := "phasesNames", unfollowed := true, recurses := true, named := ["pawnshop/grant.perms"], apart := false, laid := [("pawnshop/grant.perms", laid_pawnshop_grant_perms)], narrowed := true }
def PhasesNamesUptoSaid : Prop := phasesNamesUptoRow.holds Tryd.pinned (OpenSpec.upto phasesNamesSpec)

/-- 'pawnshoplaw33.StacksNames', WHERE WHAT IT READS IS OF BULK AT MOST 1048576: true; the input reads as it did. -/
def stacksNamesUptoRow : OpenClaim := { program := "ytkbocenpkdaogaadoor", sum := "981ab9c16b04e59abc0ae7fe71872f67c295a6f0bcebe5b4e2d10a852c858e84", func := "pawnshop/pawnshoplaw33.StacksNames", spec := "stacksNames", unfollowed := true, recurses := true, named := ["pawnshop/grant.perms"], apart := false, laid := [("pawnshop/grant.perms", laid_pawnshop_grant_perms)], narrowed := true }
def StacksNamesUptoSaid : Prop := stacksNamesUptoRow.holds Tryd.pinned (OpenSpec.upto stacksNamesSpec)

/-- 'pawnshoplaw34.DeallocNames', WHERE WHAT IT READS IS OF BULK AT MOST 1048576: true; the input reads as it did. -/
def deallocNamesUptoRow : OpenClaim := { program := "ytkbocenpkdaogaadoor", sum := "981ab9c16b04e59abc0ae7fe71872f67c295a6f0bcebe5b4e2d10a852c858e84", func := "pawnshop/pawnshoplaw34.DeallocNames", spec := "deallocNames", unfollowed := true, recurses := true, named := ["pawnshop/grant.perms"], apart := false, laid := [("pawnshop/grant.perms", laid_pawnshop_grant_perms)], narrowed := true }
def DeallocNamesUptoSaid : Prop := deallocNamesUptoRow.holds Tryd.pinned (OpenSpec.upto deallocNamesSpec)

end Rows
end Go.Proofs.YtkbocenpkdaogaaDoor
