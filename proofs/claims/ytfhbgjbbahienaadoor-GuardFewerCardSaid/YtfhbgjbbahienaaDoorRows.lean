/-
  NARROWER THAN 'FOR EVERY INPUT', by the rows' own cells (each row's printed sentence says how): GrantAccess: laid · GrantTags: laid · GrantNames: laid · GrantTop: laid · GuardUses: laid · GuardHolds: laid · GuardFewer: laid · GuardNames: laid.
  DERIVED. THE GIVEN ROWS OF THIS SEAT. 8 by the template 'for every input the law returns true; each argument reads behind the call as it read before'; 0 by the template 'total and deterministic' (their statements: YtfhbgjbbahienaaDoorTotals.lean).
  GIVEN WITH THE SEED: the statements are not yours to turn. If you find one false, say at which input.
  Laid BY PROGRAM, IN A SANDBOX (cutbox-rows.mjs): the forced cells as the released guide's own fill.sh prints them over the translation aad3039dac3fef21… (all of the seat's roots in one cut). By AI agents, Wed Nov 11 2026. No macro, syntax, notation, axiom, sorry.
-/
import Derived.Test.YtfhbgjbbahienaaDoorChecked
import GoSem.Claim
import GoSem.ClaimJoined
import GoSem.ClaimMapViews
import Derived.JoinedTies
import Derived.KernelRfl
namespace Go.Proofs.YtfhbgjbbahienaaDoor
/- THE CELL 'sum', in the pinned program and in every row, IS THE sha256 OF THE DUMP (.gsa) THAT YtfhbgjbbahienaaDoorProg.lean LOADS. Nothing in Lean hashes anything: it is a label: what it is worth is what the hold of that sum in a sandbox is worth. -/
noncomputable def Tryd.pinned : Pinned := { name := "ytfhbgjbbahienaadoor", sum := "aad3039dac3fef2143f6bad528404c62717de5e2f064116ce18e3f25b69aa48a", checked := Tryd.checked }
namespace Rows
def none {H : Type} : Left H := { results := [], args := [] }

/- WHAT THE LISTED PACKAGE-LEVEL VARIABLES READ AS WHEN THE CALL BEGINS. Each datum BY PROGRAM (the guide's laid-datum.mjs) off the statement by which the dump's own 'gosem.cut.vars' lays the variable. In a bare row this is a premise. The card (YtfhbgjbbahienaaDoorCards.lean) ties it to the program's text. -/
def laid_pawnshop_grant_perms {H : Type} : DataW H := .agg [.lit (.int .u8 0), .lit (.int .u8 4), .lit (.int .u8 1), .lit (.int .u8 2), .lit (.int .u8 3)]

/-- 'pawnshoplaw30.GrantAccess': WHATEVER THE INPUT: true; the input reads as it did. -/
def grantAccessSpec : ChangeSpec := { name := "grantAccess", fn := fun _ => fun
  | [d1, d2, d3, d4] => { results := [.lit (.bool true)], args := [d1, d2, d3, d4] }
  | _ => none }
def grantAccessRow : OpenClaim := { program := "ytfhbgjbbahienaadoor", sum := "aad3039dac3fef2143f6bad528404c62717de5e2f064116ce18e3f25b69aa48a", func := "pawnshop/pawnshoplaw30.GrantAccess", spec := "grantAccess", unfollowed := true, recurses := true, named := ["pawnshop/grant.perms"], apart := false, laid := [("pawnshop/grant.perms", laid_pawnshop_grant_perms)] }
def GrantAccessSaid : Prop := grantAccessRow.holds Tryd.pinned (OpenSpec.ofChange grantAccessSpec)

/-- ITS FALSE NEIGHBOUR: 'it returns false'. Refute it at one input. -/
def grantAccessWrong : ChangeSpec := { name := "grantAccess", fn := fun _ => fun
  | [d1, d2, d3, d4] => { results := [.lit (.bool false)], args := [d1, d2, d3, d4] }
  | _ => none }
def GrantAccessWrongFalsely : Prop := grantAccessRow.holds Tryd.pinned (OpenSpec.ofChange grantAccessWrong)

/-- 'pawnshoplaw30.GrantTags': WHATEVER THE INPUT: true; the input reads as it did. -/
def grantTagsSpec : ChangeSpec := { name := "grantTags", fn := fun _ => fun
  | [d1, d2, d3, d4] => { results := [.lit (.bool true)], args := [d1, d2, d3, d4] }
  | _ => none }
def grantTagsRow : OpenClaim := { program := "ytfhbgjbbahienaadoor", sum := "aad3039dac3fef2143f6bad528404c62717de5e2f064116ce18e3f25b69aa48a", func := "pawnshop/pawnshoplaw30.GrantTags", spec := "grantTags", unfollowed := true, recurses := true, named := ["pawnshop/grant.perms"], apart := false, laid := [("pawnshop/grant.perms", laid_pawnshop_grant_perms)] }
def GrantTagsSaid : Prop := grantTagsRow.holds Tryd.pinned (OpenSpec.ofChange grantTagsSpec)

/-- ITS FALSE NEIGHBOUR: 'it returns false'. Refute it at one input. -/
def grantTagsWrong : ChangeSpec := { name := "grantTags", fn := fun _ => fun
  | [d1, d2, d3, d4] => { results := [.lit (.bool false)], args := [d1, d2, d3, d4] }
  | _ => none }
def GrantTagsWrongFalsely : Prop := grantTagsRow.holds Tryd.pinned (OpenSpec.ofChange grantTagsWrong)

/-- 'pawnshoplaw30.GrantNames': WHATEVER THE INPUT: true; the input reads as it did. -/
def grantNamesSpec : ChangeSpec := { name := "grantNames", fn := fun _ => fun
  | [] => { results := [.lit (.bool true)], args := [] }
  | _ => none }
def grantNamesRow : OpenClaim := { program := "ytfhbgjbbahienaadoor", sum := "aad3039dac3fef2143f6bad528404c62717de5e2f064116ce18e3f25b69aa48a", func := "pawnshop/pawnshoplaw30.GrantNames", spec := "grantNames", unfollowed := true, recurses := true, named := ["pawnshop/grant.perms"], apart := false, laid := [("pawnshop/grant.perms", laid_pawnshop_grant_perms)] }
def GrantNamesSaid : Prop := grantNamesRow.holds Tryd.pinned (OpenSpec.ofChange grantNamesSpec)

/-- ITS FALSE NEIGHBOUR: 'it returns false'. Refute it at one input. -/
def grantNamesWrong : ChangeSpec := { name := "grantNames", fn := fun _ => fun
  | [] => { results := [.lit (.bool false)], args := [] }
  | _ => none }
def GrantNamesWrongFalsely : Prop := grantNamesRow.holds Tryd.pinned (OpenSpec.ofChange grantNamesWrong)

/-- 'pawnshoplaw30.GrantTop': WHATEVER THE INPUT: true; the input reads as it did. -/
def grantTopSpec : ChangeSpec := { name := "grantTop", fn := fun _ => fun
  | [d1, d2, d3, d4] => { results := [.lit (.bool true)], args := [d1, d2, d3, d4] }
  | _ => none }
def grantTopRow : OpenClaim := { program := "ytfhbgjbbahienaadoor", sum := "aad3039dac3fef2143f6bad528404c62717de5e2f064116ce18e3f25b69aa48a", func := "pawnshop/pawnshoplaw30.GrantTop", spec := "grantTop", unfollowed := true, recurses := true, named := ["pawnshop/grant.perms"], apart := false, laid := [("pawnshop/grant.perms", laid_pawnshop_grant_perms)] }
def GrantTopSaid : Prop := grantTopRow.holds Tryd.pinned (OpenSpec.ofChange grantTopSpec)

/-- ITS FALSE NEIGHBOUR: 'it returns false'. Refute it at one input. -/
def grantTopWrong : ChangeSpec := { name := "grantTop", fn := fun _ => fun
  | [d1, d2, d3, d4] => { results := [.lit (.bool false)], args := [d1, d2, d3, d4] }
  | _ => none }
def GrantTopWrongFalsely : Prop := grantTopRow.holds Tryd.pinned (OpenSpec.ofChange grantTopWrong)

/-- 'pawnshoplaw31.GuardUses': WHATEVER THE INPUT: true; the input reads as it did. -/
def guardUsesSpec : ChangeSpec := { name := "guardUses", fn := fun _ => fun
  | [d1, d2, d3, d4, d5] => { results := [.lit (.bool true)], args := [d1, d2, d3, d4, d5] }
  | _ => none }
def guardUsesRow : OpenClaim := { program := "ytfhbgjbbahienaadoor", sum := "aad3039dac3fef2143f6bad528404c62717de5e2f064116ce18e3f25b69aa48a", func := "pawnshop/pawnshoplaw31.GuardUses", spec := "guardUses", unfollowed := true, recurses := true, named := ["pawnshop/grant.perms"], apart := false, laid := [("pawnshop/grant.perms", laid_pawnshop_grant_perms)] }
def GuardUsesSaid : Prop := guardUsesRow.holds Tryd.pinned (OpenSpec.ofChange guardUsesSpec)

/-- ITS FALSE NEIGHBOUR: 'it returns false'. Refute it at one input. -/
def guardUsesWrong : ChangeSpec := { name := "guardUses", fn := fun _ => fun
  | [d1, d2, d3, d4, d5] => { results := [.lit (.bool false)], args := [d1, d2, d3, d4, d5] }
  | _ => none }
def GuardUsesWrongFalsely : Prop := guardUsesRow.holds Tryd.pinned (OpenSpec.ofChange guardUsesWrong)

/-- 'pawnshoplaw31.GuardHolds': WHATEVER THE INPUT: true; the input reads as it did. -/
def guardHoldsSpec : ChangeSpec := { name := "guardHolds", fn := fun _ => fun
  | [d1, d2, d3, d4] => { results := [.lit (.bool true)], args := [d1, d2, d3, d4] }
  | _ => none }
def guardHoldsRow : OpenClaim := { program := "ytfhbgjbbahienaadoor", sum := "aad3039dac3fef2143f6bad528404c62717de5e2f064116ce18e3f25b69aa48a", func := "pawnshop/pawnshoplaw31.GuardHolds", spec := "guardHolds", unfollowed := true, recurses := true, named := ["pawnshop/grant.perms"], apart := false, laid := [("pawnshop/grant.perms", laid_pawnshop_grant_perms)] }
def GuardHoldsSaid : Prop := guardHoldsRow.holds Tryd.pinned (OpenSpec.ofChange guardHoldsSpec)

/-- ITS FALSE NEIGHBOUR: 'it returns false'. Refute it at one input. -/
def guardHoldsWrong : ChangeSpec := { name := "guardHolds", fn := fun _ => fun
  | [d1, d2, d3, d4] => { results := [.lit (.bool false)], args := [d1, d2, d3, d4] }
  | _ => none }
def GuardHoldsWrongFalsely : Prop := guardHoldsRow.holds Tryd.pinned (OpenSpec.ofChange guardHoldsWrong)

/-- 'pawnshoplaw31.GuardFewer': WHATEVER THE INPUT: true; the input reads as it did. -/
def guardFewerSpec : ChangeSpec := { name := "guardFewer", fn := fun _ => fun
  | [d1, d2, d3, d4, d5] => { results := [.lit (.bool true)], args := [d1, d2, d3, d4, d5] }
  | _ => none }
def guardFewerRow : OpenClaim := { program := "ytfhbgjbbahienaadoor", sum := "aad3039dac3fef2143f6bad528404c62717de5e2f064116ce18e3f25b69aa48a", func := "pawnshop/pawnshoplaw31.GuardFewer", spec := "guardFewer", unfollowed := true, recurses := true, named := ["pawnshop/grant.perms"], apart := false, laid := [("pawnshop/grant.perms", laid_pawnshop_grant_perms)] }
def GuardFewerSaid : Prop := guardFewerRow.holds Tryd.pinned (OpenSpec.ofChange guardFewerSpec)

/-- ITS FALSE NEIGHBOUR: 'it returns false'. Refute it at one input. -/
def guardFewerWrong : ChangeSpec := { name := "guardFewer", fn := fun _ => fun
  | [d1, d2, d3, d4, d5] => { results := [.lit (.bool false)], args := [d1, d2, d3, d4, d5] }
  | _ => none }
def GuardFewerWrongFalsely : Prop := guardFewerRow.holds Tryd.pinned (OpenSpec.ofChange guardFewerWrong)

/-- 'pawnshoplaw31.GuardNames': WHATEVER THE INPUT: true; the input reads as it did. -/
def guardNamesSpec : ChangeSpec := { name := "guardNames", fn := fun _ => fun
  | [] => { results := [.lit (.bool true)], args := [] }
  | _ => none }
def guardNamesRow : OpenClaim := { program := "ytfhbgjbbahienaadoor", sum := "aad3039dac3fef2143f6bad528404c62717de5e2f064116ce18e3f25b69aa48a", func := "pawnshop/pawnshoplaw31.GuardNames", spec := "guardNames", unfollowed := true, recurses := true, named := ["pawnshop/grant.perms"], apart := false, laid := [("pawnshop/grant.perms", laid_pawnshop_grant_perms)] }
def GuardNamesSaid : Prop := guardNamesRow.holds Tryd.pinned (OpenSpec.ofChange guardNamesSpec)

/-- ITS FALSE NEIGHBOUR: 'it returns false'. Refute it at one input. -/
def guardNamesWrong : ChangeSpec := { name := "guardNames", fn := fun _ => fun
  | [] => { results := [.lit (.bool false)], args := [] }
  | _ => none }
def GuardNamesWrongFalsely : Prop := guardNamesRow.holds Tryd.pinned (OpenSpec.ofChange guardNamesWrong)

/- THE SECOND FORM. 'bulk': how many values and letters a reading holds, each counted each time it is reached (what is shared counts as often as it is met; a slice's spare places count too). A statement '..UptoSaid' is the law's where the arguments, and the package variables that the reading takes, are together of bulk at most 1048576: NARROWER than '..Said'. Prove '..Said' where nothing that the law and all that it calls make is longer than what came in: it says more and counts as full. Else prove '..UptoSaid'. A law counts once. -/
mutual
def uptoBulk {H : Type} : DataW H → Nat
  | .lit (.string bytes) => bytes.length + 1
  | .lit _ => 1
  | .nil => 1
  | .ptr d => uptoBulk d + 1
  | .slice elems spare => uptoBulkAll elems + uptoBulkAll spare + 1
  | .agg parts => uptoBulkAll parts + 1
  | .iface _ d => uptoBulk d + 1
  | .map entries => uptoBulkEntries entries + 1
  | .held _ => 1
def uptoBulkAll {H : Type} : List (DataW H) → Nat
  | [] => 0
  | d :: r => uptoBulk d + uptoBulkAll r
def uptoBulkEntries {H : Type} : List (Lit × DataW H) → Nat
  | [] => 0
  | x :: r => uptoBulkEntry x + uptoBulkEntries r
def uptoBulkEntry {H : Type} : Lit × DataW H → Nat
  | (.string bytes, d) => bytes.length + uptoBulk d + 1
  | (_, d) => uptoBulk d + 1
 end
def uptoSmall : (H : Type) → List (DataW H) → Bool := fun _ ds => decide (uptoBulkAll ds ≤ 1048576)
def OpenSpec.upto (s : _root_.Go.ChangeSpec) : _root_.Go.OpenSpec := { _root_.Go.OpenSpec.ofChange s with cond := some uptoSmall }

/-- 'pawnshoplaw30.GrantAccess', WHERE WHAT IT READS IS OF BULK AT MOST 1048576: true; the input reads as it did. -/
def grantAccessUptoRow : OpenClaim := { program := "ytfhbgjbbahienaadoor", sum := "aad3039dac3fef2143f6bad528404c62717de5e2f064116ce18e3f25b69aa48a", func := "pawnshop/pawnshoplaw30.GrantAccess", spec := "grantAccess", unfollowed := true, recurses := true, named := ["pawnshop/grant.perms"], apart := false, laid := [("pawnshop/grant.perms", laid_pawnshop_grant_perms)], narrowed := true }
def GrantAccessUptoSaid : Prop := grantAccessUptoRow.holds Tryd.pinned (OpenSpec.upto grantAccessSpec)

/-- 'pawnshoplaw30.GrantTags', WHERE WHAT IT READS IS OF BULK AT MOST 1048576: true; the input reads as it did. -/
def grantTagsUptoRow : OpenClaim := { program := "ytfhbgjbbahienaadoor", sum := "aad3039dac3fef2143f6bad528404c62717de5e2f064116ce18e3f25b69aa48a", func := "pawnshop/pawnshoplaw30.GrantTags", spec := "grantTags", unfollowed := true, recurses := true, named := ["pawnshop/grant.perms"], apart := false, laid := [("pawnshop/grant.perms", laid_pawnshop_grant_perms)], narrowed := true }
def GrantTagsUptoSaid : Prop := grantTagsUptoRow.holds Tryd.pinned (OpenSpec.upto grantTagsSpec)

/-- 'pawnshoplaw30.GrantNames', WHERE WHAT IT READS IS OF BULK AT MOST 1048576: true; the input reads as it did. -/
def grantNamesUptoRow : OpenClaim := { program := "ytfhbgjbbahienaadoor", sum := "aad3039dac3fef2143f6bad528404c62717de5e2f064116ce18e3f25b69aa48a", func := "pawnshop/pawnshoplaw30.GrantNames", spec := "grantNames", unfollowed := true, recurses := true, named := ["pawnshop/grant.perms"], apart := false, laid := [("pawnshop/grant.perms", laid_pawnshop_grant_perms)], narrowed := true }
def GrantNamesUptoSaid : Prop := grantNamesUptoRow.holds Tryd.pinned (OpenSpec.upto grantNamesSpec)

/-- 'pawnshoplaw30.GrantTop', WHERE WHAT IT READS IS OF BULK AT MOST 1048576: true; the input reads as it did. -/
def grantTopUptoRow : OpenClaim := { program := "ytfhbgjbbahienaadoor", sum := "aad3039dac3fef2143f6bad528404c62717de5e2f064116ce18e3f25b69aa48a", func := "pawnshop/pawnshoplaw30.GrantTop", spec := "grantTop", unfollowed := true, recurses := true, named := ["pawnshop/grant.perms"], apart := false, laid := [("pawnshop/grant.perms", laid_pawnshop_grant_perms)], narrowed := true }
def GrantTopUptoSaid : Prop := grantTopUptoRow.holds Tryd.pinned (OpenSpec.upto grantTopSpec)

/-- 'pawnshoplaw31.GuardUses', WHERE WHAT IT READS IS OF BULK AT MOST 1048576: true; the input reads as it did. -/
def guardUsesUptoRow : OpenClaim := { program := "ytfhbgjbbahienaadoor", sum := "aad3039dac3fef2143f6bad528404c62717de5e2f064116ce18e3f25b69aa48a", func := "pawnshop/pawnshoplaw31.GuardUses", spec := "guardUses", unfollowed := true, recurses := true, named := ["pawnshop/grant.perms"], apart := false, laid := [("pawnshop/grant.perms", laid_pawnshop_grant_perms)], narrowed := true }
def GuardUsesUptoSaid : Prop := guardUsesUptoRow.holds Tryd.pinned (OpenSpec.upto guardUsesSpec)

/-- 'pawnshoplaw31.GuardHolds', WHERE WHAT IT READS IS OF BULK AT MOST 1048576: true; the input reads as it did. -/
def guardHoldsUptoRow : OpenClaim := { program := "ytfhbgjbbahienaadoor", sum := "aad3039dac3fef2143f6bad528404c62717de5e2f064116ce18e3f25b69aa48a", func := "pawnshop/pawnshoplaw31.GuardHolds", spec := "guardHolds", unfollowed := true, recurses := true, named := ["pawnshop/grant.perms"], apart := false, laid := [("pawnshop/grant.perms", laid_pawnshop_grant_perms)], narrowed := true }
def GuardHoldsUptoSaid : Prop := guardHoldsUptoRow.holds Tryd.pinned (OpenSpec.upto guardHoldsSpec)

/-- 'pawnshoplaw31.GuardFewer', WHERE WHAT IT READS IS OF BULK AT MOST 1048576: true; the input reads as it did. -/
def guardFewerUptoRow : OpenClaim := { program := "ytfhbgjbbahienaadoor", sum := "aad3039dac3fef2143f6bad528404c62717de5e2f064116ce18e3f25b69aa48a", func := "pawnshop/pawnshoplaw31.GuardFewer", spec := "guardFewer", unfollowed := true, recurses := true, named := ["pawnshop/grant.perms"], apart := false, laid := [("pawnshop/grant.perms", laid_pawnshop_grant_perms)], narrowed := true }
def GuardFewerUptoSaid : Prop := guardFewerUptoRow.holds Tryd.pinned (OpenSpec.upto guardFewerSpec)

/-- 'pawnshoplaw31.GuardNames', WHERE WHAT IT READS IS OF BULK AT MOST 1048576: true; the input reads as it did. -/
def guardNamesUptoRow : OpenClaim := { program := "ytfhbgjbbahienaadoor", sum := "aad3039dac3fef2143f6bad528404c62717de5e2f064116ce18e3f25b69aa48a", func := "pawnshop/pawnshoplaw31.GuardNames", spec := "guardNames", unfollowed := true, recurses := true, named := ["pawnshop/grant.perms"], apart := false, laid := [("pawnshop/grant.perms", laid_pawnshop_grant_perms)], narrowed := true }
def GuardNamesUptoSaid : Prop := guardNamesUptoRow.holds Tryd.pinned (OpenSpec.upto guardNamesSpec)

end Rows
end Go.Proofs.YtfhbgjbbahienaaDoor
