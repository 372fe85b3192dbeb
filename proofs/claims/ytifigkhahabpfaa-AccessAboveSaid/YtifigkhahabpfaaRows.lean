/-
  No cell of these rows narrows 'for every input' (looked for: loops, veiled, ifaces, maps, wideKeys, modest, calm, conditions, laid).
  DERIVED. THE GIVEN ROWS OF THIS SEAT. 11 by the template 'for every input the law returns true; each argument reads behind the call as it read before'; 0 by the template 'total and deterministic' (their statements: YtifigkhahabpfaaTotals.lean).
  GIVEN WITH THE SEED: the statements are not yours to turn. If you find one false, say at which input.
  Laid BY PROGRAM, IN A SANDBOX (cutbox-rows.mjs): the forced cells as the released guide's own fill.sh prints them over the translation dbe6c6ff1c30e39c… (all of the seat's roots in one cut). By AI agents, Wed Nov 11 2026. No macro, syntax, notation, axiom, sorry.
-/
import Derived.Test.YtifigkhahabpfaaChecked
import GoSem.Claim
import GoSem.ClaimJoined
import GoSem.ClaimMapViews
import Derived.JoinedTies
import Derived.KernelRfl
namespace Go.Proofs.Ytifigkhahabpfaa
/- THE CELL 'sum', in the pinned program and in every row, IS THE sha256 OF THE DUMP (.gsa) THAT YtifigkhahabpfaaProg.lean LOADS. Nothing in Lean hashes anything: it is a label: what it is worth is what the hold of that sum in a sandbox is worth. -/
noncomputable def Try.pinned : Pinned := { name := "ytifigkhahabpfaa", sum := "dbe6c6ff1c30e39c9b43304a45d88e5b3bd6a6303a385417ae086493e846bee5", checked := Try.checked }
namespace Rows
def none {H : Type} : Left H := { results := [], args := [] }

/-- 'pawnshoplaw28.ItemsOrder': WHATEVER THE INPUT: true; the input reads as it did. -/
def itemsOrderSpec : ChangeSpec := { name := "itemsOrder", fn := fun _ => fun
  | [d1, d2] => { results := [.lit (.bool true)], args := [d1, d2] }
  | _ => none }
def itemsOrderRow : OpenClaim := { program := "ytifigkhahabpfaa", sum := "dbe6c6ff1c30e39c9b43304a45d88e5b3bd6a6303a385417ae086493e846bee5", func := "pawnshop/pawnshoplaw28.ItemsOrder", spec := "itemsOrder", unfollowed := true, recurses := true, apart := false }
def ItemsOrderSaid : Prop := itemsOrderRow.holds Try.pinned (OpenSpec.ofChange itemsOrderSpec)

/-- ITS FALSE NEIGHBOUR: 'it returns false'. Refute it at one input. -/
def itemsOrderWrong : ChangeSpec := { name := "itemsOrder", fn := fun _ => fun
  | [d1, d2] => { results := [.lit (.bool false)], args := [d1, d2] }
  | _ => none }
def ItemsOrderWrongFalsely : Prop := itemsOrderRow.holds Try.pinned (OpenSpec.ofChange itemsOrderWrong)

/-- 'pawnshoplaw28.ItemsFinds': WHATEVER THE INPUT: true; the input reads as it did. -/
def itemsFindsSpec : ChangeSpec := { name := "itemsFinds", fn := fun _ => fun
  | [d1, d2, d3] => { results := [.lit (.bool true)], args := [d1, d2, d3] }
  | _ => none }
def itemsFindsRow : OpenClaim := { program := "ytifigkhahabpfaa", sum := "dbe6c6ff1c30e39c9b43304a45d88e5b3bd6a6303a385417ae086493e846bee5", func := "pawnshop/pawnshoplaw28.ItemsFinds", spec := "itemsFinds", unfollowed := true, recurses := true, apart := false }
def ItemsFindsSaid : Prop := itemsFindsRow.holds Try.pinned (OpenSpec.ofChange itemsFindsSpec)

/-- ITS FALSE NEIGHBOUR: 'it returns false'. Refute it at one input. -/
def itemsFindsWrong : ChangeSpec := { name := "itemsFinds", fn := fun _ => fun
  | [d1, d2, d3] => { results := [.lit (.bool false)], args := [d1, d2, d3] }
  | _ => none }
def ItemsFindsWrongFalsely : Prop := itemsFindsRow.holds Try.pinned (OpenSpec.ofChange itemsFindsWrong)

/-- 'pawnshoplaw28.ItemsParts': WHATEVER THE INPUT: true; the input reads as it did. -/
def itemsPartsSpec : ChangeSpec := { name := "itemsParts", fn := fun _ => fun
  | [d1, d2, d3] => { results := [.lit (.bool true)], args := [d1, d2, d3] }
  | _ => none }
def itemsPartsRow : OpenClaim := { program := "ytifigkhahabpfaa", sum := "dbe6c6ff1c30e39c9b43304a45d88e5b3bd6a6303a385417ae086493e846bee5", func := "pawnshop/pawnshoplaw28.ItemsParts", spec := "itemsParts", unfollowed := true, recurses := true, apart := false }
def ItemsPartsSaid : Prop := itemsPartsRow.holds Try.pinned (OpenSpec.ofChange itemsPartsSpec)

/-- ITS FALSE NEIGHBOUR: 'it returns false'. Refute it at one input. -/
def itemsPartsWrong : ChangeSpec := { name := "itemsParts", fn := fun _ => fun
  | [d1, d2, d3] => { results := [.lit (.bool false)], args := [d1, d2, d3] }
  | _ => none }
def ItemsPartsWrongFalsely : Prop := itemsPartsRow.holds Try.pinned (OpenSpec.ofChange itemsPartsWrong)

/-- 'pawnshoplaw28.ItemsPush': WHATEVER THE INPUT: true; the input reads as it did. -/
def itemsPushSpec : ChangeSpec := { name := "itemsPush", fn := fun _ => fun
  | [d1, d2, d3] => { results := [.lit (.bool true)], args := [d1, d2, d3] }
  | _ => none }
def itemsPushRow : OpenClaim := { program := "ytifigkhahabpfaa", sum := "dbe6c6ff1c30e39c9b43304a45d88e5b3bd6a6303a385417ae086493e846bee5", func := "pawnshop/pawnshoplaw28.ItemsPush", spec := "itemsPush", unfollowed := true, recurses := true, apart := false }
def ItemsPushSaid : Prop := itemsPushRow.holds Try.pinned (OpenSpec.ofChange itemsPushSpec)

/-- ITS FALSE NEIGHBOUR: 'it returns false'. Refute it at one input. -/
def itemsPushWrong : ChangeSpec := { name := "itemsPush", fn := fun _ => fun
  | [d1, d2, d3] => { results := [.lit (.bool false)], args := [d1, d2, d3] }
  | _ => none }
def ItemsPushWrongFalsely : Prop := itemsPushRow.holds Try.pinned (OpenSpec.ofChange itemsPushWrong)

/-- 'pawnshoplaw28.ItemsCut': WHATEVER THE INPUT: true; the input reads as it did. -/
def itemsCutSpec : ChangeSpec := { name := "itemsCut", fn := fun _ => fun
  | [d1, d2] => { results := [.lit (.bool true)], args := [d1, d2] }
  | _ => none }
def itemsCutRow : OpenClaim := { program := "ytifigkhahabpfaa", sum := "dbe6c6ff1c30e39c9b43304a45d88e5b3bd6a6303a385417ae086493e846bee5", func := "pawnshop/pawnshoplaw28.ItemsCut", spec := "itemsCut", unfollowed := true, recurses := true, apart := false }
def ItemsCutSaid : Prop := itemsCutRow.holds Try.pinned (OpenSpec.ofChange itemsCutSpec)

/-- ITS FALSE NEIGHBOUR: 'it returns false'. Refute it at one input. -/
def itemsCutWrong : ChangeSpec := { name := "itemsCut", fn := fun _ => fun
  | [d1, d2] => { results := [.lit (.bool false)], args := [d1, d2] }
  | _ => none }
def ItemsCutWrongFalsely : Prop := itemsCutRow.holds Try.pinned (OpenSpec.ofChange itemsCutWrong)

/-- 'pawnshoplaw28.ItemsNames': WHATEVER THE INPUT: true; the input reads as it did. -/
def itemsNamesSpec : ChangeSpec := { name := "itemsNames", fn := fun _ => fun
  | [] => { results := [.lit (.bool true)], args := [] }
  | _ => none }
def itemsNamesRow : OpenClaim := { program := "ytifigkhahabpfaa", sum := "dbe6c6ff1c30e39c9b43304a45d88e5b3bd6a6303a385417ae086493e846bee5", func := "pawnshop/pawnshoplaw28.ItemsNames", spec := "itemsNames", unfollowed := true, recurses := true, apart := false }
def ItemsNamesSaid : Prop := itemsNamesRow.holds Try.pinned (OpenSpec.ofChange itemsNamesSpec)

/-- ITS FALSE NEIGHBOUR: 'it returns false'. Refute it at one input. -/
def itemsNamesWrong : ChangeSpec := { name := "itemsNames", fn := fun _ => fun
  | [] => { results := [.lit (.bool false)], args := [] }
  | _ => none }
def ItemsNamesWrongFalsely : Prop := itemsNamesRow.holds Try.pinned (OpenSpec.ofChange itemsNamesWrong)

/-- 'pawnshoplaw29.AccessUses': WHATEVER THE INPUT: true; the input reads as it did. -/
def accessUsesSpec : ChangeSpec := { name := "accessUses", fn := fun _ => fun
  | [d1, d2, d3] => { results := [.lit (.bool true)], args := [d1, d2, d3] }
  | _ => none }
def accessUsesRow : OpenClaim := { program := "ytifigkhahabpfaa", sum := "dbe6c6ff1c30e39c9b43304a45d88e5b3bd6a6303a385417ae086493e846bee5", func := "pawnshop/pawnshoplaw29.AccessUses", spec := "accessUses", unfollowed := true, recurses := true, apart := false }
def AccessUsesSaid : Prop := accessUsesRow.holds Try.pinned (OpenSpec.ofChange accessUsesSpec)

/-- ITS FALSE NEIGHBOUR: 'it returns false'. Refute it at one input. -/
def accessUsesWrong : ChangeSpec := { name := "accessUses", fn := fun _ => fun
  | [d1, d2, d3] => { results := [.lit (.bool false)], args := [d1, d2, d3] }
  | _ => none }
def AccessUsesWrongFalsely : Prop := accessUsesRow.holds Try.pinned (OpenSpec.ofChange accessUsesWrong)

/-- 'pawnshoplaw29.AccessNames': WHATEVER THE INPUT: true; the input reads as it did. -/
def accessNamesSpec : ChangeSpec := { name := "accessNames", fn := fun _ => fun
  | [] => { results := [.lit (.bool true)], args := [] }
  | _ => none }
def accessNamesRow : OpenClaim := { program := "ytifigkhahabpfaa", sum := "dbe6c6ff1c30e39c9b43304a45d88e5b3bd6a6303a385417ae086493e846bee5", func := "pawnshop/pawnshoplaw29.AccessNames", spec := "accessNames", unfollowed := true, recurses := true, apart := false }
def AccessNamesSaid : Prop := accessNamesRow.holds Try.pinned (OpenSpec.ofChange accessNamesSpec)

/-- ITS FALSE NEIGHBOUR: 'it returns false'. Refute it at one input. -/
def accessNamesWrong : ChangeSpec := { name := "accessNames", fn := fun _ => fun
  | [] => { results := [.lit (.bool false)], args := [] }
  | _ => none }
def AccessNamesWrongFalsely : Prop := accessNamesRow.holds Try.pinned (OpenSpec.ofChange accessNamesWrong)

/-- 'pawnshoplaw29.AccessAbove': WHATEVER THE INPUT: true; the input reads as it did. -/
def accessAboveSpec : ChangeSpec := { name := "accessAbove", fn := fun _ => fun
  | [d1, d2, d3] => { results := [.lit (.bool true)], args := [d1, d2, d3] }
  | _ => none }
def accessAboveRow : OpenClaim := { program := "ytifigkhahabpfaa", sum := "dbe6c6ff1c30e39c9b43304a45d88e5b3bd6a6303a385417ae086493e846bee5", func := "pawnshop/pawnshoplaw29.AccessAbove", spec := "accessAbove", unfollowed := true, recurses := true, apart := false }
def AccessAboveSaid : Prop := accessAboveRow.holds Try.pinned (OpenSpec.ofChange accessAboveSpec)

/-- ITS FALSE NEIGHBOUR: 'it returns false'. Refute it at one input. -/
def accessAboveWrong : ChangeSpec := { name := "accessAbove", fn := fun _ => fun
  | [d1, d2, d3] => { results := [.lit (.bool false)], args := [d1, d2, d3] }
  | _ => none }
def AccessAboveWrongFalsely : Prop := accessAboveRow.holds Try.pinned (OpenSpec.ofChange accessAboveWrong)

/-- 'pawnshoplaw29.AccessAgain': WHATEVER THE INPUT: true; the input reads as it did. -/
def accessAgainSpec : ChangeSpec := { name := "accessAgain", fn := fun _ => fun
  | [d1, d2, d3] => { results := [.lit (.bool true)], args := [d1, d2, d3] }
  | _ => none }
def accessAgainRow : OpenClaim := { program := "ytifigkhahabpfaa", sum := "dbe6c6ff1c30e39c9b43304a45d88e5b3bd6a6303a385417ae086493e846bee5", func := "pawnshop/pawnshoplaw29.AccessAgain", spec := "accessAgain", unfollowed := true, recurses := true, apart := false }
def AccessAgainSaid : Prop := accessAgainRow.holds Try.pinned (OpenSpec.ofChange accessAgainSpec)

/-- ITS FALSE NEIGHBOUR: 'it returns false'. Refute it at one input. -/
def accessAgainWrong : ChangeSpec := { name := "accessAgain", fn := fun _ => fun
  | [d1, d2, d3] => { results := [.lit (.bool false)], args := [d1, d2, d3] }
  | _ => none }
def AccessAgainWrongFalsely : Prop := accessAgainRow.holds Try.pinned (OpenSpec.ofChange accessAgainWrong)

/-- 'pawnshoplaw29.AccessLess': WHATEVER THE INPUT: true; the input reads as it did. -/
def accessLessSpec : ChangeSpec := { name := "accessLess", fn := fun _ => fun
  | [d1, d2, d3, d4, d5] => { results := [.lit (.bool true)], args := [d1, d2, d3, d4, d5] }
  | _ => none }
def accessLessRow : OpenClaim := { program := "ytifigkhahabpfaa", sum := "dbe6c6ff1c30e39c9b43304a45d88e5b3bd6a6303a385417ae086493e846bee5", func := "pawnshop/pawnshoplaw29.AccessLess", spec := "accessLess", unfollowed := true, recurses := true, apart := false }
def AccessLessSaid : Prop := accessLessRow.holds Try.pinned (OpenSpec.ofChange accessLessSpec)

/-- ITS FALSE NEIGHBOUR: 'it returns false'. Refute it at one input. -/
def accessLessWrong : ChangeSpec := { name := "accessLess", fn := fun _ => fun
  | [d1, d2, d3, d4, d5] => { results := [.lit (.bool false)], args := [d1, d2, d3, d4, d5] }
  | _ => none }
def AccessLessWrongFalsely : Prop := accessLessRow.holds Try.pinned (OpenSpec.ofChange accessLessWrong)

/- THE SECOND FORM. 'bulk': how many values and letters a reading holds, each counted each time it is reached (what is shared counts as often as it is met; a slice's spare places count too). A statement '..UptoSaid' is the law's where the arguments, and the package variables that the reading takes, are together of bulk at most 1048576: NARROWER than '..Said'. Prove '..Said' where nothing that the law and all that it calls make is longer than what came in: it says more and counts as full. Else prove '..UptoSaid'. A law counts once. -/
mutual
def uptoBulk {H : Type} : DataW H → Nat
  | .lit (.string bytes) => bytes.length + 1
  | .lit _ => 1
  | .nil => 1
  | .ptr d => uptoBulk d + 1
  | .slice elems spare => uptoBulkAll elems + uptoBulkAll spare + 1
  | .agg parts => uptoBulkAll parts + 1
  | .iface _ d => uptoBulk d + 1
  | .map entries => uptoBulkEntries entries + 1
  | .held _ => 1
def uptoBulkAll {H : Type} : List (DataW H) → Nat
  | [] => 0
  | d :: r => uptoBulk d + uptoBulkAll r
def uptoBulkEntries {H : Type} : List (Lit × DataW H) → Nat
  | [] => 0
  | x :: r => uptoBulkEntry x + uptoBulkEntries r
def uptoBulkEntry {H : Type} : Lit × DataW H → Nat
  | (.string bytes, d) => bytes.length + uptoBulk d + 1
  | (_, d) => uptoBulk d + 1
 end
def uptoSmall : (H : Type) → List (DataW H) → Bool := fun _ ds => decide (uptoBulkAll ds ≤ 1048576)
def OpenSpec.upto (s : _root_.Go.ChangeSpec) : _root_.Go.OpenSpec := { _root_.Go.OpenSpec.ofChange s with cond := some uptoSmall }

/-- 'pawnshoplaw28.ItemsOrder', WHERE WHAT IT READS IS OF BULK AT MOST 1048576: true; the input reads as it did. -/
def itemsOrderUptoRow : OpenClaim := { program := "ytifigkhahabpfaa", sum := "dbe6c6ff1c30e39c9b43304a45d88e5b3bd6a6303a385417ae086493e846bee5", func := "pawnshop/pawnshoplaw28.ItemsOrder", spec := "itemsOrder", unfollowed := true, recurses := true, apart := false, narrowed := true }
def ItemsOrderUptoSaid : Prop := itemsOrderUptoRow.holds Try.pinned (OpenSpec.upto itemsOrderSpec)

/-- 'pawnshoplaw28.ItemsFinds', WHERE WHAT IT READS IS OF BULK AT MOST 1048576: true; the input reads as it did. -/
def itemsFindsUptoRow : OpenClaim := { program := "ytifigkhahabpfaa", sum := "dbe6c6ff1c30e39c9b43304a45d88e5b3bd6a6303a385417ae086493e846bee5", func := "pawnshop/pawnshoplaw28.ItemsFinds", spec := "itemsFinds", unfollowed := true, recurses := true, apart := false, narrowed := true }
def ItemsFindsUptoSaid : Prop := itemsFindsUptoRow.holds Try.pinned (OpenSpec.upto itemsFindsSpec)

/-- 'pawnshoplaw28.ItemsParts', WHERE WHAT IT READS IS OF BULK AT MOST 1048576: true; the input reads as it did. -/
def itemsPartsUptoRow : OpenClaim := { program := "ytifigkhahabpfaa", sum := "dbe6c6ff1c30e39c9b43304a45d88e5b3bd6a6303a385417ae086493e846bee5", func := "pawnshop/pawnshoplaw28.ItemsParts", spec := "itemsParts", unfollowed := true, recurses := true, apart := false, narrowed := true }
def ItemsPartsUptoSaid : Prop := itemsPartsUptoRow.holds Try.pinned (OpenSpec.upto itemsPartsSpec)

/-- 'pawnshoplaw28.ItemsPush', WHERE WHAT IT READS IS OF BULK AT MOST 1048576: true; the input reads as it did. -/
def itemsPushUptoRow : OpenClaim := { program := "ytifigkhahabpfaa", sum := "dbe6c6ff1c30e39c9b43304a45d88e5b3bd6a6303a385417ae086493e846bee5", func := "pawnshop/pawnshoplaw28.ItemsPush", spec := "itemsPush", unfollowed := true, recurses := true, apart := false, narrowed := true }
def ItemsPushUptoSaid : Prop := itemsPushUptoRow.holds Try.pinned (OpenSpec.upto itemsPushSpec)

/-- 'pawnshoplaw28.ItemsCut', WHERE WHAT IT READS IS OF BULK AT MOST 1048576: true; the input reads as it did. -/
def itemsCutUptoRow : OpenClaim := { program := "ytifigkhahabpfaa", sum := "dbe6c6ff1c30e39c9b43304a45d88e5b3bd6a6303a385417ae086493e846bee5", func := "pawnshop/pawnshoplaw28.ItemsCut", spec := "itemsCut", unfollowed := true, recurses := true, apart := false, narrowed := true }
def ItemsCutUptoSaid : Prop := itemsCutUptoRow.holds Try.pinned (OpenSpec.upto itemsCutSpec)

/-- 'pawnshoplaw28.ItemsNames', WHERE WHAT IT READS IS OF BULK AT MOST 1048576: true; the input reads as it did. -/
def itemsNamesUptoRow : OpenClaim := { program := "ytifigkhahabpfaa", sum := "dbe6c6ff1c30e39c9b43304a45d88e5b3bd6a6303a385417ae086493e846bee5", func := "pawnshop/pawnshoplaw28.ItemsNames", spec := "itemsNames", unfollowed := true, recurses := true, apart := false, narrowed := true }
def ItemsNamesUptoSaid : Prop := itemsNamesUptoRow.holds Try.pinned (OpenSpec.upto itemsNamesSpec)

/-- 'pawnshoplaw29.AccessUses', WHERE WHAT IT READS IS OF BULK AT MOST 1048576: true; the input reads as it did. -/
def accessUsesUptoRow : OpenClaim := { program := "ytifigkhahabpfaa", sum := "dbe6c6ff1c30e39c9b43304a45d88e5b3bd6a6303a385417ae086493e846bee5", func := "pawnshop/pawnshoplaw29.AccessUses", spec := "accessUses", unfollowed := true, recurses := true, apart := false, narrowed := true }
def AccessUsesUptoSaid : Prop := accessUsesUptoRow.holds Try.pinned (OpenSpec.upto accessUsesSpec)

/-- 'pawnshoplaw29.AccessNames', WHERE WHAT IT READS IS OF BULK AT MOST 1048576: true; the input reads as it did. -/
def accessNamesUptoRow : OpenClaim := { program := "ytifigkhahabpfaa", sum := "dbe6c6ff1c30e39c9b43304a45d88e5b3bd6a6303a385417ae086493e846bee5", func := "pawnshop/pawnshoplaw29.AccessNames", spec := "accessNames", unfollowed := true, recurses := true, apart := false, narrowed := true }
def AccessNamesUptoSaid : Prop := accessNamesUptoRow.holds Try.pinned (OpenSpec.upto accessNamesSpec)

/-- 'pawnshoplaw29.AccessAbove', WHERE WHAT IT READS IS OF BULK AT MOST 1048576: true; the input reads as it did. -/
def accessAboveUptoRow : OpenClaim := { program := "ytifigkhahabpfaa", sum := "dbe6c6ff1c30e39c9b43304a45d88e5b3bd6a6303a385417ae086493e846bee5", func := "pawnshop/pawnshoplaw29.AccessAbove", spec := "accessAbove", unfollowed := true, recurses := true, apart := false, narrowed := true }
def AccessAboveUptoSaid : Prop := accessAboveUptoRow.holds Try.pinned (OpenSpec.upto accessAboveSpec)

/-- 'pawnshoplaw29.AccessAgain', WHERE WHAT IT READS IS OF BULK AT MOST 1048576: true; the input reads as it did. -/
def accessAgainUptoRow : OpenClaim := { program := "ytifigkhahabpfaa", sum := "dbe6c6ff1c30e39c9b43304a45d88e5b3bd6a6303a385417ae086493e846bee5", func := "pawnshop/pawnshoplaw29.AccessAgain", spec := "accessAgain", unfollowed := true, recurses := true, apart := false, narrowed := true }
def AccessAgainUptoSaid : Prop := accessAgainUptoRow.holds Try.pinned (OpenSpec.upto accessAgainSpec)

/-- 'pawnshoplaw29.AccessLess', WHERE WHAT IT READS IS OF BULK AT MOST 1048576: true; the input reads as it did. -/
def accessLessUptoRow : OpenClaim := { program := "ytifigkhahabpfaa", sum := "dbe6c6ff1c30e39c9b43304a45d88e5b3bd6a6303a385417ae086493e846bee5", func := "pawnshop/pawnshoplaw29.AccessLess", spec := "accessLess", unfollowed := true, recurses := true, apart := false, narrowed := true }
def AccessLessUptoSaid : Prop := accessLessUptoRow.holds Try.pinned (OpenSpec.upto accessLessSpec)

end Rows
end Go.Proofs.Ytifigkhahabpfaa
