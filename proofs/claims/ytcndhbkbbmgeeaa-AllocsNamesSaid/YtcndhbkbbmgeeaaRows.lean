/-
  No cell of these rows narrows 'for every input' (looked for: loops, veiled, ifaces, maps, wideKeys, modest, calm, conditions, laid).
  DERIVED. THE GIVEN ROWS OF THIS SEAT. 5 by the template 'for every input the law returns true; each argument reads behind the call as it read before'; 0 by the template 'total and deterministic' (their statements: YtcndhbkbbmgeeaaTotals.lean).
  GIVEN WITH THE SEED: the statements are not yours to turn. If you find one false, say at which input.
  Laid BY PROGRAM, IN A SANDBOX (cutbox-rows.mjs): the forced cells as the released guide's own fill.sh prints them over the translation f1ee6e2120def18c… (all of the seat's roots in one cut). By AI agents, Wed Nov 11 2026. No macro, syntax, notation, axiom, sorry.
-/
import Derived.Test.YtcndhbkbbmgeeaaChecked
import GoSem.Claim
import GoSem.ClaimJoined
import GoSem.ClaimMapViews
import Derived.JoinedTies
import Derived.KernelRfl
namespace Go.Proofs.Ytcndhbkbbmgeeaa
/- THE CELL 'sum', in the pinned program and in every row, IS THE sha256 OF THE DUMP (.gsa) THAT YtcndhbkbbmgeeaaProg.lean LOADS. Nothing in Lean hashes anything: it is a label: what it is worth is what the hold of that sum in a sandbox is worth. -/
noncomputable def Try.pinned : Pinned := { name := "ytcndhbkbbmgeeaa", sum := "f1ee6e2120def18cec0b40b0f620bfd6d15687fc8f6074d400f9540481114ee0", checked := Try.checked }
namespace Rows
def none {H : Type} : Left H := { results := [], args := [] }

/-- 'pawnshoplaw28.ItemsNames': WHATEVER THE INPUT: true; the input reads as it did. -/
def itemsNamesSpec : ChangeSpec := { name := "itemsNames", fn := fun _ => fun
  | [] => { results := [.lit (.bool true)], args := [] }
  | _ => none }
def itemsNamesRow : OpenClaim := { program := "ytcndhbkbbmgeeaa", sum := "f1ee6e2120def18cec0b40b0f620bfd6d15687fc8f6074d400f9540481114ee0", func := "pawnshop/pawnshoplaw28.ItemsNames", spec := "itemsNames", unfollowed := true, recurses := true, apart := false }
def ItemsNamesSaid : Prop := itemsNamesRow.holds Try.pinned (OpenSpec.ofChange itemsNamesSpec)

/-- ITS FALSE NEIGHBOUR: 'it returns false'. Refute it at one input. -/
def itemsNamesWrong : ChangeSpec := { name := "itemsNames", fn := fun _ => fun
  | [] => { results := [.lit (.bool false)], args := [] }
  | _ => none }
def ItemsNamesWrongFalsely : Prop := itemsNamesRow.holds Try.pinned (OpenSpec.ofChange itemsNamesWrong)

/-- 'pawnshoplaw29.AccessNames': WHATEVER THE INPUT: true; the input reads as it did. -/
def accessNamesSpec : ChangeSpec := { name := "accessNames", fn := fun _ => fun
  | [] => { results := [.lit (.bool true)], args := [] }
  | _ => none }
def accessNamesRow : OpenClaim := { program := "ytcndhbkbbmgeeaa", sum := "f1ee6e2120def18cec0b40b0f620bfd6d15687fc8f6074d400f9540481114ee0", func := "pawnshop/pawnshoplaw29.AccessNames", spec := "accessNames", unfollowed := true, recurses := true, apart := false }
def AccessNamesSaid : Prop := accessNamesRow.holds Try.pinned (OpenSpec.ofChange accessNamesSpec)

/-- ITS FALSE NEIGHBOUR: 'it returns false'. Refute it at one input. -/
def accessNamesWrong : ChangeSpec := { name := "accessNames", fn := fun _ => fun
  | [] => { results := [.lit (.bool false)], args := [] }
  | _ => none }
def AccessNamesWrongFalsely : Prop := accessNamesRow.holds Try.pinned (OpenSpec.ofChange accessNamesWrong)

/-- 'pawnshoplaw26.AllocsNames': WHATEVER THE INPUT: true; the input reads as it did. -/
def allocsNamesSpec : ChangeSpec := { name := "allocsNames", fn := fun _ => fun
  | [] => { results := [.lit (.bool true)], args := [] }
  | _ => none }
def allocsNamesRow : OpenClaim := { program := "ytcndhbkbbmgeeaa", sum := "f1ee6e2120def18cec0b40b0f620bfd6d15687fc8f6074d400f9540481114ee0", func := "pawnshop/pawnshoplaw26.AllocsNames", spec := "allocsNames", unfollowed := true, recurses := true, apart := false }
def AllocsNamesSaid : Prop := allocsNamesRow.holds Try.pinned (OpenSpec.ofChange allocsNamesSpec)

/-- ITS FALSE NEIGHBOUR: 'it returns false'. Refute it at one input. -/
def allocsNamesWrong : ChangeSpec := { name := "allocsNames", fn := fun _ => fun
  | [] => { results := [.lit (.bool false)], args := [] }
  | _ => none }
def AllocsNamesWrongFalsely : Prop := allocsNamesRow.holds Try.pinned (OpenSpec.ofChange allocsNamesWrong)

/-- 'pawnshoplaw27.CellsNames': WHATEVER THE INPUT: true; the input reads as it did. -/
def cellsNamesSpec : ChangeSpec := { name := "cellsNames", fn := fun _ => fun
  | [] => { results := [.lit (.bool true)], args := [] }
  | _ => none }
def cellsNamesRow : OpenClaim := { program := "ytcndhbkbbmgeeaa", sum := "f1ee6e2120def18cec0b40b0f620bfd6d15687fc8f6074d400f9540481114ee0", func := "pawnshop/pawnshoplaw27.CellsNames", spec := "cellsNames", unfollowed := true, recurses := true, apart := false }
def CellsNamesSaid : Prop := cellsNamesRow.holds Try.pinned (OpenSpec.ofChange cellsNamesSpec)

/-- ITS FALSE NEIGHBOUR: 'it returns false'. Refute it at one input. -/
def cellsNamesWrong : ChangeSpec := { name := "cellsNames", fn := fun _ => fun
  | [] => { results := [.lit (.bool false)], args := [] }
  | _ => none }
def CellsNamesWrongFalsely : Prop := cellsNamesRow.holds Try.pinned (OpenSpec.ofChange cellsNamesWrong)

/-- 'pawnshoplaw35.MonitorLives': WHATEVER THE INPUT: true; the input reads as it did. -/
def monitorLivesSpec : ChangeSpec := { name := "monitorLives", fn := fun _ => fun
  | [d1, d2, d3] => { results := [.lit (.bool true)], args := [d1, d2, d3] }
  | _ => none }
def monitorLivesRow : OpenClaim := { program := "ytcndhbkbbmgeeaa", sum := "f1ee6e2120def18cec0b40b0f620bfd6d15687fc8f6074d400f9540481114ee0", func := "pawnshop/pawnshoplaw35.MonitorLives", spec := "monitorLives", unfollowed := true, recurses := true, apart := false }
def MonitorLivesSaid : Prop := monitorLivesRow.holds Try.pinned (OpenSpec.ofChange monitorLivesSpec)

/-- ITS FALSE NEIGHBOUR: 'it returns false'. Refute it at one input. -/
def monitorLivesWrong : ChangeSpec := { name := "monitorLives", fn := fun _ => fun
  | [d1, d2, d3] => { results := [.lit (.bool false)], args := [d1, d2, d3] }
  | _ => none }
def MonitorLivesWrongFalsely : Prop := monitorLivesRow.holds Try.pinned (OpenSpec.ofChange monitorLivesWrong)

/- THE SECOND FORM. 'bulk': how many values and letters a reading holds, each counted each time it is reached (what is shared counts as often as it is met; a slice's spare places count too). A statement '..UptoSaid' is the law's where the arguments, and the package variables that the reading takes, are together of bulk at most 1048576: NARROWER than '..Said'. Prove '..Said' where nothing that the law and all that it calls make is longer than what came in: it says more and counts as full. Else prove '..UptoSaid'. A law counts once. -/
mutual
def uptoBulk {H : Type} : DataW H → Nat
  | .lit (.string bytes) => bytes.length + 1
  | .lit _ => 1
  | .nil => 1
  | .ptr d => uptoBulk d + 1
  | .slice elems spare => uptoBulkAll elems + uptoBulkAll spare + 1
  | .agg parts => uptoBulkAll parts + 1
  | .iface _ d => uptoBulk d + 1
  | .map entries => uptoBulkEntries entries + 1
  | .held _ => 1
def uptoBulkAll {H : Type} : List (DataW H) → Nat
  | [] => 0
  | d :: r => uptoBulk d + uptoBulkAll r
def uptoBulkEntries {H : Type} : List (Lit × DataW H) → Nat
  | [] => 0
  | x :: r => uptoBulkEntry x + uptoBulkEntries r
def uptoBulkEntry {H : Type} : Lit × DataW H → Nat
  | (.string bytes, d) => bytes.length + uptoBulk d + 1
  | (_, d) => uptoBulk d + 1
 end
def uptoSmall : (H : Type) → List (DataW H) → Bool := fun _ ds => decide (uptoBulkAll ds ≤ 1048576)
def OpenSpec.upto (s : _root_.Go.ChangeSpec) : _root_.Go.OpenSpec := { _root_.Go.OpenSpec.ofChange s with cond := some uptoSmall }

/-- 'pawnshoplaw28.ItemsNames', WHERE WHAT IT READS IS OF BULK AT MOST 1048576: true; the input reads as it did. -/
def itemsNamesUptoRow : OpenClaim := { program := "ytcndhbkbbmgeeaa", sum := "f1ee6e2120def18cec0b40b0f620bfd6d15687fc8f6074d400f9540481114ee0", func := "pawnshop/pawnshoplaw28.ItemsNames", spec := "itemsNames", unfollowed := true, recurses := true, apart := false, narrowed := true }
def ItemsNamesUptoSaid : Prop := itemsNamesUptoRow.holds Try.pinned (OpenSpec.upto itemsNamesSpec)

/-- 'pawnshoplaw29.AccessNames', WHERE WHAT IT READS IS OF BULK AT MOST 1048576: true; the input reads as it did. -/
def accessNamesUptoRow : OpenClaim := { program := "ytcndhbkbbmgeeaa", sum := "f1ee6e2120def18cec0b40b0f620bfd6d15687fc8f6074d400f9540481114ee0", func := "pawnshop/pawnshoplaw29.AccessNames", spec := "accessNames", unfollowed := true, recurses := true, apart := false, narrowed := true }
def AccessNamesUptoSaid : Prop := accessNamesUptoRow.holds Try.pinned (OpenSpec.upto accessNamesSpec)

/-- 'pawnshoplaw26.AllocsNames', WHERE WHAT IT READS IS OF BULK AT MOST 1048576: true; the input reads as it did. -/
def allocsNamesUptoRow : OpenClaim := { program := "ytcndhbkbbmgeeaa", sum := "f1ee6e2120def18cec0b40b0f620bfd6d15687fc8f6074d400f9540481114ee0", func := "pawnshop/pawnshoplaw26.AllocsNames", spec := "allocsNames", unfollowed := true, recurses := true, apart := false, narrowed := true }
def AllocsNamesUptoSaid : Prop := allocsNamesUptoRow.holds Try.pinned (OpenSpec.upto allocsNamesSpec)

/-- 'pawnshoplaw27.CellsNames', WHERE WHAT IT READS IS OF BULK AT MOST 1048576: true; the input reads as it did. -/
def cellsNamesUptoRow : OpenClaim := { program := "ytcndhbkbbmgeeaa", sum := "f1ee6e2120def18cec0b40b0f620bfd6d15687fc8f6074d400f9540481114ee0", func := "pawnshop/pawnshoplaw27.CellsNames", spec := "cellsNames", unfollowed := true, recurses := true, apart := false, narrowed := true }
def CellsNamesUptoSaid : Prop := cellsNamesUptoRow.holds Try.pinned (OpenSpec.upto cellsNamesSpec)

/-- 'pawnshoplaw35.MonitorLives', WHERE WHAT IT READS IS OF BULK AT MOST 1048576: true; the input reads as it did. -/
def monitorLivesUptoRow : OpenClaim := { program := "ytcndhbkbbmgeeaa", sum := "f1ee6e2120def18cec0b40b0f620bfd6d15687fc8f6074d400f9540481114ee0", func := "pawnshop/pawnshoplaw35.MonitorLives", spec := "monitorLives", unfollowed := true, recurses := true, apart := false, narrowed := true }
def MonitorLivesUptoSaid : Prop := monitorLivesUptoRow.holds Try.pinned (OpenSpec.upto monitorLivesSpec)

end Rows
end Go.Proofs.Ytcndhbkbbmgeeaa
