/-
  No cell of these rows narrows 'for every input' (looked for: loops, veiled, ifaces, maps, wideKeys, modest, calm, conditions, laid).
  DERIVED. THE GIVEN ROWS OF THIS SEAT. 10 by the template 'for every input the law returns true; each argument reads behind the call as it read before'; 0 by the template 'total and deterministic' (their statements: YtebocgnbcokogaaTotals.lean).
  GIVEN WITH THE SEED: the statements are not yours to turn. If you find one false, say at which input.
  Laid BY PROGRAM, IN A SANDBOX (cutbox-rows.mjs): the forced cells as the released guide's own fill.sh prints them over the translation 553a38dd22934399… (all of the seat's roots in one cut). By AI agents, Wed Nov 11 2026. No macro, syntax, notation, axiom, sorry.
-/
import Derived.Test.YtebocgnbcokogaaChecked
import GoSem.Claim
import GoSem.ClaimJoined
import GoSem.ClaimMapViews
import Derived.JoinedTies
import Derived.KernelRfl
namespace Go.Proofs.Ytebocgnbcokogaa
/- THE CELL 'sum', in the pinned program and in every row, IS THE sha256 OF THE DUMP (.gsa) THAT YtebocgnbcokogaaProg.lean LOADS. Nothing in Lean hashes anything: it is a label: what it is worth is what the hold of that sum in a sandbox is worth. -/
noncomputable def Try.pinned : Pinned := { name := "ytebocgnbcokogaa", sum := "553a38dd22934399aab0dae94c8698230376b934142dad2a2bdead454d84d183", checked := Try.checked }
namespace Rows
def none {H : Type} : Left H := { results := [], args := [] }

/-- 'pawnshoplaw33.StacksNews': WHATEVER THE INPUT: true; the input reads as it did. -/
def stacksNewsSpec : ChangeSpec := { name := "stacksNews", fn := fun _ => fun
  | [d1, d2, d3, d4] => { results := [.lit (.bool true)], args := [d1, d2, d3, d4] }
  | _ => none }
def stacksNewsRow : OpenClaim := { program := "ytebocgnbcokogaa", sum := "553a38dd22934399aab0dae94c8698230376b934142dad2a2bdead454d84d183", func := "pawnshop/pawnshoplaw33.StacksNews", spec := "stacksNews", unfollowed := true, recurses := true, apart := false }
def StacksNewsSaid : Prop := stacksNewsRow.holds Try.pinned (OpenSpec.ofChange stacksNewsSpec)

/-- ITS FALSE NEIGHBOUR: 'it returns false'. Refute it at one input. -/
def stacksNewsWrong : ChangeSpec := { name := "stacksNews", fn := fun _ => fun
  | [d1, d2, d3, d4] => { results := [.lit (.bool false)], args := [d1, d2, d3, d4] }
  | _ => none }
def StacksNewsWrongFalsely : Prop := stacksNewsRow.holds Try.pinned (OpenSpec.ofChange stacksNewsWrong)

/-- 'pawnshoplaw28.ItemsNames': WHATEVER THE INPUT: true; the input reads as it did. -/
def itemsNamesSpec : ChangeSpec := { name := "itemsNames", fn := fun _ => fun
  | [] => { results := [.lit (.bool true)], args := [] }
  | _ => none }
def itemsNamesRow : OpenClaim := { program := "ytebocgnbcokogaa", sum := "553a38dd22934399aab0dae94c8698230376b934142dad2a2bdead454d84d183", func := "pawnshop/pawnshoplaw28.ItemsNames", spec := "itemsNames", unfollowed := true, recurses := true, apart := false }
def ItemsNamesSaid : Prop := itemsNamesRow.holds Try.pinned (OpenSpec.ofChange itemsNamesSpec)

/-- ITS FALSE NEIGHBOUR: 'it returns false'. Refute it at one input. -/
def itemsNamesWrong : ChangeSpec := { name := "itemsNames", fn := fun _ => fun
  | [] => { results := [.lit (.bool false)], args := [] }
  | _ => none }
def ItemsNamesWrongFalsely : Prop := itemsNamesRow.holds Try.pinned (OpenSpec.ofChange itemsNamesWrong)

/-- 'pawnshoplaw34.DeallocAlls': WHATEVER THE INPUT: true; the input reads as it did. -/
def deallocAllsSpec : ChangeSpec := { name := "deallocAlls", fn := fun _ => fun
  | [d1, d2] => { results := [.lit (.bool true)], args := [d1, d2] }
  | _ => none }
def deallocAllsRow : OpenClaim := { program := "ytebocgnbcokogaa", sum := "553a38dd22934399aab0dae94c8698230376b934142dad2a2bdead454d84d183", func := "pawnshop/pawnshoplaw34.DeallocAlls", spec := "deallocAlls", unfollowed := true, recurses := true, apart := false }
def DeallocAllsSaid : Prop := deallocAllsRow.holds Try.pinned (OpenSpec.ofChange deallocAllsSpec)

/-- ITS FALSE NEIGHBOUR: 'it returns false'. Refute it at one input. -/
def deallocAllsWrong : ChangeSpec := { name := "deallocAlls", fn := fun _ => fun
  | [d1, d2] => { results := [.lit (.bool false)], args := [d1, d2] }
  | _ => none }
def DeallocAllsWrongFalsely : Prop := deallocAllsRow.holds Try.pinned (OpenSpec.ofChange deallocAllsWrong)

/-- 'pawnshoplaw29.AccessNames': WHATEVER THE INPUT: true; the input reads as it did. -/
def accessNamesSpec : ChangeSpec := { name := "accessNames", fn := fun _ => fun
  | [] => { results := [.lit (.bool true)], args := [] }
  | _ => none }
def accessNamesRow : OpenClaim := { program := "ytebocgnbcokogaa", sum := "553a38dd22934399aab0dae94c8698230376b934142dad2a2bdead454d84d183", func := "pawnshop/pawnshoplaw29.AccessNames", spec := "accessNames", unfollowed := true, recurses := true, apart := false }
def AccessNamesSaid : Prop := accessNamesRow.holds Try.pinned (OpenSpec.ofChange accessNamesSpec)

/-- ITS FALSE NEIGHBOUR: 'it returns false'. Refute it at one input. -/
def accessNamesWrong : ChangeSpec := { name := "accessNames", fn := fun _ => fun
  | [] => { results := [.lit (.bool false)], args := [] }
  | _ => none }
def AccessNamesWrongFalsely : Prop := accessNamesRow.holds Try.pinned (OpenSpec.ofChange accessNamesWrong)

/-- 'pawnshoplaw26.AllocsNames': WHATEVER THE INPUT: true; the input reads as it did. -/
def allocsNamesSpec : ChangeSpec := { name := "allocsNames", fn := fun _ => fun
  | [] => { results := [.lit (.bool true)], args := [] }
  | _ => none }
def allocsNamesRow : OpenClaim := { program := "ytebocgnbcokogaa", sum := "553a38dd22934399aab0dae94c8698230376b934142dad2a2bdead454d84d183", func := "pawnshop/pawnshoplaw26.AllocsNames", spec := "allocsNames", unfollowed := true, recurses := true, apart := false }
def AllocsNamesSaid : Prop := allocsNamesRow.holds Try.pinned (OpenSpec.ofChange allocsNamesSpec)

/-- ITS FALSE NEIGHBOUR: 'it returns false'. Refute it at one input. -/
def allocsNamesWrong : ChangeSpec := { name := "allocsNames", fn := fun _ => fun
  | [] => { results := [.lit (.bool false)], args := [] }
  | _ => none }
def AllocsNamesWrongFalsely : Prop := allocsNamesRow.holds Try.pinned (OpenSpec.ofChange allocsNamesWrong)

/-- 'pawnshoplaw34.DeallocTells': WHATEVER THE INPUT: true; the input reads as it did. -/
def deallocTellsSpec : ChangeSpec := { name := "deallocTells", fn := fun _ => fun
  | [d1, d2] => { results := [.lit (.bool true)], args := [d1, d2] }
  | _ => none }
def deallocTellsRow : OpenClaim := { program := "ytebocgnbcokogaa", sum := "553a38dd22934399aab0dae94c8698230376b934142dad2a2bdead454d84d183", func := "pawnshop/pawnshoplaw34.DeallocTells", spec := "deallocTells", unfollowed := true, recurses := true, apart := false }
def DeallocTellsSaid : Prop := deallocTellsRow.holds Try.pinned (OpenSpec.ofChange deallocTellsSpec)

/-- ITS FALSE NEIGHBOUR: 'it returns false'. Refute it at one input. -/
def deallocTellsWrong : ChangeSpec := { name := "deallocTells", fn := fun _ => fun
  | [d1, d2] => { results := [.lit (.bool false)], args := [d1, d2] }
  | _ => none }
def DeallocTellsWrongFalsely : Prop := deallocTellsRow.holds Try.pinned (OpenSpec.ofChange deallocTellsWrong)

/-- 'pawnshoplaw27.CellsNames': WHATEVER THE INPUT: true; the input reads as it did. -/
def cellsNamesSpec : ChangeSpec := { name := "cellsNames", fn := fun _ => fun
  | [] => { results := [.lit (.bool true)], args := [] }
  | _ => none }
def cellsNamesRow : OpenClaim := { program := "ytebocgnbcokogaa", sum := "553a38dd22934399aab0dae94c8698230376b934142dad2a2bdead454d84d183", func := "pawnshop/pawnshoplaw27.CellsNames", spec := "cellsNames", unfollowed := true, recurses := true, apart := false }
def CellsNamesSaid : Prop := cellsNamesRow.holds Try.pinned (OpenSpec.ofChange cellsNamesSpec)

/-- ITS FALSE NEIGHBOUR: 'it returns false'. Refute it at one input. -/
def cellsNamesWrong : ChangeSpec := { name := "cellsNames", fn := fun _ => fun
  | [] => { results := [.lit (.bool false)], args := [] }
  | _ => none }
def CellsNamesWrongFalsely : Prop := cellsNamesRow.holds Try.pinned (OpenSpec.ofChange cellsNamesWrong)

/-- 'pawnshoplaw27.CellsBack': WHATEVER THE INPUT: true; the input reads as it did. -/
def cellsBackSpec : ChangeSpec := { name := "cellsBack", fn := fun _ => fun
  | [d1, d2, d3, d4] => { results := [.lit (.bool true)], args := [d1, d2, d3, d4] }
  | _ => none }
def cellsBackRow : OpenClaim := { program := "ytebocgnbcokogaa", sum := "553a38dd22934399aab0dae94c8698230376b934142dad2a2bdead454d84d183", func := "pawnshop/pawnshoplaw27.CellsBack", spec := "cellsBack", unfollowed := true, recurses := true, apart := false }
def CellsBackSaid : Prop := cellsBackRow.holds Try.pinned (OpenSpec.ofChange cellsBackSpec)

/-- ITS FALSE NEIGHBOUR: 'it returns false'. Refute it at one input. -/
def cellsBackWrong : ChangeSpec := { name := "cellsBack", fn := fun _ => fun
  | [d1, d2, d3, d4] => { results := [.lit (.bool false)], args := [d1, d2, d3, d4] }
  | _ => none }
def CellsBackWrongFalsely : Prop := cellsBackRow.holds Try.pinned (OpenSpec.ofChange cellsBackWrong)

/-- 'pawnshoplaw32.PhasesReads': WHATEVER THE INPUT: true; the input reads as it did. -/
def phasesReadsSpec : ChangeSpec := { name := "phasesReads", fn := fun _ => fun
  | [d1, d2, d3] => { results := [.lit (.bool true)], args := [d1, d2, d3] }
  | _ => none }
def phasesReadsRow : OpenClaim := { program := "ytebocgnbcokogaa", sum := "553a38dd22934399aab0dae94c8698230376b934142dad2a2bdead454d84d183", func := "pawnshop/pawnshoplaw32.PhasesReads", spec := "phasesReads", unfollowed := true, recurses := true, apart := false }
def PhasesReadsSaid : Prop := phasesReadsRow.holds Try.pinned (OpenSpec.ofChange phasesReadsSpec)

/-- ITS FALSE NEIGHBOUR: 'it returns false'. Refute it at one input. -/
def phasesReadsWrong : ChangeSpec := { name := "phasesReads", fn := fun _ => fun
  | [d1, d2, d3] => { results := [.lit (.bool false)], args := [d1, d2, d3] }
  | _ => none }
def PhasesReadsWrongFalsely : Prop := phasesReadsRow.holds Try.pinned (OpenSpec.ofChange phasesReadsWrong)

/-- 'pawnshoplaw35.MonitorLives': WHATEVER THE INPUT: true; the input reads as it did. -/
def monitorLivesSpec : ChangeSpec := { name := "monitorLives", fn := fun _ => fun
  | [d1, d2, d3] => { results := [.lit (.bool true)], args := [d1, d2, d3] }
  | _ => none }
def monitorLivesRow : OpenClaim := { program := "ytebocgnbcokogaa", sum := "553a38dd22934399aab0dae94c8698230376b934142dad2a2bdead454d84d183", func := "pawnshop/pawnshoplaw35.MonitorLives", spec := "monitorLives", unfollowed := true, recurses := true, apart := false }
def MonitorLivesSaid : Prop := monitorLivesRow.holds Try.pinned (OpenSpec.ofChange monitorLivesSpec)

/-- ITS FALSE NEIGHBOUR: 'it returns false'. Refute it at one input. -/
def monitorLivesWrong : ChangeSpec := { name := "monitorLives", fn := fun _ => fun
  | [d1, d2, d3] => { results := [.lit (.bool false)], args := [d1, d2, d3] }
  | _ => none }
def MonitorLivesWrongFalsely : Prop := monitorLivesRow.holds Try.pinned (OpenSpec.ofChange monitorLivesWrong)

/- THE SECOND FORM. 'bulk': how many values and letters a reading holds, each counted each time it is reached (what is shared counts as often as it is met; a slice's spare places count too). A statement '..UptoSaid' is the law's where the arguments, and the package variables that the reading takes, are together of bulk at most 1048576: NARROWER than '..Said'. Prove '..Said' where nothing that the law and all that it calls make is longer than what came in: it says more and counts as full. Else prove '..UptoSaid'. A law counts once. -/
mutual
def uptoBulk {H : Type} : DataW H → Nat
  | .lit (.string bytes) => bytes.length + 1
  | .lit _ => 1
  | .nil => 1
  | .ptr d => uptoBulk d + 1
  | .slice elems spare => uptoBulkAll elems + uptoBulkAll spare + 1
  | .agg parts => uptoBulkAll parts + 1
  | .iface _ d => uptoBulk d + 1
  | .map entries => uptoBulkEntries entries + 1
  | .held _ => 1
def uptoBulkAll {H : Type} : List (DataW H) → Nat
  | [] => 0
  | d :: r => uptoBulk d + uptoBulkAll r
def uptoBulkEntries {H : Type} : List (Lit × DataW H) → Nat
  | [] => 0
  | x :: r => uptoBulkEntry x + uptoBulkEntries r
def uptoBulkEntry {H : Type} : Lit × DataW H → Nat
  | (.string bytes, d) => bytes.length + uptoBulk d + 1
  | (_, d) => uptoBulk d + 1
 end
def uptoSmall : (H : Type) → List (DataW H) → Bool := fun _ ds => decide (uptoBulkAll ds ≤ 1048576)
def OpenSpec.upto (s : _root_.Go.ChangeSpec) : _root_.Go.OpenSpec := { _root_.Go.OpenSpec.ofChange s with cond := some uptoSmall }

/-- 'pawnshoplaw33.StacksNews', WHERE WHAT IT READS IS OF BULK AT MOST 1048576: true; the input reads as it did. -/
def stacksNewsUptoRow : OpenClaim := { program := "ytebocgnbcokogaa", sum := "553a38dd22934399aab0dae94c8698230376b934142dad2a2bdead454d84d183", func := "pawnshop/pawnshoplaw33.StacksNews", spec := "stacksNews", unfollowed := true, recurses := true, apart := false, narrowed := true }
def StacksNewsUptoSaid : Prop := stacksNewsUptoRow.holds Try.pinned (OpenSpec.upto stacksNewsSpec)

/-- 'pawnshoplaw28.ItemsNames', WHERE WHAT IT READS IS OF BULK AT MOST 1048576: true; the input reads as it did. -/
def itemsNamesUptoRow : OpenClaim := { program := "ytebocgnbcokogaa", sum := "553a38dd22934399aab0dae94c8698230376b934142dad2a2bdead454d84d183", func := "pawnshop/pawnshoplaw28.ItemsNames", spec := "itemsNames", unfollowed := true, recurses := true, apart := false, narrowed := true }
def ItemsNamesUptoSaid : Prop := itemsNamesUptoRow.holds Try.pinned (OpenSpec.upto itemsNamesSpec)

/-- 'pawnshoplaw34.DeallocAlls', WHERE WHAT IT READS IS OF BULK AT MOST 1048576: true; the input reads as it did. -/
def deallocAllsUptoRow : OpenClaim := { program := "ytebocgnbcokogaa", sum := "553a38dd22934399aab0dae94c8698230376b934142dad2a2bdead454d84d183", func := "pawnshop/pawnshoplaw34.DeallocAlls", spec := "deallocAlls", unfollowed := true, recurses := true, apart := false, narrowed := true }
def DeallocAllsUptoSaid : Prop := deallocAllsUptoRow.holds Try.pinned (OpenSpec.upto deallocAllsSpec)

/-- 'pawnshoplaw29.AccessNames', WHERE WHAT IT READS IS OF BULK AT MOST 1048576: true; the input reads as it did. -/
def accessNamesUptoRow : OpenClaim := { program := "ytebocgnbcokogaa", sum := "553a38dd22934399aab0dae94c8698230376b934142dad2a2bdead454d84d183", func := "pawnshop/pawnshoplaw29.AccessNames", spec := "accessNames", unfollowed := true, recurses := true, apart := false, narrowed := true }
def AccessNamesUptoSaid : Prop := accessNamesUptoRow.holds Try.pinned (OpenSpec.upto accessNamesSpec)

/-- 'pawnshoplaw26.AllocsNames', WHERE WHAT IT READS IS OF BULK AT MOST 1048576: true; the input reads as it did. -/
def allocsNamesUptoRow : OpenClaim := { program := "ytebocgnbcokogaa", sum := "553a38dd22934399aab0dae94c8698230376b934142dad2a2bdead454d84d183", func := "pawnshop/pawnshoplaw26.AllocsNames", spec := "allocsNames", unfollowed := true, recurses := true, apart := false, narrowed := true }
def AllocsNamesUptoSaid : Prop := allocsNamesUptoRow.holds Try.pinned (OpenSpec.upto allocsNamesSpec)

/-- 'pawnshoplaw34.DeallocTells', WHERE WHAT IT READS IS OF BULK AT MOST 1048576: true; the input reads as it did. -/
def deallocTellsUptoRow : OpenClaim := { program := "ytebocgnbcokogaa", sum := "553a38dd22934399aab0dae94c8698230376b934142dad2a2bdead454d84d183", func := "pawnshop/pawnshoplaw34.DeallocTells", spec := "deallocTells", unfollowed := true, recurses := true, apart := false, narrowed := true }
def DeallocTellsUptoSaid : Prop := deallocTellsUptoRow.holds Try.pinned (OpenSpec.upto deallocTellsSpec)

/-- 'pawnshoplaw27.CellsNames', WHERE WHAT IT READS IS OF BULK AT MOST 1048576: true; the input reads as it did. -/
def cellsNamesUptoRow : OpenClaim := { program := "ytebocgnbcokogaa", sum := "553a38dd22934399aab0dae94c8698230376b934142dad2a2bdead454d84d183", func := "pawnshop/pawnshoplaw27.CellsNames", spec := "cellsNames", unfollowed := true, recurses := true, apart := false, narrowed := true }
def CellsNamesUptoSaid : Prop := cellsNamesUptoRow.holds Try.pinned (OpenSpec.upto cellsNamesSpec)

/-- 'pawnshoplaw27.CellsBack', WHERE WHAT IT READS IS OF BULK AT MOST 1048576: true; the input reads as it did. -/
def cellsBackUptoRow : OpenClaim := { program := "ytebocgnbcokogaa", sum := "553a38dd22934399aab0dae94c8698230376b934142dad2a2bdead454d84d183", func := "pawnshop/pawnshoplaw27.CellsBack", spec := "cellsBack", unfollowed := true, recurses := true, apart := false, narrowed := true }
def CellsBackUptoSaid : Prop := cellsBackUptoRow.holds Try.pinned (OpenSpec.upto cellsBackSpec)

/-- 'pawnshoplaw32.PhasesReads', WHERE WHAT IT READS IS OF BULK AT MOST 1048576: true; the input reads as it did. -/
def phasesReadsUptoRow : OpenClaim := { program := "ytebocgnbcokogaa", sum := "553a38dd22934399aab0dae94c8698230376b934142dad2a2bdead454d84d183", func := "pawnshop/pawnshoplaw32.PhasesReads", spec := "phasesReads", unfollowed := true, recurses := true, apart := false, narrowed := true }
def PhasesReadsUptoSaid : Prop := phasesReadsUptoRow.holds Try.pinned (OpenSpec.upto phasesReadsSpec)

/-- 'pawnshoplaw35.MonitorLives', WHERE WHAT IT READS IS OF BULK AT MOST 1048576: true; the input reads as it did. -/
def monitorLivesUptoRow : OpenClaim := { program := "ytebocgnbcokogaa", sum := "553a38dd22934399aab0dae94c8698230376b934142dad2a2bdead454d84d183", func := "pawnshop/pawnshoplaw35.MonitorLives", spec := "monitorLives", unfollowed := true, recurses := true, apart := false, narrowed := true }
def MonitorLivesUptoSaid : Prop := monitorLivesUptoRow.holds Try.pinned (OpenSpec.upto monitorLivesSpec)

end Rows
end Go.Proofs.Ytebocgnbcokogaa
