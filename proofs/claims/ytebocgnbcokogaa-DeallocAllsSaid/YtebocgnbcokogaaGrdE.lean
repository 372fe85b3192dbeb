/- Contracts: Enter of the reference; Held, the program's and the reference's. -/
import Derived.Test.YtebocgnbcokogaaGrdD
namespace Go.Proofs.Ytebocgnbcokogaa
set_option maxRecDepth 100000
open Go.RowKit


theorem heldR_bad {l : List Item} {run : List Int} (h : okR run = false) : heldR l run = (0, 8) := by simp [heldR, h]
theorem heldR_item {l : List Item} {run : List Int} (h : okR run = true) (hi : l.all Item.ok = false) : heldR l run = (0, 8) := by simp [heldR, h, hi]
theorem heldR_none {l : List Item} {run : List Int} (h : okR run = true) (hi : l.all Item.ok = true) (hf : firstR l run = none) : heldR l run = (0, 6) := by simp [heldR, h, hi, hf]
theorem heldR_some {l : List Item} {run : List Int} {i : Nat} (h : okR run = true) (hi : l.all Item.ok = true) (hf : firstR l run = some i) : heldR l run = ((i : Int), 0) := by simp [heldR, h, hi, hf]
theorem chk_one (x : Item) : chk [x] = if x.ok then 0 else 8 := by simp [chk, okS]



end Go.Proofs.Ytebocgnbcokogaa
