/- Contracts: the helpers of the statements of layer 31 that use layer 30. (printed by gen/law31b.py) -/
import Derived.Test.YtebocgnbcokogaaGrdG
namespace Go.Proofs.Ytebocgnbcokogaa
set_option maxRecDepth 100000
open Go.RowKit

def ex31 : List Item := [⟨1, 1, 0⟩, ⟨1, 2, 5⟩]
theorem ex31_a : useR ex31 1 true [5] = ([], 2, 0) := by decide
theorem ex31_b : useR ex31 1 true [4] = ([⟨1, 1, 0⟩], 0, 0) := by decide
/-- A literal slice of numbers reads as its numbers. -/
theorem Nts.litl (w : World) (cs : Array Value) (l : List Int) (n b : Nat) (hb : w.heap.size = b) (hn : l.length = n) (hm : n ≤ maxLen) (hc : cs.toList = l.flatMap irow) : Nts (w.alloc (.cells cs 3)) (.slice (some ⟨b, 0, none⟩) n n) l := by
  subst hn hb
  have hs : cs.size = l.length * 1 := by
    have := congrArg List.length hc
    rw [rows_len irow irow_len] at this
    simpa using this
  have := (Own.lit (B := 0) (e := 3) (k := 1) w cs l.length (Nat.zero_le _) hm hs).sl
  rw [hc] at this
  exact this




/-- An access by its number: 0 reads, 5 writes, each other one retags with this kind, an item of the tag 9. -/
def doR (l : List Item) (what tag : Int) (run : List Int) : List Item × Int × Int := if what = 0 then useR l tag false run else if what = 5 then useR l tag true run else tagR l what tag ⟨0, 9, 0⟩ run


end Go.Proofs.Ytebocgnbcokogaa
