/- Contracts: Base, and the reference's At and Find. -/
import Derived.Test.YtbkbkfpmgehigaaItemsD
namespace Go.Proofs.Ytbkbkfpmgehigaa
open Go.RowKit

theorem Own.lit (w : World) {B : Nat} {e : TypeId} {k : Nat} (cs : Array Value) (n : Nat) (hB : B ≤ w.heap.size) (hm : n ≤ maxLen) (hs : cs.size = n * k) :
    Own (w.alloc (.cells cs e)) B e k (.slice (some ⟨w.heap.size, 0, none⟩) n n) n cs.toList := World.ownsRow_lit w cs n hB hm hs

/-- What Base gives. -/
def baseOf (tag : Int) : List Item := if inB tag then [⟨1, tag, 0⟩] else []
def baseErr (tag : Int) : Int := if inB tag then 0 else 2



theorem idx_step_yes {p : Nat → Bool} {k : Nat} (h : p k = true) : lastUpTo p (k + 1) = some k := by simp [lastUpTo, h]
theorem idx_step_no {p : Nat → Bool} {k : Nat} (h : p k = false) : lastUpTo p (k + 1) = lastUpTo p k := by simp [lastUpTo, h]


/-- What Find gives: an index, and an error. -/
def findIx (l : List Item) (tag : Int) (write : Bool) : Int := if okS l then ((findAt l tag write).getD 0 : Nat) else 0
def findErr (l : List Item) (tag : Int) (write : Bool) : Int := if okS l then (if (findAt l tag write).isSome then 0 else 6) else 8


end Go.Proofs.Ytbkbkfpmgehigaa
