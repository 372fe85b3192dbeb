/- Contracts: Base, and the reference's At and Find. -/
import Derived.Test.YtkbocenpkdaogaaDoorItemsD
namespace Go.Proofs.YtkbocenpkdaogaaDoor
set_option maxRecDepth 100000
open Go.RowKit

theorem Own.lit (w : World) {B : Nat} {e : TypeId} {k : Nat} (cs : Array Value) (n : Nat) (hB : B ≤ w.heap.size) (hm : n ≤ maxLen) (hs : cs.size = n * k) :
    Own (w.alloc (.cells cs e)) B e k (.slice (some ⟨w.heap.size, 0, none⟩) n n) n cs.toList := World.ownsRow_lit w cs n hB hm hs

/-- A literal slice of items reads as its items. -/
theorem Its.lit (w : World) (cs : Array Value) (l : List Item) (n b : Nat) (hb : w.heap.size = b) (hn : l.length = n) (hm : n ≤ maxLen) (hc : cs.toList = l.flatMap Item.row) : Its (w.alloc (.cells cs 23)) (.slice (some ⟨b, 0, none⟩) n n) l := by
  subst hn hb
  have hs : cs.size = l.length * 3 := by
    have := congrArg List.length hc
    rw [rows_len Item.row Item.row_len] at this
    simpa using this
  have := (Own.lit (B := 0) (e := 23) (k := 3) w cs l.length (Nat.zero_le _) hm hs).sl
  rw [hc] at this
  exact this

/-- What Base gives. -/
def baseOf (tag : Int) : List Item := if inB tag then [⟨1, tag, 0⟩] else []
def baseErr (tag : Int) : Int := if inB tag then 0 else 2


set_option maxHeartbeats 400000 in
theorem items_Base (tag : Int) (w : World) : Calls Tryd.prog 53 #[.int .i64 tag] w (RetLN 23 w (baseOf tag) (baseErr tag)) := by
  have hO := Own.lit (B := w.heap.size) (e := 23) (k := 3) w #[.int .u8 1, .int .i64 tag, .int .i64 0] 1 (Nat.le_refl _) (by simp [maxLen]) rfl
  cases ht : inB tag
  all_goals
    go_enter Tryd.func53, Tryd.ntmps53
    go_wp2_with (go_at_call 73; refine (items_in _ _).mono ?_; rintro e w' ⟨rfl, rfl⟩)
    go_ret2
  · unfold baseOf baseErr; rw [ht]
    exact ⟨_, rfl, Own.nil _ _ _ _, Ext.refl _⟩
  · unfold baseOf baseErr; rw [ht]
    exact ⟨_, rfl, hO, (Ext.refl _).alloc _⟩

theorem idx_step_yes {p : Nat → Bool} {k : Nat} (h : p k = true) : lastUpTo p (k + 1) = some k := by simp [lastUpTo, h]
theorem idx_step_no {p : Nat → Bool} {k : Nat} (h : p k = false) : lastUpTo p (k + 1) = lastUpTo p k := by simp [lastUpTo, h]


/-- What Find gives: an index, and an error. -/
def findIx (l : List Item) (tag : Int) (write : Bool) : Int := if okS l then ((findAt l tag write).getD 0 : Nat) else 0
def findErr (l : List Item) (tag : Int) (write : Bool) : Int := if okS l then (if (findAt l tag write).isSome then 0 else 6) else 8


end Go.Proofs.YtkbocenpkdaogaaDoor
