/- What the calls of CellsNames give; no program in sight. (printed by gen/names27.py) -/
import Derived.Test.YtiikdpfbbcnplaaCelX9
import Derived.Test.YtiikdpfbbcnplaaCelR
namespace Go.Proofs.Ytiikdpfbbcnplaa
set_option maxRecDepth 100000
open Go.RowKit

def m5 : Mem := ⟨[newAlloc 0 2], 5⟩
def full27 : Mem := ⟨[⟨0, true, [⟨1, 1, 0, 0, 0⟩, ⟨1, 2, 0, 0, 0⟩]⟩], 5⟩
def again27 : Mem := ⟨[⟨0, true, [⟨1, 1, 0, 0, 0⟩, Cell.zero]⟩], 5⟩
theorem cn27_a : load1R ⟨[], -1⟩ ⟨-1, 0, 0⟩ = (Cell.zero, 0, 8) := by decide +kernel
theorem cn27_b : storeR ⟨[], -1⟩ ⟨0, 0, 0⟩ [⟨9, 0, 0, 0, 0⟩] = (Mem.zero, 0, 8) := by decide +kernel
theorem cn27_c : load1R m5 ⟨-1, -1, 0⟩ = (Cell.zero, 0, 2) := by decide +kernel
theorem cn27_d : load1R m5 ⟨5, 0, 0⟩ = (Cell.zero, 0, 2) := by decide +kernel
theorem cn27_e : load1R m5 ⟨4, 77, 0⟩ = (Cell.zero, 3, 0) := by decide +kernel
theorem cn27_f : load1R m5 ⟨0, -1, 0⟩ = (Cell.zero, 0, 6) := by decide +kernel
theorem cn27_g : loadR m5 ⟨0, -1, 0⟩ 0 = ([], 0, 2) := by decide +kernel
theorem cn27_h : loadR m5 ⟨0, 9, 0⟩ 3 = ([], 0, 2) := by decide +kernel
theorem cn27_i : loadR m5 ⟨0, 1, 0⟩ 2 = ([], 0, 6) := by decide +kernel
theorem cn27_j : loadR m5 ⟨0, 0, 0⟩ 2 = ([], 4, 0) := by decide +kernel
theorem cn27_k : storeR m5 ⟨0, 0, 0⟩ [] = (Mem.zero, 0, 2) := by decide +kernel
theorem cn27_l : storeR m5 ⟨0, 0, 0⟩ [⟨1, 1, 0, 0, 0⟩, ⟨3, 0, 0, 0, 0⟩] = (Mem.zero, 0, 8) := by decide +kernel
theorem cn27_n : storeR m5 ⟨0, 2, 0⟩ [⟨3, 0, 0, 0, 0⟩] = (Mem.zero, 0, 6) := by decide +kernel
theorem cn27_o : storeR m5 ⟨4, 0, 0⟩ [⟨1, 1, 0, 0, 0⟩] = (Mem.zero, 3, 0) := by decide +kernel
theorem cn27_p : storeR m5 ⟨4, 0, 0⟩ [⟨0, 1, 0, 0, 0⟩] = (Mem.zero, 0, 8) := by decide +kernel
theorem cn27_q : storeR m5 ⟨0, 0, 7⟩ [⟨1, 1, 0, 0, 0⟩, ⟨1, 2, 0, 0, 0⟩] = (full27, 0, 0) := by decide +kernel
theorem cn27_r : loadR full27 ⟨0, 0, 9⟩ 2 = ([⟨1, 1, 0, 0, 0⟩, ⟨1, 2, 0, 0, 0⟩], 0, 0) := by decide +kernel
theorem cn27_s : storeR full27 ⟨0, 1, 0⟩ [⟨0, 0, 0, 0, 0⟩] = (again27, 0, 0) := by decide +kernel
theorem cn27_t : load1R again27 ⟨0, 1, 0⟩ = (⟨0, 0, 0, 0, 0⟩, 4, 0) := by decide +kernel
theorem cn27_u : load1R m5 ⟨0, 9223372036854775807, 0⟩ = (Cell.zero, 0, 6) := by decide +kernel

/-- A literal slice of cells. -/
theorem Cls.lit (w : World) (cs : Array Value) (l : List Cell) (n b : Nat) (hb : w.heap.size = b) (hn : l.length = n) (hm : n ≤ maxLen) (hc : cs.toList = l.flatMap Cell.row) : Cls (w.alloc (.cells cs 29)) (.slice (some ⟨b, 0, none⟩) n n) l := by
  subst hn hb
  have hs : cs.size = l.length * 5 := by
    have := congrArg List.length hc
    rw [rows_len Cell.row Cell.row_len] at this
    simpa using this
  have := (Own.lit' (B := 0) (e := 29) (k := 5) w cs l.length (Nat.zero_le _) hm hs).sl
  rw [hc] at this
  exact this
theorem box_drewC {W w : World} {vs : Array Value} {e : TypeId} (h : Ext (W.alloc (.cells vs e)).drew w) : Box w W.heap.size e vs := Box.ext (Box.ext (Box.new W e vs) (Ext.refl _).drew) h

end Go.Proofs.Ytiikdpfbbcnplaa
