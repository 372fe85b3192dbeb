/- What the functions on cells of a memory compute (layer 27), and plain laws of layers 26 and 27; no program in sight. -/
import Derived.Test.YtiikdpfbbcnplaaCellA
namespace Go.Proofs.Ytiikdpfbbcnplaa
set_option maxRecDepth 100000
open Go.RowKit

structure Ptr where
  a : Int
  o : Int
  t : Int
  deriving DecidableEq
def Ptr.val (p : Ptr) : Value := .agg #[.int .i64 p.a, .int .i64 p.o, .int .i64 p.t]

/-- The index of the allocation of a range, if there is one, and the error. -/
def askR (m : Mem) (p : Ptr) (n : Int) : Option Nat × Int :=
  if m.ok then
    if p.a < 0 ∨ m.next ≤ p.a ∨ n < 1 ∨ 2 < n then (none, 2)
    else match atNum m.al p.a with
      | none => (none, 0)
      | some i => if p.o < 0 ∨ ((m.al.getD i Alloc.zero).cells.length : Int) - n < p.o then (none, 6) else (some i, 0)
  else (none, 8)
def cutOf (a : Alloc) (o n : Nat) : List Cell := (a.cells.drop o).take n
/-- The cells of a range; none if its allocation is not there. -/
def rangeR (m : Mem) (p : Ptr) (n : Int) : List Cell :=
  match (askR m p n).1 with
  | none => []
  | some i => if (m.al.getD i Alloc.zero).live then cutOf (m.al.getD i Alloc.zero) p.o.toNat n.toNat else []
/-- LoadAll: the cells, why not, the error. -/
def loadR (m : Mem) (p : Ptr) (n : Int) : List Cell × Int × Int :=
  if (askR m p n).2 = 0 then
    if rangeR m p n = [] then ([], 3, 0) else if (rangeR m p n).any (· == Cell.zero) then ([], 4, 0) else (rangeR m p n, 0, 0)
  else ([], 0, (askR m p n).2)
def load1R (m : Mem) (p : Ptr) : Cell × Int × Int := ((loadR m p 1).1.headD Cell.zero, (loadR m p 1).2)
def putCells (a : Alloc) (o : Nat) (l : List Cell) : Alloc := ⟨a.num, a.live, a.cells.take o ++ l ++ a.cells.drop (o + l.length)⟩
def storeAt (al : List Alloc) (i o : Nat) (l : List Cell) : List Alloc := match al[i]? with | some a => al.set i (putCells a o l) | none => al
/-- StoreAll: the memory, why not, the error. -/
def storeR (m : Mem) (p : Ptr) (l : List Cell) : Mem × Int × Int :=
  if (askR m p l.length).2 = 0 then
    if l.all Cell.ok then
      match (askR m p l.length).1 with
      | none => (Mem.zero, 3, 0)
      | some i => if (m.al.getD i Alloc.zero).live then (⟨storeAt m.al i p.o.toNat l, m.next⟩, 0, 0) else (Mem.zero, 3, 0)
    else (Mem.zero, 0, 8)
  else (Mem.zero, 0, (askR m p l.length).2)

end Go.Proofs.Ytiikdpfbbcnplaa
