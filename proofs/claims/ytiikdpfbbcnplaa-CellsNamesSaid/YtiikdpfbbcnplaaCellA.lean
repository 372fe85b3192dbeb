/- Memory as Lean data: cells, allocations, and what a value in memory reads as; no program in sight. -/
import Derived.Test.YtiikdpfbbcnplaaTab
namespace Go.Proofs.Ytiikdpfbbcnplaa
set_option maxRecDepth 100000
open Go.RowKit

/-! ### cells -/
structure Cell where
  k : Int
  n : Int
  a : Int
  o : Int
  t : Int
  deriving DecidableEq
def Cell.row (c : Cell) : List Value := [.int .u8 c.k, .int .i64 c.n, .int .i64 c.a, .int .i64 c.o, .int .i64 c.t]
def Cell.val (c : Cell) : Value := .agg #[.int .u8 c.k, .int .i64 c.n, .int .i64 c.a, .int .i64 c.o, .int .i64 c.t]
def Cell.zero : Cell := ⟨0, 0, 0, 0, 0⟩
theorem Cell.row_len (c : Cell) : c.row.length = 5 := rfl
theorem Cell.one (l : List Cell) : ∀ u ∈ l.flatMap Cell.row, u.oneCell' = true := by
  intro u hu
  obtain ⟨x, _, hx⟩ := List.mem_flatMap.1 hu
  simp only [Cell.row, List.mem_cons, List.not_mem_nil, or_false] at hx
  rcases hx with rfl | rfl | rfl | rfl | rfl <;> rfl

def Cls (w : World) (v : Value) (l : List Cell) : Prop := Sl w 5 v l.length (l.flatMap Cell.row)
theorem Cls.ext {w w' : World} {v : Value} {l : List Cell} (h : Cls w v l) (he : Ext w w') : Cls w' v l := Sl.ext h he
theorem Cls.nil (w : World) : Cls w (.slice none 0 0) [] := Sl.nil w 5
theorem Cls.form {w : World} {v : Value} {l : List Cell} (h : Cls w v l) : ∃ a cap, v = .slice a l.length cap ∧ l.length ≤ cap ∧ cap ≤ maxLen ∧ (a = none → cap = 0) := Sl.slice_form h
theorem Cls.cell {w : World} {a : Option Addr} {n cap : Nat} {l : List Cell} (h : Cls w (.slice a n cap) l) {i : Nat} {x : Cell} (hx : l[i]? = some x) :
    ∃ b off, a = some ⟨b, off, none⟩ ∧ b < w.heap.size ∧ w.cell? ⟨b, off + i * 5, none⟩ = some (.int .u8 x.k) ∧ w.cell? ⟨b, off + i * 5 + 1, none⟩ = some (.int .i64 x.n) ∧ w.cell? ⟨b, off + i * 5 + 2, none⟩ = some (.int .i64 x.a) ∧ w.cell? ⟨b, off + i * 5 + 3, none⟩ = some (.int .i64 x.o) ∧ w.cell? ⟨b, off + i * 5 + 4, none⟩ = some (.int .i64 x.t) := by
  have hi : i < l.length := (List.getElem?_eq_some_iff.1 hx).1
  obtain ⟨b, off, rfl, hb, hc⟩ := Sl.at h (by omega) (by omega : 0 < l.length)
  have g := rows_get Cell.row Cell.row_len l i
  refine ⟨b, off, rfl, hb, ?_, ?_, ?_, ?_, ?_⟩
  · have := hc (i * 5 + 0) _ ((g 0 x hx (by omega)).trans rfl)
    simpa using this
  · exact hc (i * 5 + 1) _ ((g 1 x hx (by omega)).trans rfl)
  · exact hc (i * 5 + 2) _ ((g 2 x hx (by omega)).trans rfl)
  · exact hc (i * 5 + 3) _ ((g 3 x hx (by omega)).trans rfl)
  · exact hc (i * 5 + 4) _ ((g 4 x hx (by omega)).trans rfl)

/-- No pointer. -/
def Cell.noP (c : Cell) : Bool := c.a == 0 && c.o == 0 && c.t == 0
def Cell.ok (c : Cell) : Bool :=
  if c.k = 0 then c.n == 0 && c.noP else if c.k = 1 then c.noP else if c.k = 2 then c.n == 0 && inB c.a && inB c.t && decide (0 ≤ c.o) && decide (c.o ≤ 2) else false
def cellErr (c : Cell) : Int := if c.ok then 0 else 8

/-! ### allocations -/
structure Alloc where
  num : Int
  live : Bool
  cells : List Cell
  deriving DecidableEq
def arow (s : Value) (a : Alloc) : List Value := [.int .i64 a.num, .bool a.live, s]
theorem arow_len (s : Value) (a : Alloc) : (arow s a).length = 3 := rfl
theorem arow_one (vs : List Value) (l : List Alloc) (h : ∀ s ∈ vs, s.oneCell' = true) : ∀ u ∈ trows arow vs l, u.oneCell' = true := by
  intro u hu
  obtain ⟨p, hp, hu⟩ := List.mem_flatMap.1 hu
  simp only [arow, List.mem_cons, List.not_mem_nil, or_false] at hu
  rcases hu with rfl | rfl | rfl
  · rfl
  · rfl
  · exact h _ (List.of_mem_zip hp).1
/-- In w the slice v reads as the allocations l. -/
def Als (w : World) (v : Value) (l : List Alloc) : Prop := Tb arow 3 (fun s a => Cls w s a.cells) w v l

theorem Als.ext {w w' : World} {v : Value} {l : List Alloc} (h : Als w v l) (he : Ext w w') : Als w' v l := Tb.ext h he fun _ _ h => Cls.ext h he
theorem Als.nil (w : World) : Als w (.slice none 0 0) [] := Tb.nil w
theorem Als.form {w : World} {v : Value} {l : List Alloc} (h : Als w v l) : ∃ a cap, v = .slice a l.length cap ∧ l.length ≤ cap ∧ cap ≤ maxLen ∧ (a = none → cap = 0) := Tb.form h
theorem Als.cell {w : World} {a : Option Addr} {n cap : Nat} {l : List Alloc} (h : Als w (.slice a n cap) l) {i : Nat} {x : Alloc} (hx : l[i]? = some x) :
    ∃ b off s, a = some ⟨b, off, none⟩ ∧ b < w.heap.size ∧ w.cell? ⟨b, off + i * 3, none⟩ = some (.int .i64 x.num) ∧ w.cell? ⟨b, off + i * 3 + 1, none⟩ = some (.bool x.live) ∧ w.cell? ⟨b, off + i * 3 + 2, none⟩ = some s ∧ Cls w s x.cells := by
  obtain ⟨b, off, s, rfl, hb, hc, hcell⟩ := Tb.cell h arow_len (by omega) hx
  refine ⟨b, off, s, rfl, hb, ?_, ?_, ?_, hc⟩
  · simpa using hcell 0 _ rfl
  · exact hcell 1 _ rfl
  · exact hcell 2 _ rfl

/-- Valid allocations: each number at least `least` and below next, increasing; one or two cells, all valid; those that ended are unset. -/
def okAl (next : Int) : Int → List Alloc → Bool
  | _, [] => true
  | least, a :: l => decide (least ≤ a.num) && decide (a.num < next) && decide (1 ≤ a.cells.length) && decide (a.cells.length ≤ 2) && a.cells.all (fun c => c.ok && (a.live || c.k == 0)) && okAl next (a.num + 1) l
def okM (l : List Alloc) (next : Int) : Bool := decide (l.length ≤ 400) && inB next && okAl next 0 l
def memErr (l : List Alloc) (next : Int) : Int := if okM l next then 0 else 8

theorem okAl_drop {next least : Int} {l : List Alloc} {k : Nat} {x : Alloc} (hx : l[k]? = some x) :
    okAl next least (l.drop k) = (decide (least ≤ x.num) && decide (x.num < next) && decide (1 ≤ x.cells.length) && decide (x.cells.length ≤ 2) && x.cells.all (fun c => c.ok && (x.live || c.k == 0)) && okAl next (x.num + 1) (l.drop (k + 1))) := by
  obtain ⟨hk, rfl⟩ := List.getElem?_eq_some_iff.1 hx
  rw [List.drop_eq_getElem_cons hk]
  rfl


/-! ### what the functions on memories compute -/
structure Mem where
  al : List Alloc
  next : Int
  deriving DecidableEq
def Mem.zero : Mem := ⟨[], 0⟩
def RdM (w : World) (v : Value) (m : Mem) : Prop := ∃ s, v = .agg #[s, .int .i64 m.next] ∧ Als w s m.al
theorem RdM.ext {w w' : World} {v : Value} {m : Mem} (h : RdM w v m) (he : Ext w w') : RdM w' v m := by
  obtain ⟨s, rfl, hs⟩ := h
  exact ⟨s, rfl, hs.ext he⟩
theorem RdM.zero (w : World) : RdM w (.agg #[.slice none 0 0, .int .i64 0]) Mem.zero := ⟨_, rfl, Als.nil w⟩
def Mem.ok (m : Mem) : Bool := okM m.al m.next
def Mem.err (m : Mem) : Int := if m.ok then 0 else 8
theorem Mem.err_eq (m : Mem) : m.err = memErr m.al m.next := rfl

def newAlloc (num : Int) (size : Nat) : Alloc := ⟨num, true, List.replicate size Cell.zero⟩
/-- Add: the memory, the number, the error. -/
def addR (m : Mem) (size : Int) : Mem × Int × Int :=
  if m.ok then
    if size < 1 ∨ 2 < size then (Mem.zero, 0, 2)
    else if m.al.length = 400 ∨ m.next = 1000000 then (Mem.zero, 0, 18)
    else (⟨m.al ++ [newAlloc m.next size.toNat], m.next + 1⟩, m.next, 0)
  else (Mem.zero, 0, 8)
def atNum (l : List Alloc) (n : Int) : Option Nat := l.findIdx? (fun a => a.num == n)
def Alloc.zero : Alloc := ⟨0, false, []⟩
/-- Get: the allocation, the error. -/
def getR (m : Mem) (n : Int) : Alloc × Int :=
  if m.ok then
    match atNum m.al n with
    | none => (Alloc.zero, 6)
    | some i => (m.al.getD i Alloc.zero, 0)
  else (Alloc.zero, 8)
def ended (a : Alloc) : Alloc := ⟨a.num, false, List.replicate a.cells.length Cell.zero⟩
def endAt (l : List Alloc) (i : Nat) : List Alloc := match l[i]? with | some a => l.set i (ended a) | none => l
/-- End: the memory, the error. -/
def endR (m : Mem) (n : Int) : Mem × Int :=
  if m.ok then
    match atNum m.al n with
    | none => (Mem.zero, 6)
    | some i => if (m.al.getD i Alloc.zero).live then (⟨endAt m.al i, m.next⟩, 0) else (Mem.zero, 6)
  else (Mem.zero, 8)
/-- Forget: the memory, the error. -/
def forgetR (m : Mem) : Mem × Int := if m.ok then (⟨m.al.filter (·.live), m.next⟩, 0) else (Mem.zero, 8)
/-- More than 410 allocations, or one of more than 5 cells. -/
def greatM (l : List Alloc) : Bool := (l.take 411).any (fun a => decide (5 < a.cells.length)) || decide (410 < l.length)

end Go.Proofs.Ytiikdpfbbcnplaa
