/- Several texts in one: CellA, CellB, ReadM, GrdA, GrdB, ItemsA, ItemsB, ItemsC, ItemsD, GrdC, GrdD, GrdE, ItemsE, ItemsG. -/
import Derived.Test.YtoanoodfacmieaaGreatDoorQ01
import Derived.Test.YtoanoodfacmieaaGreatDoorProg
import Derived.BigQuiet
import Derived.Deep.QuietTactic
import Derived.Deep.RegionHeld3
import Derived.Deep.DeepMust
import Derived.Deep.RegionLaw
import Derived.RangeFuncNested
import Derived.RangeFuncBound
import Derived.RangeFuncCalls
import Derived.RangeFuncLeaves
import Derived.RangeFuncBox
import Derived.Shelf.Abstract
import Derived.Shelf.RegionOpen
import Derived.OwnWalkIn
import Derived.TacticsInMore
import Derived.LoopNIn
import Derived.LoopIn
import Derived.Laws.EntriesVeiled
/- Memory aas Lean data: cells, allocations, and what a value in memory reads aas; no program in sight. -/
namespace Go.Proofs.YtoanoodfacmieaaGreatDoor
set_option maxRecDepth 100000
open Go.RowKit
structure Cell where
 k : Int
 n : Int
 a : Int
 o : Int
 t : Int
 deriving DecidableEq
def Cell.row (c : Cell) : List Value:=[.int .u8 c.k,.int .i64 c.n,.int .i64 c.a,.int .i64 c.o,.int .i64 c.t]
def Cell.val (c : Cell) : Value := .agg #[.int .u8 c.k,.int .i64 c.n,.int .i64 c.a,.int .i64 c.o,.int .i64 c.t]
def Cell.zero : Cell:=⟨0,0,0,0,0⟩
theorem Cell.row_len (c : Cell) : c.row.length=5:=rfl
theorem Cell.one (l : List Cell) : ∀ u ∈ l.flatMap Cell.row,u.oneCell'=true:=by
 intro u hu
 obtain ⟨x,_,hx⟩:=List.mem_flatMap.1 hu
 simp only [Cell.row,List.mem_cons,List.not_mem_nil,or_false] at hx
 rcases hx with rfl | rfl | rfl | rfl | rfl <;> rfl
def Cls (w : World) (v : Value) (l : List Cell) : Prop:=Sl w 5 v l.length (l.flatMap Cell.row)
theorem Cls.ext {w w' : World} {v : Value} {l : List Cell} (h : Cls w v l) (he : Ext w w') : Cls w' v l:=Sl.ext h he
theorem Cls.nil (w : World) : Cls w (.slice none 0 0) []:=Sl.nil w 5
theorem Cls.form {w : World} {v : Value} {l : List Cell} (h : Cls w v l) : ∃ a cap,v = .slice a l.length cap∧l.length≤cap∧cap≤maxLen∧(a=none→cap=0):=Sl.slice_form h
theorem Cls.cell {w : World} {a : Option Addr} {n cap : Nat} {l : List Cell} (h : Cls w (.slice a n cap) l) {i : Nat} {x : Cell} (hx : l[i]? = some x) :
  ∃ b off,a=some ⟨b,off,none⟩∧b < w.heap.size∧w.cell? ⟨b,off+i * 5,none⟩=some (.int .u8 x.k)∧w.cell? ⟨b,off+i * 5+1,none⟩=some (.int .i64 x.n)∧w.cell? ⟨b,off+i * 5+2,none⟩=some (.int .i64 x.a)∧w.cell? ⟨b,off+i * 5+3,none⟩=some (.int .i64 x.o)∧w.cell? ⟨b,off+i * 5+4,none⟩=some (.int .i64 x.t):=by
 have hi : i < l.length:=(List.getElem?_eq_some_iff.1 hx).1
 obtain ⟨b,off,rfl,hb,hc⟩:=Sl.at h (by omega) (by omega : 0 < l.length)
 have g:=rows_get Cell.row Cell.row_len l i
 refine ⟨b,off,rfl,hb,?_,?_,?_,?_,?_⟩
 ·have:=hc (i * 5+0) _ ((g 0 x hx (by omega)).trans rfl)
  simpa using this
 ·exact hc (i * 5+1) _ ((g 1 x hx (by omega)).trans rfl)
 ·exact hc (i * 5+2) _ ((g 2 x hx (by omega)).trans rfl)
 ·exact hc (i * 5+3) _ ((g 3 x hx (by omega)).trans rfl)
 ·exact hc (i * 5+4) _ ((g 4 x hx (by omega)).trans rfl)
def Cell.noP (c : Cell) : Bool:=c.a == 0 && c.o == 0 && c.t == 0
def Cell.ok (c : Cell) : Bool :=
 if c.k=0 then c.n == 0 && c.noP else if c.k=1 then c.noP else if c.k=2 then c.n == 0 && inB c.a && inB c.t && decide (0≤c.o) && decide (c.o≤2) else false
def cellErr (c : Cell) : Int:=if c.ok then 0 else 8
structure Alloc where
 num : Int
 live : Bool
 cells : List Cell
 deriving DecidableEq
def arow (s : Value) (a : Alloc) : List Value:=[.int .i64 a.num,.bool a.live,s]
theorem arow_len (s : Value) (a : Alloc) : (arow s a).length=3:=rfl
theorem arow_one (vs : List Value) (l : List Alloc) (h : ∀ s ∈ vs,s.oneCell'=true) : ∀ u ∈ trows arow vs l,u.oneCell'=true:=by
 intro u hu
 obtain ⟨p,hp,hu⟩:=List.mem_flatMap.1 hu
 simp only [arow,List.mem_cons,List.not_mem_nil,or_false] at hu
 rcases hu with rfl | rfl | rfl
 ·rfl
 ·rfl
 ·exact h _ (List.of_mem_zip hp).1
def Als (w : World) (v : Value) (l : List Alloc) : Prop:=Tb arow 3 (fun s a=>Cls w s a.cells) w v l
theorem Als.ext {w w' : World} {v : Value} {l : List Alloc} (h : Als w v l) (he : Ext w w') : Als w' v l:=Tb.ext h he fun _ _ h=>Cls.ext h he
theorem Als.nil (w : World) : Als w (.slice none 0 0) []:=Tb.nil w
theorem Als.form {w : World} {v : Value} {l : List Alloc} (h : Als w v l) : ∃ a cap,v = .slice a l.length cap∧l.length≤cap∧cap≤maxLen∧(a=none→cap=0):=Tb.form h
theorem Als.cell {w : World} {a : Option Addr} {n cap : Nat} {l : List Alloc} (h : Als w (.slice a n cap) l) {i : Nat} {x : Alloc} (hx : l[i]? = some x) :
  ∃ b off s,a=some ⟨b,off,none⟩∧b < w.heap.size∧w.cell? ⟨b,off+i * 3,none⟩=some (.int .i64 x.num)∧w.cell? ⟨b,off+i * 3+1,none⟩=some (.bool x.live)∧w.cell? ⟨b,off+i * 3+2,none⟩=some s∧Cls w s x.cells:=by
 obtain ⟨b,off,s,rfl,hb,hc,hcell⟩:=Tb.cell h arow_len (by omega) hx
 refine ⟨b,off,s,rfl,hb,?_,?_,?_,hc⟩
 ·simpa using hcell 0 _ rfl
 ·exact hcell 1 _ rfl
 ·exact hcell 2 _ rfl
def okAl (next : Int) : Int→List Alloc→Bool
 | _,[]=>true
 | least,a :: l=>decide (least≤a.num) && decide (a.num < next) && decide (1≤a.cells.length) && decide (a.cells.length≤2) && a.cells.all (fun c=>c.ok && (a.live || c.k == 0)) && okAl next (a.num+1) l
def okM (l : List Alloc) (next : Int) : Bool:=decide (l.length≤400) && inB next && okAl next 0 l
def memErr (l : List Alloc) (next : Int) : Int:=if okM l next then 0 else 8
theorem okAl_drop {next least : Int} {l : List Alloc} {k : Nat} {x : Alloc} (hx : l[k]? = some x) :
  okAl next least (l.drop k)=(decide (least≤x.num) && decide (x.num < next) && decide (1≤x.cells.length) && decide (x.cells.length≤2) && x.cells.all (fun c=>c.ok && (x.live || c.k == 0)) && okAl next (x.num+1) (l.drop (k+1))):=by
 obtain ⟨hk,rfl⟩:=List.getElem?_eq_some_iff.1 hx
 rw [List.drop_eq_getElem_cons hk]
 rfl
structure Mem where
 al : List Alloc
 next : Int
 deriving DecidableEq
def Mem.zero : Mem:=⟨[],0⟩
def RdM (w : World) (v : Value) (m : Mem) : Prop := ∃ s,v = .agg #[s,.int .i64 m.next]∧Als w s m.al
theorem RdM.ext {w w' : World} {v : Value} {m : Mem} (h : RdM w v m) (he : Ext w w') : RdM w' v m:=by
 obtain ⟨s,rfl,hs⟩:=h
 exact ⟨s,rfl,hs.ext he⟩
theorem RdM.zero (w : World) : RdM w (.agg #[.slice none 0 0,.int .i64 0]) Mem.zero:=⟨_,rfl,Als.nil w⟩
def Mem.ok (m : Mem) : Bool:=okM m.al m.next
def Mem.err (m : Mem) : Int:=if m.ok then 0 else 8
def newAlloc (num : Int) (size : Nat) : Alloc:=⟨num,true,List.replicate size Cell.zero⟩
def addR (m : Mem) (size : Int) : Mem × Int × Int :=
 if m.ok then
  if size < 1∨2 < size then (Mem.zero,0,2)
  else if m.al.length=400∨m.next=1000000 then (Mem.zero,0,18)
  else (⟨m.al ++ [newAlloc m.next size.toNat],m.next+1⟩,m.next,0)
 else (Mem.zero,0,8)
def atNum (l : List Alloc) (n : Int) : Option Nat:=l.findIdx? (fun a=>a.num == n)
def Alloc.zero : Alloc:=⟨0,false,[]⟩
def ended (a : Alloc) : Alloc:=⟨a.num,false,List.replicate a.cells.length Cell.zero⟩
def endAt (l : List Alloc) (i : Nat) : List Alloc:=match l[i]? with | some a=>l.set i (ended a) | none=>l
def endR (m : Mem) (n : Int) : Mem × Int :=
 if m.ok then
  match atNum m.al n with
  | none=>(Mem.zero,6)
  | some i=>if (m.al.getD i Alloc.zero).live then (⟨endAt m.al i,m.next⟩,0) else (Mem.zero,6)
 else (Mem.zero,8)
def forgetR (m : Mem) : Mem × Int:=if m.ok then (⟨m.al.filter (·.live),m.next⟩,0) else (Mem.zero,8)
def greatM (l : List Alloc) : Bool:=(l.take 411).any (fun a=>decide (5 < a.cells.length)) || decide (410 < l.length)
end Go.Proofs.YtoanoodfacmieaaGreatDoor

/- What the functions on cells of a memory compute (layer 27), and plain laws of layers 26 and 27; no program in sight. -/
namespace Go.Proofs.YtoanoodfacmieaaGreatDoor
set_option maxRecDepth 100000
open Go.RowKit
structure Ptr where
 a : Int
 o : Int
 t : Int
 deriving DecidableEq
def Ptr.val (p : Ptr) : Value := .agg #[.int .i64 p.a,.int .i64 p.o,.int .i64 p.t]
def askR (m : Mem) (p : Ptr) (n : Int) : Option Nat × Int :=
 if m.ok then
  if p.a < 0∨m.next≤p.a∨n < 1∨2 < n then (none,2)
  else match atNum m.al p.a with
   | none=>(none,0)
   | some i=>if p.o < 0∨((m.al.getD i Alloc.zero).cells.length : Int) - n < p.o then (none,6) else (some i,0)
 else (none,8)
def cutOf (a : Alloc) (o n : Nat) : List Cell:=(a.cells.drop o).take n
def rangeR (m : Mem) (p : Ptr) (n : Int) : List Cell :=
 match (askR m p n).1 with
 | none=>[]
 | some i=>if (m.al.getD i Alloc.zero).live then cutOf (m.al.getD i Alloc.zero) p.o.toNat n.toNat else []
def loadR (m : Mem) (p : Ptr) (n : Int) : List Cell × Int × Int :=
 if (askR m p n).2=0 then
  if rangeR m p n=[] then ([],3,0) else if (rangeR m p n).any (· == Cell.zero) then ([],4,0) else (rangeR m p n,0,0)
 else ([],0,(askR m p n).2)
def putCells (a : Alloc) (o : Nat) (l : List Cell) : Alloc:=⟨a.num,a.live,a.cells.take o ++ l ++ a.cells.drop (o+l.length)⟩
def storeAt (al : List Alloc) (i o : Nat) (l : List Cell) : List Alloc:=match al[i]? with | some a=>al.set i (putCells a o l) | none=>al
def storeR (m : Mem) (p : Ptr) (l : List Cell) : Mem × Int × Int :=
 if (askR m p l.length).2=0 then
  if l.all Cell.ok then
   match (askR m p l.length).1 with
   | none=>(Mem.zero,3,0)
   | some i=>if (m.al.getD i Alloc.zero).live then (⟨storeAt m.al i p.o.toNat l,m.next⟩,0,0) else (Mem.zero,3,0)
  else (Mem.zero,0,8)
 else (Mem.zero,0,(askR m p l.length).2)
end Go.Proofs.YtoanoodfacmieaaGreatDoor

/- How the arguments of a statement read: pointers, cells, memories. -/
namespace Go.Proofs.YtoanoodfacmieaaGreatDoor
set_option maxRecDepth 100000
open Go.ChangeShapes Go.WideShapes Go.ChangeAt Go.RowKit
section
variable {H : Type} {enc : TypeId × Value→H} {w : World} {base : Nat} {spare : Nat→Bool} {held : Bool}
def Ptr.row (p : Ptr) : List Value:=[.int .i64 p.a,.int .i64 p.o,.int .i64 p.t]
def Ptr.wf (p : Ptr) : Prop:=i64B p.a∧i64B p.o∧i64B p.t
def Cell.wf (c : Cell) : Prop:=(0≤c.k∧c.k≤255)∧i64B c.n∧i64B c.a∧i64B c.o∧i64B c.t
def Alloc.wf (a : Alloc) : Prop:=i64B a.num ∧ ∀ c ∈ a.cells,c.wf
def Mem.wf (m : Mem) : Prop:=i64B m.next ∧ ∀ a ∈ m.al,a.wf
end
end Go.Proofs.YtoanoodfacmieaaGreatDoor

/- Running calls: what a slice of numbers reads aas, and what the functions of layer 31 on calls compute; no program in sight. -/
namespace Go.Proofs.YtoanoodfacmieaaGreatDoor
set_option maxRecDepth 100000
open Go.RowKit
def irow (n : Int) : List Value:=[.int .i64 n]
theorem irow_len (n : Int) : (irow n).length=1:=rfl
def Nts (w : World) (v : Value) (l : List Int) : Prop:=Sl w 1 v l.length (l.flatMap irow)
theorem Nts.ext {w w' : World} {v : Value} {l : List Int} (h : Nts w v l) (he : Ext w w') : Nts w' v l:=Sl.ext h he
theorem Nts.nil (w : World) : Nts w (.slice none 0 0) []:=Sl.nil w 1
theorem Nts.form {w : World} {v : Value} {l : List Int} (h : Nts w v l) : ∃ a cap,v = .slice a l.length cap∧l.length≤cap∧cap≤maxLen∧(a=none→cap=0):=Sl.slice_form h
theorem Nts.cell {w : World} {a : Option Addr} {n cap : Nat} {l : List Int} (h : Nts w (.slice a n cap) l) {i : Nat} {x : Int} (hx : l[i]? = some x) : ∃ b off,a=some ⟨b,off,none⟩∧b < w.heap.size∧w.cell? ⟨b,off+i,none⟩=some (.int .i64 x):=by
 have hi : i < l.length:=(List.getElem?_eq_some_iff.1 hx).1
 obtain ⟨b,off,rfl,hb,hc⟩:=Sl.at h (by omega) (by omega : 0 < l.length)
 refine ⟨b,off,rfl,hb,?_⟩
 have:=hc (i * 1+0) _ ((rows_get irow irow_len l i 0 x hx (by omega)).trans rfl)
 simpa using this
theorem Nts.one (l : List Int) : ∀ u ∈ l.flatMap irow,u.oneCell'=true:=by
 intro u hu
 obtain ⟨x,_,hx⟩:=List.mem_flatMap.1 hu
 simp only [irow,List.mem_cons,List.not_mem_nil,or_false] at hx
 subst hx
 rfl
theorem Nts.take {w : World} {a : Option Addr} {n cap : Nat} {l : List Int} (h : Nts w (.slice a n cap) l) (i : Nat) (hi : i≤l.length) : Nts w (.slice a i cap) (l.take i):=by
 have:=Sl.take h i hi
 rw [rows_take irow irow_len] at this
 unfold Nts
 rw [List.length_take,Nat.min_eq_left hi]
 exact this
def okFrom : Int→List Int→Bool
 | _,[]=>true
 | last,n :: l=>decide (last < n) && decide (n≤1000000) && okFrom n l
def okR (l : List Int) : Bool:=decide (l.length≤32) && okFrom 0 l
def runErr (l : List Int) : Int:=if okR l then 0 else 8
theorem okFrom_drop {last : Int} {l : List Int} {k : Nat} {x : Int} (hx : l[k]? = some x) : okFrom last (l.drop k)=(decide (last < x) && decide (x≤1000000) && okFrom x (l.drop (k+1))):=by
 obtain ⟨hk,rfl⟩:=List.getElem?_eq_some_iff.1 hx
 rw [List.drop_eq_getElem_cons hk]
 rfl
theorem okFrom_all {last : Int} {l : List Int} (h : okFrom last l=true) : ∀ n ∈ l,last < n∧n≤1000000:=by
 induction l generalizing last with
 | nil=>intro n hn;cases hn
 | cons x l ih =>
  simp only [okFrom,Bool.and_eq_true,decide_eq_true_eq] at h
  intro n hn
  rcases List.mem_cons.1 hn with rfl | hn
  ·omega
  ·have:=ih h.2 n hn;omega
theorem okFrom_lt {last : Int} {l : List Int} (h : okFrom last l=true) {i j : Nat} {x y : Int} (hij : i < j) (hx : l[i]? = some x) (hy : l[j]? = some y) : x < y:=by
 induction l generalizing last i j with
 | nil=>simp at hx
 | cons z l ih =>
  simp only [okFrom,Bool.and_eq_true,decide_eq_true_eq] at h
  cases j with
  | zero=>omega
  | succ j =>
   cases i with
   | zero =>
    simp only [List.getElem?_cons_zero,Option.some.injEq] at hx
    subst hx
    exact (okFrom_all h.2 y (List.mem_of_getElem? (by simpa using hy))).1
   | succ i=>exact ih (i:=i) (j:=j) h.2 (by omega) (by simpa using hx) (by simpa using hy)
theorem okFrom_append {last : Int} {l : List Int} {c : Int} : okFrom last (l ++ [c])=(okFrom last l && decide (l.getLastD last < c) && decide (c≤1000000)):=by
 induction l generalizing last with
 | nil=>simp [okFrom]
 | cons x l ih =>
  rw [List.cons_append,okFrom,ih,okFrom]
  have : (x :: l).getLastD last=l.getLastD x:=by cases l <;> rfl
  rw [this]
  simp only [Bool.and_assoc]
def lastR (l : List Int) : Int:=l.getLastD 0
def enterR (l : List Int) (call : Int) : List Int × Int :=
 if okR l then if call≤lastR l∨1000000 < call then ([],2) else if l.length=32 then ([],18) else (l ++ [call],0) else ([],8)
def leaveR (l : List Int) : List Int × Int:=if okR l then if l.length=0 then ([],6) else (l.take (l.length - 1),0) else ([],8)
def hasR (run : List Int) (t : Int) : Bool:=run.contains t
def RetIB (b : Bool) (w : World) (e : Ending) (w' : World) : Prop := ∃ i : Int,e = .returned (.tuple #[.int .i64 i,.bool b])∧w=w'
def heldBy (run : List Int) (x : Item) : Bool:=hasR run x.c
def firstR (items : List Item) (run : List Int) : Option Nat:=items.findIdx? (heldBy run)
theorem lastR_get {l : List Int} {x : Int} (hx : l[l.length - 1]? = some x) : lastR l=x:=by
 unfold lastR
 rw [List.getLastD_eq_getLast?,List.getLast?_eq_getElem?,hx]
 rfl
theorem lastR_nil : lastR []=0:=rfl
theorem runErr_ok {l : List Int} (h : okR l=true) : runErr l=0:=by simp [runErr,h]
theorem runErr_bad {l : List Int} (h : okR l=false) : runErr l=8:=by simp [runErr,h]
theorem okR_len {l : List Int} (h : okR l=true) : l.length≤32:=by
 unfold okR at h
 simp only [Bool.and_eq_true,decide_eq_true_eq] at h
 exact h.1
theorem okR_from {l : List Int} (h : okR l=true) : okFrom 0 l=true:=by
 unfold okR at h
 simp only [Bool.and_eq_true] at h
 exact h.2
end Go.Proofs.YtoanoodfacmieaaGreatDoor

/- Contracts: the tests of running calls, the search in them, and what compares them. -/
namespace Go.Proofs.YtoanoodfacmieaaGreatDoor
set_option maxRecDepth 100000
open Go.RowKit
set_option maxHeartbeats 800000 in
theorem guard_Check {l : List Int} {v : Value} {w : World} (hl : Nts w v l) : Calls Tryz.prog 46 #[v] w fun e w'=>e = .returned (.int .i64 (runErr l))∧w=w':=by
 obtain ⟨a,cp,rfl,hlc,hcm,-⟩:=hl.form
 unfold maxLen at hcm
 have hL:=Lib.hid hl
 clear hl
 by_cases h6 : l.length≤32
 ·have hd : decide ((32 : Int) < (l.length : Int))=false:=decide_eq_false (by omega)
  go_enter Tryz.func46,Tryz.ntmps46
  go_wp2
  go_loop [3,11] (fun lv iv => ∃ (k : Nat) (last : Int),k≤l.length∧iv = .int .i64 k∧lv = .int .i64 last∧Hid (okFrom 0 l=okFrom last (l.drop k))) (fun _ iv=>l.length - (intOf iv).toNat)
  case atStart=>exact ⟨0,0,Nat.zero_le _,rfl,rfl,by simp [Hid]⟩
  case round =>
   obtain ⟨k,last,hk,rfl,rfl,hN⟩:=hrel
   by_cases hlt : k < l.length
   ·obtain ⟨x,hx⟩ : ∃ x,l[k]? = some x:=⟨l[k],by simp [hlt]⟩
    obtain ⟨b,off,rfl,hb,c0⟩:=hL.out.cell hx
    have hst:=Lib.hid (hN.out.trans (okFrom_drop hx))
    clear hx
    by_cases g1 : x≤last
    ·have q1 : decide (x≤last)=true:=decide_eq_true g1
     have hr : Hid (runErr l=8):=Hid.mk (runErr_bad (by rw [okR,hst.out];simp;omega))
     go_wp2
     go_ret
     exact ⟨by rw [hr.out];rfl,rfl⟩
    ·have q1 : decide (x≤last)=false:=decide_eq_false g1
     by_cases g2 : 1000000 < x
     ·have q2 : decide (1000000 < x)=true:=decide_eq_true g2
      have hr : Hid (runErr l=8):=Hid.mk (runErr_bad (by rw [okR,hst.out];simp;omega))
      go_wp2
      go_ret
      exact ⟨by rw [hr.out];rfl,rfl⟩
     ·have q2 : decide (1000000 < x)=false:=decide_eq_false g2
      have hst2 : Hid (okFrom 0 l=okFrom x (l.drop (k+1))):=Hid.mk (by rw [hst.out,decide_eq_true (by omega),decide_eq_true (by omega)];rfl)
      go_wp2
      go_round
      case rel=>exact ⟨k+1,x,by omega,by go_num,rfl,hst2.out⟩
      case measure=>simp [intOf];omega
   ·have hkl : k=l.length:=by omega
    subst hkl
    have hr : Hid (runErr l=0):=Hid.mk (runErr_ok (by rw [okR,hN.out,List.drop_length];simp [okFrom,h6]))
    go_wp2
    go_ret
    exact ⟨by rw [hr.out];rfl,rfl⟩
 ·have hd : decide ((32 : Int) < (l.length : Int))=true:=decide_eq_true (by omega)
  have hr : Hid (runErr l=8):=Hid.mk (runErr_bad (by rw [okR];simp;omega))
  go_enter Tryz.func46,Tryz.ntmps46
  go_wp2
  go_ret
  exact ⟨by rw [hr.out];rfl,rfl⟩
theorem cmp_isNaN (n : Int) (w : World) : Calls Tryz.prog 103 #[.int .i64 n] w fun e w'=>e = .returned (.bool false)∧w=w':=by
 go_enter Tryz.func103,Tryz.ntmps103
 go_wp2
 go_ret
 exact ⟨rfl,rfl⟩
theorem slices_isNaN (n : Int) (w : World) : Calls Tryz.prog 99 #[.int .i64 n] w fun e w'=>e = .returned (.bool false)∧w=w':=by
 go_enter Tryz.func99,Tryz.ntmps99
 go_wp2
 go_ret
 exact ⟨rfl,rfl⟩
theorem cmp_Less (n m : Int) (w : World) : Calls Tryz.prog 98 #[.int .i64 n,.int .i64 m] w fun e w'=>e = .returned (.bool (decide (n < m)))∧w=w':=by
 go_enter Tryz.func98,Tryz.ntmps98
 go_wp2_with fail
 refine (cmp_isNaN _ _).mono ?_
 rintro e w' ⟨rfl,rfl⟩
 go_wp2
 go_ret
 exact ⟨rfl,rfl⟩
theorem search_end {l : List Int} {t : Int} (hs : okFrom 0 l=true) {i : Nat} (hlo : ∀ k x,k < i→l[k]? = some x→x < t) (hhi : ∀ k x,i≤k→l[k]? = some x→t≤x) : l.contains t=(l[i]? == some t):=by
 cases h : l.contains t
 ·cases h2 : (l[i]? == some t)
  ·rfl
  ·have h3 : l[i]? = some t:=by simpa using h2
   have:=List.mem_of_getElem? h3
   have h4 : l.contains t=true:=by simpa using this
   rw [h] at h4;cases h4
 ·have hm : t ∈ l:=by simpa using h
  obtain ⟨k,hk⟩:=List.mem_iff_getElem?.1 hm
  rcases Nat.lt_trichotomy k i with h1 | h1 | h1
  ·have:=hlo k t h1 hk;omega
  ·subst h1;simp [hk]
  ·have hlt : i < l.length:=by have:=(List.getElem?_eq_some_iff.1 hk).1;omega
   have h5 : l[i]? = some l[i]:=by simp [hlt]
   have:=hhi i _ (Nat.le_refl _) h5
   have:=okFrom_lt hs h1 h5 hk
   omega
set_option maxHeartbeats 1600000 in
theorem binarySearch {l : List Int} {v : Value} {w : World} (t : Int) (hl : Nts w v l) (hs : okFrom 0 l=true) (hlen : l.length≤1000) :
  Calls Tryz.prog 97 #[v,.int .i64 t] w (RetIB (hasR l t) w):=by
 obtain ⟨a,cp,rfl,hlc,hcm,-⟩:=hl.form
 unfold maxLen at hcm
 have hL:=Lib.hid hl
 have hS:=Lib.hid hs
 clear hl hs
 go_enter Tryz.func97,Tryz.ntmps97
 go_wp2
 go_loop [7,8] (fun iv jv => ∃ i j : Nat,i≤j∧j≤l.length∧iv = .int .i64 i∧jv = .int .i64 j∧Hid ((∀ k x,k < i→l[k]? = some x→x < t)∧(∀ k x,j≤k→l[k]? = some x→t≤x))) (fun iv jv=>(intOf jv).toNat - (intOf iv).toNat)
 case atStart=>exact ⟨0,l.length,Nat.zero_le _,Nat.le_refl _,rfl,rfl,⟨fun k x h=>by omega,fun k x h hx=>by rw [List.getElem?_eq_none h] at hx;cases hx⟩⟩
 case round =>
  obtain ⟨i,j,hij,hj,rfl,rfl,hN⟩:=hrel
  by_cases hlt : i < j
  ·obtain ⟨x,hx⟩ : ∃ x,l[(i+j) / 2]? = some x:=⟨l[(i+j) / 2]'(by omega),by simp⟩
   obtain ⟨b,off,rfl,hb,c0⟩:=hL.out.cell hx
   have hi0 : (0 : Int)≤((i : Int)+(j : Int)) / 2:=by omega
   have hi1 : ((i : Int)+(j : Int)) / 2 < (l.length : Int):=by omega
   have hmid : Hid (i≤(i+j) / 2∧(i+j) / 2 < j):=Hid.mk (by omega)
   by_cases hxt : x < t
   ·have hq : Hid (decide (x < t)=true):=Hid.mk (decide_eq_true hxt)
    have hR : Hid ((∀ k y,k < (i+j) / 2+1→l[k]? = some y→y < t)∧(∀ k y,j≤k→l[k]? = some y→t≤y)):=Hid.mk ⟨fun k y hk hy=>by
     rcases Nat.lt_or_eq_of_le (Nat.lt_succ_iff.1 hk) with h1 | h1
     ·have:=okFrom_lt hS.out h1 hy hx;omega
     ·subst h1;rw [hx] at hy;cases hy;exact hxt,hN.out.2⟩
    clear hx hxt
    go_wp2_with fail
    refine (cmp_Less _ _ _).mono ?_
    rintro e w' ⟨rfl,rfl⟩
    rw [hq.out]
    go_wp2
    go_round
    case rel=>exact ⟨(i+j) / 2+1,j,by have:=hmid.out;omega,hj,by congr 1,rfl,hR.out⟩
    case measure=>have:=hmid.out;simp [intOf];omega
   ·have hq : Hid (decide (x < t)=false):=Hid.mk (decide_eq_false hxt)
    have hR : Hid ((∀ k y,k < i→l[k]? = some y→y < t)∧(∀ k y,(i+j) / 2≤k→l[k]? = some y→t≤y)):=Hid.mk ⟨hN.out.1,fun k y hk hy=>by
     rcases Nat.lt_or_eq_of_le hk with h1 | h1
     ·have:=okFrom_lt hS.out h1 hx hy;omega
     ·subst h1;rw [hx] at hy;cases hy;omega⟩
    clear hx hxt
    go_wp2_with fail
    refine (cmp_Less _ _ _).mono ?_
    rintro e w' ⟨rfl,rfl⟩
    rw [hq.out]
    go_wp2
    go_round
    case rel=>exact ⟨i,(i+j) / 2,by have:=hmid.out;omega,by have:=hmid.out;omega,rfl,by congr 1,hR.out⟩
    case measure=>have:=hmid.out;simp [intOf];omega
  ·obtain rfl : i=j:=by omega
   have hend:=search_end hS.out hN.out.1 hN.out.2
   by_cases hil : i < l.length
   ·obtain ⟨x,hx⟩ : ∃ x,l[i]? = some x:=⟨l[i],by simp [hil]⟩
    obtain ⟨b,off,rfl,hb,c0⟩:=hL.out.cell hx
    have hi0 : (0 : Int)≤(i : Int):=by omega
    have hi1 : (i : Int) < (l.length : Int):=by omega
    have hd : decide ((i : Int) < (l.length : Int))=true:=decide_eq_true (by omega)
    rw [hx] at hend
    have hend' : Hid (hasR l t=(x == t)):=Hid.mk (by rw [hasR,hend];rfl)
    clear hx hend
    cases hxt : x == t
    ·rw [hxt] at hend'
     go_wp2_with (go_at_call 99;refine (slices_isNaN _ _).mono ?_;rintro e w' ⟨rfl,rfl⟩)
     go_ret2
     exact ⟨_,by rw [hend'.out];rfl,rfl⟩
    ·rw [hxt] at hend'
     go_wp2_with (go_at_call 99;refine (slices_isNaN _ _).mono ?_;rintro e w' ⟨rfl,rfl⟩)
     go_ret2
     exact ⟨_,by rw [hend'.out];rfl,rfl⟩
   ·have hd : decide ((i : Int) < (l.length : Int))=false:=decide_eq_false (by omega)
    rw [List.getElem?_eq_none (by omega)] at hend
    have hend' : Hid (hasR l t=false):=Hid.mk (by rw [hasR,hend];rfl)
    clear hend
    go_wp2
    go_ret2
    exact ⟨_,by rw [hend'.out];rfl,rfl⟩
end Go.Proofs.YtoanoodfacmieaaGreatDoor

/- Contracts: the tests of items, IndexFunc and ContainsFunc over items, items.Check. -/
namespace Go.Proofs.YtoanoodfacmieaaGreatDoor
set_option maxRecDepth 100000
open Go.RowKit
set_option maxHeartbeats 400000 in
theorem items_in (n : Int) (w : World) : Calls Tryz.prog 77 #[.int .i64 n] w fun e w'=>e = .returned (.bool (inB n))∧w=w':=by
 by_cases h0 : 0≤n <;> by_cases h1 : n≤1000000
 all_goals
  go_enter Tryz.func77,Tryz.ntmps77
  go_wp2
  go_ret
  exact ⟨by simp [inB, *],rfl⟩
set_option maxHeartbeats 400000 in
theorem items_isItem (x : Item) (w : World) : Calls Tryz.prog 85 #[x.val] w fun e w'=>e = .returned (.bool x.ok)∧Ext w w':=by
 obtain ⟨p,t,c⟩:=x
 have hE:=(Ext.refl w).alloc (.cells #[.int .u8 p,.int .i64 t,.int .i64 c] 89)
 unfold Item.val
 cases ht : inB t <;> cases hc : inB c
 all_goals
  go_enter Tryz.func85,Tryz.ntmps85
  go_wp2_with (go_at_call 77;refine (items_in _ _).mono ?_;rintro e w' ⟨rfl,rfl⟩)
  all_goals
   go_ret
   exact ⟨by simp_all [Item.ok],hE⟩
def PredAt (g : Nat) (cap : Array Value) (W : World) (p : Item→Bool) : Prop :=
 ∀ (x : Item) (w : World),Ext W w→Calls Tryz.prog g (#[x.val] ++ cap) w fun e w'=>e = .returned (.bool (p x))∧Ext w w'
def idxOf : Option Nat→Int
 | none => -1
 | some i=>i
theorem findIdx_hit {α : Type} {p : α→Bool} {l : List α} {k : Nat} {x : α} (h : (l.take k).any p=false) (hx : l[k]? = some x) (hp : p x=true) : l.findIdx? p=some k:=by
 rw [List.findIdx?_eq_some_iff_getElem]
 obtain ⟨hk,rfl⟩:=List.getElem?_eq_some_iff.1 hx
 refine ⟨hk,hp,fun j hj => ?_⟩
 simp only [List.any_eq_false] at h
 have:=h l[j] (by rw [List.mem_iff_getElem?];exact ⟨j,by rw [List.getElem?_take,if_pos hj];simp⟩)
 simpa using this
theorem findIdx_miss {α : Type} {p : α→Bool} {l : List α} (h : l.any p=false) : l.findIdx? p=none:=by
 rw [List.findIdx?_eq_none_iff]
 simpa [List.any_eq_false] using h
theorem any_take_succ {α : Type} {p : α→Bool} {l : List α} {k : Nat} {x : α} (h : (l.take k).any p=false) (hx : l[k]? = some x) (hp : p x=false) : (l.take (k+1)).any p=false:=by
 rw [List.take_add_one,hx]
 simp [List.any_append,h,hp]
set_option maxHeartbeats 400000 in
theorem indexFunc_item {g : Nat} {cap : Array Value} {p : Item→Bool} {l : List Item} {v : Value} {w : World} (hg : ∀ args w,(callFunc g args).run Tryz.prog w = .ok (.enter g args) w)
  (hp : PredAt g cap w p) (hl : Its w v l) : Calls Tryz.prog 91 #[v,.func (.func g) #[] cap] w fun e w'=>e = .returned (.int .i64 (idxOf (l.findIdx? p)))∧Ext w w':=by
 obtain ⟨a,cp,rfl,hlc,hcm,-⟩:=hl.form
 unfold maxLen at hcm
 go_enter Tryz.func91,Tryz.ntmps91
 go_wp2
 go_loopw [8] (fun i wr => ∃ k : Nat,k≤l.length∧i = .int .i64 k∧Ext w wr∧Hid ((l.take k).any p=false)) (fun i _=>l.length - (intOf i).toNat)
 case atStart=>exact ⟨0,Nat.zero_le _,rfl,Ext.refl _,by simp [Hid]⟩
 case round =>
  obtain ⟨k,hk,rfl,hE,hN⟩:=hrel
  by_cases hlt : k < l.length
  ·obtain ⟨x,hx⟩ : ∃ x,l[k]? = some x:=⟨l[k],by simp [hlt]⟩
   obtain ⟨b,off,rfl,hb,c0,c1,c2⟩:=(hl.ext hE).cell hx
   have hX:=Lib.hid hx
   clear hx
   cases hpx : p x
   all_goals
    have hP:=Lib.hid hpx
    clear hpx
    go_wp2_with fail
    refine (hp x wr hE).mono ?_
    rintro e w1 ⟨rfl,hE1⟩
    have hpx:=hP.out
    go_wp2
   ·go_roundw
    case rel=>exact ⟨k+1,by omega,by go_num,hE.trans hE1,any_take_succ hN.out hX.out hP.out⟩
    case measure=>simp [intOf];omega
   ·go_ret
    exact ⟨by rw [findIdx_hit hN.out hX.out hP.out];rfl,hE.trans hE1⟩
  ·have hkl : k=l.length:=by omega
   subst hkl
   go_wp2
   go_ret
   have hN':=hN.out
   rw [List.take_length] at hN'
   exact ⟨by rw [findIdx_miss hN'];rfl,hE⟩
end Go.Proofs.YtoanoodfacmieaaGreatDoor

/- Contracts: the reference of layer 28, and slices.Clone of items. -/
namespace Go.Proofs.YtoanoodfacmieaaGreatDoor
set_option maxRecDepth 100000
open Go.RowKit
def RetL (e : TypeId) (w : World) (l : List Item) (en : Ending) (w' : World) : Prop := ∃ v,en = .returned v∧Own w' w.heap.size e 3 v l.length (l.flatMap Item.row)∧Ext w w'
def RetLN (e : TypeId) (w : World) (l : List Item) (n : Int) (en : Ending) (w' : World) : Prop := ∃ v,en = .returned (.tuple #[v,.int .i64 n])∧Own w' w.heap.size e 3 v l.length (l.flatMap Item.row)∧Ext w w'
theorem Item.infoE : ∃ i z,Tryz.prog.info? 89=some i∧i.zero=some z∧i.size=3∧z.cells.size=3∧i.bytes=24:=by
 have h : (Tryz.prog.info? 89).map (fun i=>(i.zero.map (fun z=>z.cells.size),i.size,i.bytes))=some (some 3,3,24):=by kernel_rfl
 cases hi : Tryz.prog.info? 89 with
 | none=>rw [hi] at h;simp at h
 | some i =>
  rw [hi] at h
  simp only [Option.map_some,Option.some.injEq,Prod.mk.injEq] at h
  obtain ⟨h1,h2,h3⟩:=h
  cases hz : i.zero with
  | none=>rw [hz] at h1;simp at h1
  | some z =>
   rw [hz] at h1
   exact ⟨i,z,rfl,hz,h2,by simpa using h1,h3⟩
theorem all_take_succ {α : Type} {p : α→Bool} {l : List α} {k : Nat} {x : α} (h : (l.take k).all p=true) (hx : l[k]? = some x) (hp : p x=true) : (l.take (k+1)).all p=true:=by
 rw [List.take_add_one,hx]
 simp [List.all_append,h,hp]
theorem all_miss {α : Type} {p : α→Bool} {l : List α} {k : Nat} {x : α} (hx : l[k]? = some x) (hp : p x=false) : l.all p=false:=by
 rw [List.all_eq_false]
 exact ⟨x,List.mem_of_getElem? hx,by simp [hp]⟩
end Go.Proofs.YtoanoodfacmieaaGreatDoor

/- Contracts: copies of stacks, equality of stacks, and what is above and below an index; the program's and the reference's. -/
namespace Go.Proofs.YtoanoodfacmieaaGreatDoor
set_option maxRecDepth 100000
open Go.RowKit
theorem Own.made (w : World) (B : Nat) (e : TypeId) (k : Nat) (hB : B≤w.heap.size) : Own (w.alloc (.cells #[] e)) B e k (.slice (some ⟨w.heap.size,0,none⟩) 0 0) 0 [] :=
 World.ownsRow_made w #[] 0 hB (Nat.zero_le _) (by simp)
set_option maxHeartbeats 400000 in
theorem clone_Stack {l : List Item} {v : Value} {w : World} (hl : Its w v l) (hs : l.length≤1000000) : Calls Tryz.prog 55 #[v] w (RetL 89 w l):=by
 obtain ⟨i,z,hi,hz,hi3,hz3,hby⟩:=Item.infoE
 obtain ⟨a,cp,rfl,hlc,hcm,hn⟩:=hl.form
 cases a with
 | none =>
  have hcp:=hn rfl
  subst hcp
  have hl0 : l.length=0:=by omega
  have hl0':=List.eq_nil_of_length_eq_zero hl0
  subst hl0'
  have hnil : ∀ w,(binOp .eql 104 (.slice none 0 0) (.slice none 0 0)).run Tryz.prog w = .ok (.bool true) w:=fun w=>Lib.run_eql_slice_nil w 104 89 none 0 0 0 0 Tryz.underlying104
  go_enter Tryz.func55,Tryz.ntmps55
  go_wp2
  go_ret
  exact ⟨_,rfl,Own.nil _ _ _ _,Ext.refl _⟩
 | some ad =>
  have hE:=(Ext.refl w).alloc (.cells #[] 89)
  have hl':=hl.ext hE
  have hO:=Own.made w w.heap.size 89 3 (Nat.le_refl _)
  have hz:=Lib.hid hz
  have hi3:=Lib.hid hi3
  have hz3:=Lib.hid hz3
  have hby:=Lib.hid hby
  have hi:=Lib.hid hi
  have hnil : ∀ w,(binOp .eql 104 (.slice (some ad) l.length cp) (.slice none 0 0)).run Tryz.prog w = .ok (.bool false) w:=fun w=>Lib.run_eql_slice_nil w 104 89 (some ad) l.length cp 0 0 Tryz.underlying104
  go_enter Tryz.func55,Tryz.ntmps55
  go_wp2_with (at_builtin;refine Hid.out ?_)
  refine Hid.mk ?_
  refine wpList_append_any rfl _ _ 104 104 rfl rfl rfl Tryz.underlying104 Tryz.underlying104 hi.out hz.out hi3.out hz3.out hO hl' (Item.one l) (by simp [maxLen];omega) (by rw [hby.out];omega) hE.size ?_
  intro v' w' hO' hK _ _
  go_wp2
  go_ret
  simp only [Nat.zero_add,List.nil_append] at hO'
  exact ⟨_,rfl,hO',(Below.trans (Below.alloc (Below.refl _ w) (Nat.le_refl _) _) hK.below : Below w.heap.size w w')⟩
set_option maxHeartbeats 400000 in
theorem clone_Items {l : List Item} {v : Value} {w : World} (hl : Its w v l) (hs : l.length≤1000000) : Calls Tryz.prog 105 #[v] w (RetL 89 w l):=by
 obtain ⟨i,z,hi,hz,hi3,hz3,hby⟩:=Item.infoE
 obtain ⟨a,cp,rfl,hlc,hcm,hn⟩:=hl.form
 cases a with
 | none =>
  have hcp:=hn rfl
  subst hcp
  have hl0 : l.length=0:=by omega
  have hl0':=List.eq_nil_of_length_eq_zero hl0
  subst hl0'
  have hnil : ∀ w,(binOp .eql 103 (.slice none 0 0) (.slice none 0 0)).run Tryz.prog w = .ok (.bool true) w:=fun w=>Lib.run_eql_slice_nil w 103 89 none 0 0 0 0 Tryz.underlying103
  go_enter Tryz.func105,Tryz.ntmps105
  go_wp2
  go_ret
  exact ⟨_,rfl,Own.nil _ _ _ _,Ext.refl _⟩
 | some ad =>
  have hE:=(Ext.refl w).alloc (.cells #[] 89)
  have hl':=hl.ext hE
  have hO:=Own.made w w.heap.size 89 3 (Nat.le_refl _)
  have hz:=Lib.hid hz
  have hi3:=Lib.hid hi3
  have hz3:=Lib.hid hz3
  have hby:=Lib.hid hby
  have hi:=Lib.hid hi
  have hnil : ∀ w,(binOp .eql 103 (.slice (some ad) l.length cp) (.slice none 0 0)).run Tryz.prog w = .ok (.bool false) w:=fun w=>Lib.run_eql_slice_nil w 103 89 (some ad) l.length cp 0 0 Tryz.underlying103
  go_enter Tryz.func105,Tryz.ntmps105
  go_wp2_with (at_builtin;refine Hid.out ?_)
  refine Hid.mk ?_
  refine wpList_append_any rfl _ _ 103 103 rfl rfl rfl Tryz.underlying103 Tryz.underlying103 hi.out hz.out hi3.out hz3.out hO hl' (Item.one l) (by simp [maxLen];omega) (by rw [hby.out];omega) hE.size ?_
  intro v' w' hO' hK _ _
  go_wp2
  go_ret
  simp only [Nat.zero_add,List.nil_append] at hO'
  exact ⟨_,rfl,hO',(Below.trans (Below.alloc (Below.refl _ w) (Nat.le_refl _) _) hK.below : Below w.heap.size w w')⟩
end Go.Proofs.YtoanoodfacmieaaGreatDoor

/- Contracts: items.Check, items.Base, and the reference's At, Find and Base. -/
namespace Go.Proofs.YtoanoodfacmieaaGreatDoor
set_option maxRecDepth 100000
open Go.RowKit
theorem callFunc_Check1 (args : Array Value) (w : World) : (callFunc 84 args).run Tryz.prog w = .ok (.enter 84 args) w:=by kernel_rfl
set_option maxHeartbeats 400000 in
theorem items_Check1 (W : World) : PredAt 84 #[] W (fun x => !x.ok):=by
 intro x w _
 have hx:=items_isItem x
 obtain ⟨p,t,c⟩:=x
 unfold Item.val at *
 have hE:=(Ext.refl w).alloc (.cells #[.int .u8 p,.int .i64 t,.int .i64 c] 89)
 have hX:=Lib.hid hx
 clear hx
 show Calls Tryz.prog 84 #[.agg #[.int .u8 p,.int .i64 t,.int .i64 c]] w _
 go_enter Tryz.func84,Tryz.ntmps84
 go_wp2_with (go_at_call 85;refine (hX.out _).mono ?_;rintro e w' ⟨rfl,hE'⟩)
 go_ret
 exact ⟨rfl,hE.trans hE'⟩
theorem idxOf_any {α : Type} (p : α→Bool) (l : List α) : decide (0≤idxOf (l.findIdx? p))=l.any p:=by
 cases h : l.findIdx? p with
 | none =>
  have h' : l.any p=false:=by rw [List.findIdx?_eq_none_iff] at h;simpa [List.any_eq_false] using h
  rw [h'];simp [idxOf]
 | some i =>
  have h' : l.any p=true:=by
   rw [List.findIdx?_eq_some_iff_getElem] at h
   obtain ⟨hi,hp,_⟩:=h
   rw [List.any_eq_true]
   exact ⟨l[i],List.getElem_mem _,hp⟩
  rw [h'];simp [idxOf]
set_option maxHeartbeats 400000 in
theorem containsFunc_item {g : Nat} {cap : Array Value} {p : Item→Bool} {l : List Item} {v : Value} {w : World} (hg : ∀ args w,(callFunc g args).run Tryz.prog w = .ok (.enter g args) w)
  (hp : PredAt g cap w p) (hl : Its w v l) : Calls Tryz.prog 83 #[v,.func (.func g) #[] cap] w fun e w'=>e = .returned (.bool (l.any p))∧Ext w w':=by
 have hC:=Lib.hid (indexFunc_item hg hp hl)
 have hA:=Lib.hid (idxOf_any p l)
 clear hg
 obtain ⟨a,cp,rfl,-⟩:=hl.form
 go_enter Tryz.func83,Tryz.ntmps83
 go_wp2_with (go_at_call 91;refine hC.out.mono ?_;rintro e w' ⟨rfl,hE'⟩)
 go_ret
 exact ⟨by rw [← hA.out];rfl,hE'⟩
theorem any_not_ok (l : List Item) : l.any (fun x => !x.ok) = !l.all Item.ok:=by
 induction l with
 | nil=>rfl
 | cons x l ih=>rw [List.any_cons,List.all_cons,ih,Bool.not_and]
set_option maxHeartbeats 400000 in
theorem items_Check {l : List Item} {v : Value} {w : World} (hl : Its w v l) : Calls Tryz.prog 75 #[v] w fun e w'=>e = .returned (.int .i64 (chk l))∧Ext w w':=by
 have hC:=Lib.hid (containsFunc_item callFunc_Check1 (items_Check1 w) hl)
 have hN:=Lib.hid (any_not_ok l)
 obtain ⟨a,cp,rfl,hlc,hcm,-⟩:=hl.form
 by_cases h6 : l.length≤600
 ·have hd : decide ((600 : Int) < (l.length : Int))=false:=decide_eq_false (by omega)
  cases ha : l.all Item.ok
  all_goals
   have hv:=Lib.hid ha
   go_enter Tryz.func75,Tryz.ntmps75
   go_wp2_with (go_at_call 83;refine hC.out.mono ?_;rintro e w' ⟨rfl,hE'⟩;rw [hN.out,hv.out])
   go_ret
   exact ⟨by simp [chk,okS,hv.out,h6],hE'⟩
 ·have hd : decide ((600 : Int) < (l.length : Int))=true:=decide_eq_true (by omega)
  go_enter Tryz.func75,Tryz.ntmps75
  go_wp2
  go_ret
  exact ⟨by simp [chk,okS,h6],Ext.refl _⟩
end Go.Proofs.YtoanoodfacmieaaGreatDoor

/- Contracts: what is held; Enter, Leave and Held, the program's and the reference's. -/
namespace Go.Proofs.YtoanoodfacmieaaGreatDoor
set_option maxRecDepth 100000
open Go.RowKit
def RetNs (e : TypeId) (w : World) (l : List Int) (en : Ending) (w' : World) : Prop := ∃ v,en = .returned v∧Own w' w.heap.size e 1 v l.length (l.flatMap irow)∧Ext w w'
theorem Int.infoE : ∃ i z,Tryz.prog.info? 3=some i∧i.zero=some z∧i.size=1∧z.cells.size=1∧i.bytes=8:=by
 have h : (Tryz.prog.info? 3).map (fun i=>(i.zero.map (fun z=>z.cells.size),i.size,i.bytes))=some (some 1,1,8):=by kernel_rfl
 cases hi : Tryz.prog.info? 3 with
 | none=>rw [hi] at h;simp at h
 | some i =>
  rw [hi] at h
  simp only [Option.map_some,Option.some.injEq,Prod.mk.injEq] at h
  obtain ⟨h1,h2,h3⟩:=h
  cases hz : i.zero with
  | none=>rw [hz] at h1;simp at h1
  | some z =>
   rw [hz] at h1
   exact ⟨i,z,rfl,hz,h2,by simpa using h1,h3⟩
set_option maxHeartbeats 400000 in
theorem clone_Ints {l : List Int} {v : Value} {w : World} (hl : Nts w v l) (hs : l.length≤1000000) : Calls Tryz.prog 56 #[v] w (RetNs 3 w l):=by
 obtain ⟨i,z,hi,hz,hi3,hz3,hby⟩:=Int.infoE
 obtain ⟨a,cp,rfl,hlc,hcm,hn⟩:=hl.form
 cases a with
 | none =>
  have hcp:=hn rfl
  subst hcp
  have hl0:=List.eq_nil_of_length_eq_zero (by omega : l.length=0)
  subst hl0
  have hnil : ∀ w,(binOp .eql 28 (.slice none 0 0) (.slice none 0 0)).run Tryz.prog w = .ok (.bool true) w:=fun w=>Lib.run_eql_slice_nil w 28 3 none 0 0 0 0 Tryz.underlying28
  go_enter Tryz.func56,Tryz.ntmps56
  go_wp2
  go_ret
  exact ⟨_,rfl,Own.nil _ _ _ _,Ext.refl _⟩
 | some ad =>
  have hE:=(Ext.refl w).alloc (.cells #[] 3)
  have hl':=hl.ext hE
  have hO:=Own.made w w.heap.size 3 1 (Nat.le_refl _)
  have hz:=Lib.hid hz
  have hi3:=Lib.hid hi3
  have hz3:=Lib.hid hz3
  have hby:=Lib.hid hby
  have hi:=Lib.hid hi
  have hnil : ∀ w,(binOp .eql 28 (.slice (some ad) l.length cp) (.slice none 0 0)).run Tryz.prog w = .ok (.bool false) w:=fun w=>Lib.run_eql_slice_nil w 28 3 (some ad) l.length cp 0 0 Tryz.underlying28
  go_enter Tryz.func56,Tryz.ntmps56
  go_wp2_with (at_builtin;refine Hid.out ?_)
  refine Hid.mk ?_
  refine wpList_append_any rfl _ _ 28 28 rfl rfl rfl Tryz.underlying28 Tryz.underlying28 hi.out hz.out hi3.out hz3.out hO hl' (Nts.one l) (by simp [maxLen];omega) (by rw [hby.out];omega) hE.size ?_
  intro v' w' hO' hK _ _
  go_wp2
  go_ret
  simp only [Nat.zero_add,List.nil_append] at hO'
  exact ⟨_,rfl,hO',(Below.trans (Below.alloc (Below.refl _ w) (Nat.le_refl _) _) hK.below : Below w.heap.size w w')⟩
theorem callFunc_first1 (args : Array Value) (w : World) : (callFunc 96 args).run Tryz.prog w = .ok (.enter 96 args) w:=by kernel_rfl
set_option maxHeartbeats 400000 in
theorem guard_first1 {run : List Int} {v : Value} (B : Nat) (W : World) (hc : W.cell? ⟨B,0,none⟩=some v) (hl : Nts W v run) (hs : okFrom 0 run=true) (hlen : run.length≤1000) : PredAt 96 #[.pointer (some ⟨B,0,none⟩)] W (heldBy run):=by
 intro x w hW
 obtain ⟨p,t,c⟩:=x
 have hcw:=hW.cell hc
 have hB:=World.block_lt_of_cell? _ _ hcw
 have hE:=(Ext.refl w).alloc (.cells #[.int .u8 p,.int .i64 t,.int .i64 c] 89)
 have hBS:=Lib.hid (binarySearch c ((hl.ext hW).ext hE) hs hlen)
 obtain ⟨a,cp,rfl,-⟩:=hl.form
 clear hc hW hl hs
 show Calls Tryz.prog 96 #[.agg #[.int .u8 p,.int .i64 t,.int .i64 c],.pointer (some ⟨B,0,none⟩)] w _
 go_enter Tryz.func96,Tryz.ntmps96
 go_wp2_with fail
 refine hBS.out.mono ?_
 rintro e w1 ⟨i,rfl,rfl⟩
 go_wp2
 go_ret
 exact ⟨rfl,hE⟩
set_option maxHeartbeats 400000 in
theorem indexFunc_items {g : Nat} {cap : Array Value} {p : Item→Bool} {l : List Item} {v : Value} {w : World} (hg : ∀ args w,(callFunc g args).run Tryz.prog w = .ok (.enter g args) w)
  (hp : PredAt g cap w p) (hl : Its w v l) : Calls Tryz.prog 95 #[v,.func (.func g) #[] cap] w fun e w'=>e = .returned (.int .i64 (idxOf (l.findIdx? p)))∧Ext w w':=by
 obtain ⟨a,cp,rfl,hlc,hcm,-⟩:=hl.form
 unfold maxLen at hcm
 go_enter Tryz.func95,Tryz.ntmps95
 go_wp2
 go_loopw [8] (fun i wr => ∃ k : Nat,k≤l.length∧i = .int .i64 k∧Ext w wr∧Hid ((l.take k).any p=false)) (fun i _=>l.length - (intOf i).toNat)
 case atStart=>exact ⟨0,Nat.zero_le _,rfl,Ext.refl _,by simp [Hid]⟩
 case round =>
  obtain ⟨k,hk,rfl,hE,hN⟩:=hrel
  by_cases hlt : k < l.length
  ·obtain ⟨x,hx⟩ : ∃ x,l[k]? = some x:=⟨l[k],by simp [hlt]⟩
   obtain ⟨b,off,rfl,hb,c0,c1,c2⟩:=(hl.ext hE).cell hx
   have hX:=Lib.hid hx
   clear hx
   cases hpx : p x
   all_goals
    have hP:=Lib.hid hpx
    clear hpx
    go_wp2_with fail
    refine (hp x wr hE).mono ?_
    rintro e w1 ⟨rfl,hE1⟩
    have hpx:=hP.out
    go_wp2
   ·go_roundw
    case rel=>exact ⟨k+1,by omega,by go_num,hE.trans hE1,any_take_succ hN.out hX.out hP.out⟩
    case measure=>simp [intOf];omega
   ·go_ret
    exact ⟨by rw [findIdx_hit hN.out hX.out hP.out];rfl,hE.trans hE1⟩
  ·have hkl : k=l.length:=by omega
   subst hkl
   go_wp2
   go_ret
   have hN':=hN.out
   rw [List.take_length] at hN'
   exact ⟨by rw [findIdx_miss hN'];rfl,hE⟩
set_option maxHeartbeats 400000 in
theorem guard_first {l : List Item} {run : List Int} {v u : Value} {w : World} (hl : Its w v l) (hr : Nts w u run) (hok : okR run=true) :
  Calls Tryz.prog 87 #[v,u] w fun e w'=>e = .returned (.int .i64 (idxOf (firstR l run)))∧Ext w w':=by
 have hE0:=(Ext.refl w).alloc (.cells #[u] 28)
 have hc : (w.alloc (.cells #[u] 28)).cell? ⟨w.heap.size,0,none⟩=some u:=by simp
 have hI:=Lib.hid (indexFunc_items callFunc_first1 (guard_first1 w.heap.size _ hc (hr.ext hE0) (okR_from hok) (by have:=okR_len hok;omega)) (hl.ext hE0))
 have hmf : ∀ (fn : Fn) (first cap : Array Value) (w : World),(Instr.makeFunc fn first cap).run Tryz.prog w = .ok (.func fn first cap) w:=fun _ _ _ _=>rfl
 obtain ⟨a,cp,rfl,-⟩:=hl.form
 obtain ⟨a2,cp2,rfl,-⟩:=hr.form
 clear hl hr hc
 go_enter Tryz.func87,Tryz.ntmps87
 go_wp2_with fail
 refine hI.out.mono ?_
 rintro e w1 ⟨rfl,hE1⟩
 go_wp2
 go_ret
 exact ⟨rfl,hE0.trans hE1⟩
theorem enterR_bad {l : List Int} {c : Int} (h : okR l=false) : enterR l c=([],8):=by simp [enterR,h]
theorem enterR_low {l : List Int} {c : Int} (h : okR l=true) (hc : c≤lastR l∨1000000 < c) : enterR l c=([],2):=by simp [enterR,h,hc]
theorem enterR_full {l : List Int} {c : Int} (h : okR l=true) (hc : ¬ (c≤lastR l∨1000000 < c)) (hf : l.length=32) : enterR l c=([],18):=by simp [enterR,h,hc,hf]
theorem enterR_ok {l : List Int} {c : Int} (h : okR l=true) (hc : ¬ (c≤lastR l∨1000000 < c)) (hf : ¬ l.length=32) : enterR l c=(l ++ [c],0):=by simp [enterR,h,hc,hf]
theorem leaveR_bad {l : List Int} (h : okR l=false) : leaveR l=([],8):=by simp [leaveR,h]
theorem leaveR_none {l : List Int} (h : okR l=true) (hz : l.length=0) : leaveR l=([],6):=by simp [leaveR,h,hz]
theorem leaveR_ok {l : List Int} (h : okR l=true) (hz : ¬ l.length=0) : leaveR l=(l.take (l.length - 1),0):=by simp [leaveR,h];intro e;exact absurd (by simp [e]) hz
theorem slice_upto_Ints (a : Option Addr) (n cap : Nat) (x : Int) (k : Nat) (hx : x=k) (hk : k≤cap) :
  ∀ w,(Instr.slice 28 (.slice a n cap) none (some (.int .i64 x)) none).run Tryz.prog w = .ok (.slice a k cap) w:=by
 obtain ⟨i,z,hi,hz,hi3,hz3,hby⟩:=Int.infoE
 exact fun w=>run_slice_upto Tryz.underlying28 hi a n cap x k hx hk w
end Go.Proofs.YtoanoodfacmieaaGreatDoor

/- Contracts: Leave of the reference; Enter and Held, the program's and the reference's. -/
namespace Go.Proofs.YtoanoodfacmieaaGreatDoor
set_option maxRecDepth 100000
open Go.RowKit
theorem last_is {l : List Int} (h : l.length≠0) : l[l.length - 1]? = some (lastR l):=by
 obtain ⟨x,hx⟩ : ∃ x,l[l.length - 1]? = some x:=⟨l[l.length - 1]'(by omega),by simp⟩
 rw [lastR_get hx];exact hx
end Go.Proofs.YtoanoodfacmieaaGreatDoor

/- Contracts: Enter of the reference; Held, the program's and the reference's. -/
namespace Go.Proofs.YtoanoodfacmieaaGreatDoor
set_option maxRecDepth 100000
open Go.RowKit
end Go.Proofs.YtoanoodfacmieaaGreatDoor

/- Contracts: Base, and the reference's At and Find. -/
namespace Go.Proofs.YtoanoodfacmieaaGreatDoor
set_option maxRecDepth 100000
open Go.RowKit
theorem Own.lit (w : World) {B : Nat} {e : TypeId} {k : Nat} (cs : Array Value) (n : Nat) (hB : B≤w.heap.size) (hm : n≤maxLen) (hs : cs.size=n * k) :
  Own (w.alloc (.cells cs e)) B e k (.slice (some ⟨w.heap.size,0,none⟩) n n) n cs.toList:=World.ownsRow_lit w cs n hB hm hs
theorem Its.lit (w : World) (cs : Array Value) (l : List Item) (n b : Nat) (hb : w.heap.size=b) (hn : l.length=n) (hm : n≤maxLen) (hc : cs.toList=l.flatMap Item.row) : Its (w.alloc (.cells cs 89)) (.slice (some ⟨b,0,none⟩) n n) l:=by
 subst hn hb
 have hs : cs.size=l.length * 3:=by
  have:=congrArg List.length hc
  rw [rows_len Item.row Item.row_len] at this
  simpa using this
 have:=(Own.lit (B:=0) (e:=89) (k:=3) w cs l.length (Nat.zero_le _) hm hs).sl
 rw [hc] at this
 exact this
def baseOf (tag : Int) : List Item:=if inB tag then [⟨1,tag,0⟩] else []
def baseErr (tag : Int) : Int:=if inB tag then 0 else 2
set_option maxHeartbeats 400000 in
theorem items_Base (tag : Int) (w : World) : Calls Tryz.prog 51 #[.int .i64 tag] w (RetLN 89 w (baseOf tag) (baseErr tag)):=by
 have hO:=Own.lit (B:=w.heap.size) (e:=89) (k:=3) w #[.int .u8 1,.int .i64 tag,.int .i64 0] 1 (Nat.le_refl _) (by simp [maxLen]) rfl
 cases ht : inB tag
 all_goals
  go_enter Tryz.func51,Tryz.ntmps51
  go_wp2_with (go_at_call 77;refine (items_in _ _).mono ?_;rintro e w' ⟨rfl,rfl⟩)
  go_ret2
 ·unfold baseOf baseErr;rw [ht]
  exact ⟨_,rfl,Own.nil _ _ _ _,Ext.refl _⟩
 ·unfold baseOf baseErr;rw [ht]
  exact ⟨_,rfl,hO,(Ext.refl _).alloc _⟩
theorem idx_step_yes {p : Nat→Bool} {k : Nat} (h : p k=true) : lastUpTo p (k+1)=some k:=by simp [lastUpTo,h]
theorem idx_step_no {p : Nat→Bool} {k : Nat} (h : p k=false) : lastUpTo p (k+1)=lastUpTo p k:=by simp [lastUpTo,h]
def findIx (l : List Item) (tag : Int) (write : Bool) : Int:=if okS l then ((findAt l tag write).getD 0 : Nat) else 0
def findErr (l : List Item) (tag : Int) (write : Bool) : Int:=if okS l then (if (findAt l tag write).isSome then 0 else 6) else 8
end Go.Proofs.YtoanoodfacmieaaGreatDoor

/- Contracts: items.Find, which ranges over slices.Backward. -/
namespace Go.Proofs.YtoanoodfacmieaaGreatDoor
set_option maxRecDepth 100000
open Go.RowKit Go.Shelf
attribute [local go_sem] Oper.semAt_some
def upto {α : Type} (f : Nat→α) (k : Nat) : List α:=(List.range k).map f
theorem upto_succ {α : Type} (f : Nat→α) (k : Nat) : upto f (k+1)=upto f k ++ [f k]:=by simp [upto,List.range_succ]
theorem upto_length {α : Type} (f : Nat→α) (k : Nat) : (upto f k).length=k:=by simp [upto]
def back (l : List Item) (j : Nat) : Nat × Item:=(l.length - 1 - j,(l[l.length - 1 - j]?).getD ⟨0,0,0⟩)
theorem lastUpTo_none {p : Nat→Bool} {n : Nat} (h : ∀ j,j < n→p j=false) : lastUpTo p n=none:=by
 induction n with
 | zero=>rfl
 | succ n ih=>rw [idx_step_no (h n (by omega))];exact ih fun j hj=>h j (by omega)
theorem lastUpTo_some {p : Nat→Bool} {n i : Nat} (hi : i < n) (hp : p i=true) (h : ∀ j,i < j→j < n→p j=false) : lastUpTo p n=some i:=by
 induction n with
 | zero=>omega
 | succ n ih =>
  by_cases e : i=n
  ·subst e;exact idx_step_yes hp
  ·rw [idx_step_no (h n (by omega) (by omega))];exact ih (by omega) fun j h1 h2=>h j h1 (by omega)
theorem back_item (l : List Item) (j : Nat) (hj : j < l.length) : l[l.length - 1 - j]? = some (back l j).2:=by
 unfold back
 rw [List.getElem?_eq_getElem (by omega)]
 rfl
theorem find_none {l : List Item} {tag : Int} {write : Bool} (h : ∀ x ∈ upto (back l) l.length,grants tag write x.2=false) : findAt l tag write=none:=by
 refine lastUpTo_none fun j hj => ?_
 have hb:=back_item l (l.length - 1 - j) (by omega)
 rw [show l.length - 1 - (l.length - 1 - j)=j by omega] at hb
 rw [hb]
 exact h _ (List.mem_map.2 ⟨l.length - 1 - j,List.mem_range.2 (by omega),rfl⟩)
theorem find_some {l : List Item} {tag : Int} {write : Bool} {k : Nat} (hk : k < l.length) (h : ∀ x ∈ upto (back l) k,grants tag write x.2=false) (hx : grants tag write (back l k).2=true) : findAt l tag write=some (l.length - 1 - k):=by
 refine lastUpTo_some (by omega) (by rw [back_item l k hk];exact hx) fun j h1 h2 => ?_
 have hb:=back_item l (l.length - 1 - j) (by omega)
 rw [show l.length - 1 - (l.length - 1 - j)=j by omega] at hb
 rw [hb]
 exact h _ (List.mem_map.2 ⟨l.length - 1 - j,List.mem_range.2 (by omega),rfl⟩)
theorem boxedExt {W W' : World} {B : Nat} {t : TypeId} {v : Value} (h : Boxed W B t v) (hE : Ext W W') : Boxed W' B t v:=(hE.blk h.lt).trans h
theorem KeepsOthers.of_ext {W W' : World} (hE : Ext W W') : KeepsOthers W W':=⟨hE.size,fun _ _ h _=>(hE.blk (Array.getElem?_eq_some_iff.1 h).1).trans h⟩
set_option maxHeartbeats 400000 in
theorem items_Find1 (x : Item) (tag : Int) (write : Bool) (b1 b2 : Nat) (w : World) (h1 : w.cell? ⟨b1,0,none⟩=some (.int .i64 tag)) (h2 : w.cell? ⟨b2,0,none⟩=some (.bool write)) :
  Calls Tryz.prog 100 #[x.val,.pointer (some ⟨b1,0,none⟩),.pointer (some ⟨b2,0,none⟩)] w fun e w'=>e = .returned (.bool (grants tag write x))∧Ext w w':=by
 obtain ⟨p,t,c⟩:=x
 have hE:=(Ext.refl w).alloc (.cells #[.int .u8 p,.int .i64 t,.int .i64 c] 89)
 have g1:=hE.cell h1
 have g2:=hE.cell h2
 clear h1 h2
 unfold Item.val
 cases e1 : t == tag <;> cases write <;> cases e3 : p == 4
 all_goals
  go_enter Tryz.func100,Tryz.ntmps100
  go_wp2
  go_ret
  exact ⟨by unfold grants;rw [e1,e3];rfl,hE⟩
set_option maxHeartbeats 1000000 in
theorem backward_in (F : Fence) (n : Nat) (h5 : F.fn 101) (hro : F.round=none) (a : Option Addr) (len cap : Nat) (w : World) :
  CallsIn F n Tryz.prog 101 #[.slice a len cap] w fun e w'=>e = .returned (.func (.func 104) #[] #[.pointer (some ⟨w.heap.size,0,none⟩)])∧w'=w.alloc (.cells #[.slice a len cap] 104):=by
 refine callsIn_of_wp Tryz.func101 rfl h5 ?_ hro
 simp only [Tryz.ntmps101,List.size_toArray,List.length_cons,List.length_nil,Nat.reduceAdd,Nat.reduceSub,Array.replicate_succ,Array.replicate_zero,List.push_toArray,List.append_toArray,List.nil_append,List.cons_append]
 gi_wp2
 go_ret
 exact ⟨rfl,rfl⟩
set_option maxRecDepth 100000 in
set_option maxHeartbeats 2000000 in
theorem backward1_in (F : Fence) (n : Nat) (h7 : F.fn 104) (hro : F.round=none) (hn : 1≤n) (lp Bs n₀ : Nat) (a : Option Addr) (cap : Nat) (l : List Item) (hm : l.length≤1000000) (w0 : World) (hl : Its w0 (.slice a l.length cap) l) (hn₀ : w0.heap.size≤n₀) (J Jx : List (Nat × Item)→World→Prop)
  (hY : ∀ pre x W,J pre W→pre.length < l.length→YieldAt F (n - 1) Tryz.prog lp #[.int .i64 (x.1 : Int),.agg #[.int .u8 x.2.p,.int .i64 x.2.t,.int .i64 x.2.c]] W fun e W' =>
   (e = .returned (.bool true)∧J (pre ++ [x]) W'∧Below n₀ W W')∨(e = .returned (.bool false)∧Jx (pre ++ [x]) W'))
  (W : World) (hBs : W.cell? ⟨Bs,0,none⟩=some (.slice a l.length cap)) (hBn : Bs < n₀) (hW : Ext w0 W) (h0 : J [] W) :
  CallsIn F n Tryz.prog 104 #[.func (.yield lp) #[] #[],.pointer (some ⟨Bs,0,none⟩)] W fun e W'=>(∃ v,e = .returned v) ∧
   ((∃ ys,ys=upto (back l) l.length∧J ys W')∨(∃ pre,(∃ k,k≤l.length∧pre=upto (back l) k)∧Jx pre W')):=by
 refine callsIn_of_wp Tryz.func104 rfl h7 ?_ hro
 simp only [Tryz.ntmps104,List.size_toArray,List.length_cons,List.length_nil,Nat.reduceAdd,Nat.reduceSub,Array.replicate_succ,Array.replicate_zero,List.push_toArray,List.append_toArray,List.nil_append,List.cons_append]
 gi_wp2
 gi_loopw [3] (fun i wr => ∃ k : Nat,k≤l.length∧i = .int .i64 ((l.length : Int) - 1 - k)∧J (upto (back l) k) wr∧Below n₀ W wr)
  (fun i _=>((intOf i)+1).toNat)
 case atStart=>exact ⟨0,Nat.zero_le _,by simp,h0,Below.refl _ _⟩
 case round =>
  obtain ⟨k,hk,rfl,hJs,hnx⟩:=hrel
  have hE : Ext w0 wr:=Below.trans hW (Below.mono hnx hn₀)
  have hbs:=(Below.cell hnx (p:=⟨Bs,0,none⟩) hBn).trans hBs
  by_cases hlt : k < l.length
  ·obtain ⟨j,hj⟩ : ∃ j : Nat,(l.length : Int) - 1 - k=j:=⟨l.length - 1 - k,by omega⟩
   have hjl : j < l.length:=by omega
   obtain ⟨x,hx⟩ : ∃ x,l[j]? = some x:=⟨l[j],by simp [hjl]⟩
   have hb : back l k=(j,x):=by unfold back;rw [show l.length - 1 - k=j by omega,hx];rfl
   obtain ⟨b,off,rfl,hbb,c0,c1,c2⟩:=(hl.ext hE).cell hx
   obtain ⟨fn,tmps,assign,body,hy,hR⟩:=hY _ (j,x) wr hJs (by rw [upto_length];exact hlt)
   dsimp only at hy
   rw [hj]
   have hX:=Lib.hid hx
   have hB:=Lib.hid hb
   have hJ:=Lib.hid hj
   clear hx hb hj
   gi_wp2
   refine hR.mono ?_
   rintro e W3 (⟨rfl,hJ3,hk3⟩ | ⟨rfl,hJx3⟩)
   ·gi_wp2
    go_roundw
    case rel=>exact ⟨k+1,by omega,by have:=hJ.out;first | (congr 1;done) | (congr 1;omega),by rw [upto_succ,hB.out];exact hJ3,hnx.trans hk3⟩
    case measure=>simp [intOf] <;> omega
   ·gi_wp2
    refine bodyPost_ret (results_none rfl _ _ _) rfl ?_
    exact ⟨⟨_,rfl⟩,.inr ⟨_,⟨k+1,by omega,by rw [upto_succ,hB.out]⟩,hJx3⟩⟩
  ·obtain rfl : k=l.length:=by omega
   gi_wp2
   go_end0
   exact ⟨⟨_,rfl⟩,.inl ⟨_,rfl,hJs⟩⟩
theorem backward_stops (F : Fence) (n : Nat) (h7 : F.fn 104) (hro : F.round=none) (hn : 1≤n) (Bs n₀ : Nat) (a : Option Addr) (cap : Nat) (l : List Item) (hm : l.length≤1000000) (w0 w : World) (hl : Its w0 (.slice a l.length cap) l) (hw : Ext w0 w) (hn₀ : w0.heap.size≤n₀) (hBs : Bs < n₀) (hn1 : n₀≤w.heap.size)
  (hc : w.cell? ⟨Bs,0,none⟩=some (.slice a l.length cap)) :
  SeqStopsK F n Tryz.prog 104 #[.pointer (some ⟨Bs,0,none⟩)] (fun x : Nat × Item=>#[Value.int .i64 (x.1 : Int),.agg #[.int .u8 x.2.p,.int .i64 x.2.t,.int .i64 x.2.c]]) (Below n₀) (fun ys=>ys=upto (back l) l.length)
   (fun pre => ∃ k,k≤l.length∧pre=upto (back l) k) l.length w:=fun lp J Jx W hW _ _ hY h0 =>
 backward1_in F n h7 hro hn lp Bs n₀ a cap l hm w0 hl hn₀ J Jx hY W ((Below.cell hW (p:=⟨Bs,0,none⟩) (Nat.lt_of_lt_of_le hBs hn1)).trans hc) hBs (hw.trans hW) h0
set_option maxRecDepth 100000 in
set_option maxHeartbeats 2000000 in
theorem items_Find_in (l : List Item) (a : Option Addr) (cap : Nat) (tag : Int) (write : Bool) (w : World) (hl : Its w (.slice a l.length cap) l) (hk : okS l=true) :
  CallsIn Fence.wide 10 Tryz.prog 92 #[.slice a l.length cap,.int .i64 tag,.bool write] w fun e w'=>e = .returned (.tuple #[.int .i64 (findIx l tag write),.int .i64 (findErr l tag write)])∧Ext w w':=by
 have hE4:=((((Ext.refl w).alloc (.cells #[.int .i64 tag] 3)).alloc (.cells #[.bool write] 4)).alloc (.cells #[.int .i64 0] 3)).alloc (.cells #[.int .i64 0] 40)
 have hC:=Lib.hid (items_Check (hl.ext hE4))
 have h0 : Hid (chk l=0):=Hid.mk (by simp [chk,hk])
 have hmf : ∀ (fn : Fn) (first cap : Array Value) (w : World),(Instr.makeFunc fn first cap).run Tryz.prog w = .ok (.func fn first cap) w:=fun _ _ _ _=>rfl
 refine callsIn_of_wp_marks Tryz.func92 rfl trivial ?_ rfl
 simp only [Tryz.ntmps92,List.size_toArray,List.length_cons,List.length_nil,Nat.reduceAdd,Nat.reduceSub,Array.replicate_succ,Array.replicate_zero,List.push_toArray,List.append_toArray,List.nil_append,List.cons_append]
 gi_wp2_with (first | (refine ⟨trivial,?_⟩;gi_at_call 75;refine (callsIn_wide.2 hC.out).mono ?_;rintro e w5 ⟨rfl,hE5⟩;rw [h0.out]) | (refine ⟨trivial,?_⟩;gi_at_call 101;refine (backward_in Fence.wide _ trivial rfl _ _ _ _).mono ?_;rintro e w' ⟨rfl,rfl⟩))
 have bT:=(((Boxed.new w 3 (.int .i64 tag)).alloc (.cells #[.bool write] 4)).alloc (.cells #[.int .i64 0] 3)).alloc (.cells #[.int .i64 0] 40)
 have bW:=((Boxed.new (w.alloc (.cells #[.int .i64 tag] 3)) 4 (.bool write)).alloc (.cells #[.int .i64 0] 3)).alloc (.cells #[.int .i64 0] 40)
 have bR:=(Boxed.new ((w.alloc (.cells #[.int .i64 tag] 3)).alloc (.cells #[.bool write] 4)) 3 (.int .i64 0)).alloc (.cells #[.int .i64 0] 40)
 have bE:=Boxed.new (((w.alloc (.cells #[.int .i64 tag] 3)).alloc (.cells #[.bool write] 4)).alloc (.cells #[.int .i64 0] 3)) 40 (.int .i64 0)
 simp only [World.size_alloc] at bW bR bE
 have hs5 : w.heap.size+4≤w5.heap.size:=by have:=hE5.size;simp at this;omega
 obtain ⟨fv,hfv⟩ : ∃ fv,Value.func (Fn.func 100) #[] #[Value.pointer (some ⟨w.heap.size,0,none⟩),Value.pointer (some ⟨w.heap.size+1,0,none⟩)]=fv:=⟨_,rfl⟩
 have bF:=(Boxed.new w5 133 fv).alloc (.cells #[.slice a l.length cap] 104)
 have bS:=Boxed.new (w5.alloc (.cells #[fv] 133)) 104 (.slice a l.length cap)
 rw [World.size_alloc] at bS
 have hE7:=(hE5.alloc (.cells #[fv] 133)).alloc (.cells #[.slice a l.length cap] 104)
 have hE8:=hE4.trans hE7
 have hsz : ((w5.alloc (.cells #[fv] 133)).alloc (.cells #[.slice a l.length cap] 104)).heap.size=w5.heap.size+2:=by simp
 have bT:=boxedExt bT hE7;have bW:=boxedExt bW hE7;have bR:=boxedExt bR hE7;have bE:=boxedExt bE hE7
 have hFv:=Lib.hid hfv
 rw [hfv]
 clear hfv
 obtain ⟨W0,hW0⟩ : ∃ W0,(w5.alloc (.cells #[fv] 133)).alloc (.cells #[.slice a l.length cap] 104)=W0:=⟨_,rfl⟩
 rw [hW0] at bT bW bR bE bF bS hE8 hsz ⊢
 clear hW0 hE7
 have hlen : l.length≤600:=by simp [okS] at hk;omega
 refine wpIn_rangeFunc_ownH rfl (by omega) (gf:=104) (lb:=#[.pointer (some ⟨w5.heap.size+1,0,none⟩)]) rfl trivial (enters_of Tryz.func104 (by kernel_rfl) rfl) (backward_stops Fence.wide _ trivial rfl (by omega) (w5.heap.size+1) W0.heap.size a cap l (by omega) w W0 hl hE8 hE8.size (by omega) (Nat.le_refl _) bS.cell) belowK_t (belowK_b (by omega)) (Below.refl _ _) (fun _=>rfl) (fun pre W=>(((Boxed W w.heap.size 3 (.int .i64 tag)∧Boxed W (w.heap.size+1) 4 (.bool write))∧(Boxed W (w.heap.size+1+1) 3 (.int .i64 0)∧Boxed W (w.heap.size+1+1+1) 40 (.int .i64 0)))∧Boxed W w5.heap.size 133 fv)∧((∀ x ∈ pre,grants tag write x.2=false)∧(W0.heap.size≤W.heap.size∧Below w.heap.size w W))) (fun c pre W=>(c = .ret ∧ ∃ ini last,pre=ini ++ [last]∧(∀ x ∈ ini,grants tag write x.2=false)∧grants tag write last.2=true∧W.cell? ⟨w.heap.size+1+1,0,none⟩=some (.int .i64 (last.1 : Int))∧W.cell? ⟨w.heap.size+1+1+1,0,none⟩=some (.int .i64 0))∧Below w.heap.size w W) (OwnFrom.and (OwnFrom.and (OwnFrom.and (OwnFrom.and (Go.Own.from (boxed_own _ _ _) _) (Go.Own.from (boxed_own _ _ _) _)) (OwnFrom.and (Go.Own.from (boxed_own _ _ _) _) (Go.Own.from (boxed_own _ _ _) _))) (Go.Own.from (boxed_own _ _ _) _)) (OwnFrom.and (ownFrom_pure _ _) (OwnFrom.and (fun s A B row hs hg hr=>Nat.le_trans hs hg.size) (ownFrom_below (Nat.le_refl _) hE8.size)))) (fun c=>OwnFrom.and (Go.Own.from (fun s A B row hs hg hr=>by obtain ⟨hc,ini,last,e1,e2,e3,e4,e5⟩:=hs;exact ⟨hc,ini,last,e1,e2,e3,cell_kept e4 hg hr,cell_kept e5 hg hr⟩) _) (ownFrom_below (Nat.le_refl _) hE8.size)) ⟨⟨⟨⟨bT,bW⟩,bR,bE⟩,bF⟩,(fun _ h=>by cases h),Nat.le_refl _,hE8⟩ (fun x a' W => ∃ Bx,w5.heap.size < Bx∧(W.cell? ⟨Bx,0,none⟩=some (.int .u8 x.2.p)∧W.cell? ⟨Bx,1,none⟩=some (.int .i64 x.2.t)∧W.cell? ⟨Bx,2,none⟩=some (.int .i64 x.2.c))∧a' = { tmps:=#[.slice a l.length cap,.int .i64 tag,.bool write,undef,.pointer (some ⟨w.heap.size,0,none⟩),.pointer (some ⟨w.heap.size+1,0,none⟩),.pointer (some ⟨w.heap.size+1+1,0,none⟩),.pointer (some ⟨w.heap.size+1+1+1,0,none⟩),.int .i64 0,.pointer (some ⟨w5.heap.size,0,none⟩),.int .i64 (x.1 : Int),.pointer (some ⟨Bx,0,none⟩),.slice a l.length cap,.int .i64 0,.int .i64 0,.bool false,undef,fv,.slice a l.length cap,.func (.func 104) #[] #[.pointer (some ⟨w5.heap.size+1,0,none⟩)],.int .i64 (x.1 : Int),.agg #[.int .u8 x.2.p,.int .i64 x.2.t,.int .i64 x.2.c],undef,undef,undef,undef],defers:=[] }) (fun x a' _ X Y row hs hg hr=>by obtain ⟨Bx,h1,⟨h2,h3,h4⟩,h5⟩:=hs;exact ⟨Bx,h1,⟨cell_kept h2 hg (fun r e=>(hr r e).2),cell_kept h3 hg (fun r e=>(hr r e).2),cell_kept h4 hg (fun r e=>(hr r e).2)⟩,h5⟩) ?assign ?body ?done ?stop
 case assign =>
  rintro lp pre x W K ⟨⟨⟨⟨bT,bW⟩,bR,bE⟩,bF⟩,hN,hBW,hB⟩ hK
  have hN':=Lib.hid hN
  clear hN
  gi_wp2
  exact hK _ _ ((KeepsOthers.alloc _ _).from _) ((Below.refl _ W).alloc hBW _) ⟨⟨⟨⟨bT.alloc _,bW.alloc _⟩,bR.alloc _,bE.alloc _⟩,bF.alloc _⟩,hN'.out,by simp;omega,Below.alloc hB hB.size _⟩ ⟨W.heap.size,bF.lt,⟨by simp,by simp,by simp⟩,rfl⟩
 case body =>
  rintro lp pre x a' W hl' _ ⟨⟨⟨⟨bT,bW⟩,bR,bE⟩,bF⟩,hN,hBW,hB⟩ ⟨Bx,hBx,⟨x0,x1,x2⟩,rfl⟩ hlt
  have hN':=Lib.hid hN
  clear hN
  have cF:=bF.cell
  rw [← hFv.out] at cF
  have hFind:=Lib.hid (items_Find1 x.2 tag write w.heap.size (w.heap.size+1) W bT.cell bW.cell)
  unfold Item.val at hFind
  cases hg : grants tag write x.2
  all_goals
   have hG:=Lib.hid hg
   clear hg
   gi_wp2_with (refine ⟨trivial,?_⟩;gi_at_call 100;refine (CallsIn.inRound lp (callsIn_wide.2 hFind.out)).mono ?_;rintro e W1 ⟨rfl,hE1⟩;rw [hG.out];have bR1:=boxedExt bR hE1;have bE1:=boxedExt bE hE1;have cR:=bR1.cell;have fR:=bR1.frozen;have cE:=bE1.cell;have fE:=bE1.frozen)
  ·exact ⟨(KeepsOthers.of_ext hE1).from _,Below.mono hE1 hBW,⟨⟨⟨boxedExt bT hE1,boxedExt bW hE1⟩,bR1,bE1⟩,boxedExt bF hE1⟩,fun y hy=>(List.mem_append.1 hy).elim (hN'.out y) (fun e=>by simp at e;subst e;exact hG.out),Nat.le_trans hBW hE1.size,Ext.below hB hB.size hE1⟩
  ·refine ⟨(((KeepsOthers.of_ext hE1).trans (KeepsOthers.setCell _ _ _)).trans (KeepsOthers.setCell _ _ _)).from _,⟨rfl,pre,x,rfl,hN'.out,hG.out,?_,?_⟩,?_⟩
   ·exact ((bR1.set (.int .i64 (x.1 : Int))).other (B':=w.heap.size+1+1+1) (by omega) (.int .i64 0)).cell
   ·exact ((bE1.other (B':=w.heap.size+1+1) (by omega) (.int .i64 (x.1 : Int))).set (.int .i64 0)).cell
   ·exact Below.setCell (Below.setCell (Ext.below hB hB.size hE1) (by simp;omega) _) (by simp;omega) _
 case done =>
  rintro D ys W hD rfl ⟨⟨⟨⟨bT,bW⟩,bR,bE⟩,bF⟩,hN,hBW,hB⟩ hK
  have hF:=Lib.hid (find_none hN)
  clear hN
  have cR:=bR.cell;have fR:=bR.frozen;have cE:=bE.cell;have fE:=bE.frozen
  gi_wp2
  have bR2:=(bR.set (.int .i64 0)).other (B':=w.heap.size+1+1+1) (by omega) (.int .i64 6)
  have bE2:=(bE.other (B':=w.heap.size+1+1) (by omega) (.int .i64 0)).set (.int .i64 6)
  have hB2:=Below.setCell (Below.setCell hB (p:=⟨w.heap.size+1+1,0,none⟩) (by simp;omega) (.int .i64 0)) (p:=⟨w.heap.size+1+1+1,0,none⟩) (by simp;omega) (.int .i64 6)
  have hK':=((KeepsOthers.setCell W ⟨w.heap.size+1+1,0,none⟩ (.int .i64 0)).trans (KeepsOthers.setCell _ ⟨w.heap.size+1+1+1,0,none⟩ (.int .i64 6))).same D _ hK rfl
  refine ⟨by simp,.inl ⟨_,_,rfl,run_takeDeferred hK',?_⟩⟩
  have hc5:=cell_kept bR2.cell (grownBy_putObj' _ D (.deferred none)) (fun r e=>by cases e;exact ⟨_,hK',rfl⟩)
  have hc6:=cell_kept bE2.cell (grownBy_putObj' _ D (.deferred none)) (fun r e=>by cases e;exact ⟨_,hK',rfl⟩)
  refine ⟨.tuple #[.int .i64 0,.int .i64 6],?_,by simp [findIx,findErr,hk,hF.out],hB2.trans (belowK_b (w:=w) (Nat.le_refl _) _ D _ _ (by have:=hE8.size;omega) hK' rfl rfl)⟩
  simp [results,Tryz.f92,go_sem,hc5,hc6]
 case stop =>
  rintro D c pre W hD ⟨k,hk',rfl⟩ ⟨⟨rfl,ini,last,e1,e2,e3,c5,c6⟩,hB⟩ hK
  obtain ⟨k',rfl⟩ : ∃ k',k=k'+1:=by
   cases k with
   | zero=>simp [upto] at e1
   | succ k'=>exact ⟨k',rfl⟩
  rw [upto_succ] at e1
  obtain ⟨rfl,e5⟩:=List.append_inj' e1 rfl
  obtain rfl : back l k'=last:=by simpa using e5
  have hF:=Lib.hid (find_some (by omega) e2 e3)
  clear e1 e2 e3 e5
  gi_wp2
  refine ⟨by simp,.inl ⟨_,_,rfl,run_takeDeferred hK,?_⟩⟩
  have hc5:=cell_kept c5 (grownBy_putObj' _ D (.deferred none)) (fun r e=>by cases e;exact ⟨_,hK,rfl⟩)
  have hc6:=cell_kept c6 (grownBy_putObj' _ D (.deferred none)) (fun r e=>by cases e;exact ⟨_,hK,rfl⟩)
  refine ⟨.tuple #[.int .i64 ((l.length - 1 - k' : Nat) : Int),.int .i64 0],?_,by simp [findIx,findErr,hk,hF.out],hB.trans (belowK_b (w:=w) (Nat.le_refl _) _ D _ _ (by have:=hE8.size;omega) hK rfl rfl)⟩
  simp [results,Tryz.f92,go_sem,hc5,hc6,back]
set_option maxHeartbeats 400000 in
theorem items_Find {l : List Item} {v : Value} {w : World} (tag : Int) (write : Bool) (hl : Its w v l) :
  Calls Tryz.prog 92 #[v,.int .i64 tag,.bool write] w fun e w'=>e = .returned (.tuple #[.int .i64 (findIx l tag write),.int .i64 (findErr l tag write)])∧Ext w w':=by
 obtain ⟨a,cp,rfl,-⟩:=hl.form
 by_cases hk : okS l=true
 ·exact (callsIn_wide (n:=10)).1 (items_Find_in l a cp tag write w hl hk)
 ·have hE4:=((((Ext.refl w).alloc (.cells #[.int .i64 tag] 3)).alloc (.cells #[.bool write] 4)).alloc (.cells #[.int .i64 0] 3)).alloc (.cells #[.int .i64 0] 40)
  have hC:=Lib.hid (items_Check (hl.ext hE4))
  have h8 : Hid (chk l=8):=Hid.mk (by simp [chk,hk])
  have hF : Hid (findIx l tag write=0∧findErr l tag write=8):=Hid.mk (by simp [findIx,findErr,hk])
  have bR:=(Boxed.new ((w.alloc (.cells #[.int .i64 tag] 3)).alloc (.cells #[.bool write] 4)) 3 (.int .i64 0)).alloc (.cells #[.int .i64 0] 40)
  have bE:=Boxed.new (((w.alloc (.cells #[.int .i64 tag] 3)).alloc (.cells #[.bool write] 4)).alloc (.cells #[.int .i64 0] 3)) 40 (.int .i64 0)
  simp only [World.size_alloc] at bR bE
  clear hk hl
  go_enter Tryz.func92,Tryz.ntmps92
  go_wp2_with (go_at_call 75;refine hC.out.mono ?_;rintro e w5 ⟨rfl,hE5⟩;rw [h8.out];have bR1:=boxedExt bR hE5;have bE1:=boxedExt bE hE5;have cR:=bR1.cell;have fR:=bR1.frozen;have cE:=bE1.cell;have fE:=bE1.frozen)
  have bR2:=(bR1.set (.int .i64 0)).other (B':=w.heap.size+1+1+1) (by omega) (.int .i64 8)
  have bE2:=(bE1.other (B':=w.heap.size+1+1) (by omega) (.int .i64 0)).set (.int .i64 8)
  have hB2:=Below.setCell (Below.setCell (hE4.trans hE5) (p:=⟨w.heap.size+1+1,0,none⟩) (by simp;omega) (.int .i64 0)) (p:=⟨w.heap.size+1+1+1,0,none⟩) (by simp;omega) (.int .i64 8)
  refine bodyPost_ret (v := .tuple #[.int .i64 0,.int .i64 8]) (by simp [results,Tryz.f92,go_sem,bR2.cell,bE2.cell]) rfl ⟨by rw [hF.out.1,hF.out.2],hB2⟩
end Go.Proofs.YtoanoodfacmieaaGreatDoor
