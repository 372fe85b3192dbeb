/- Several texts in one: ReadM, GrdA, GrdB, ItemsA, ItemsB, ItemsC, ItemsD, GrdC, GrdD, GrdE, ItemsE, ItemsG, ItemsF, AccA, AccE, Foot, GraA, AccB, AccC, AccD, ItemsP, GraB, GraC, GraD, GrdG, StkA. -/
import Derived.Test.YtnplphcnagooeaaQ01
import Derived.Test.YtnplphcnagooeaaProg
import Derived.BigQuiet
import Derived.Deep.QuietTactic
import Derived.Deep.RegionHeld3
import Derived.Deep.DeepMust
import Derived.Deep.RegionLaw
import Derived.RangeFuncNested
import Derived.RangeFuncBound
import Derived.RangeFuncCalls
import Derived.RangeFuncLeaves
import Derived.RangeFuncBox
import Derived.Shelf.Abstract
import Derived.Shelf.RegionOpen
import Derived.OwnWalkIn
import Derived.TacticsInMore
import Derived.LoopNIn
import Derived.LoopIn
import Derived.Laws.EntriesVeiled
/- How the arguments of a statement read: pointers, cells, memories. -/
namespace Go.Proofs.Ytnplphcnagooeaa
set_option maxRecDepth 100000
open Go.ChangeShapes Go.WideShapes Go.ChangeAt Go.RowKit
theorem All2.tab {α : Type} {row : Value→α→List Value} {Q : Value→α→Prop} : ∀ {rows : List (List Value)} {l : List α},All2 (fun cs a => ∃ s,cs=row s a∧Q s a) rows l → ∃ vs,All2 Q vs l∧rows.flatten=trows row vs l
 | [],[],_=>⟨[],trivial,rfl⟩
 | r :: rows,a :: l,h=>by
  obtain ⟨vs,h1,h2⟩:=All2.tab h.2
  obtain ⟨s,rfl,hq⟩:=h.1
  exact ⟨s :: vs,⟨hq,h1⟩,by rw [List.flatten_cons,h2];simp [trows]⟩
section
variable {H : Type} {enc : TypeId × Value→H} {w : World} {base : Nat} {spare : Nat→Bool} {held : Bool}
def Ptr.row (p : Ptr) : List Value:=[.int .i64 p.a,.int .i64 p.o,.int .i64 p.t]
def Ptr.wf (p : Ptr) : Prop:=i64B p.a∧i64B p.o∧i64B p.t
theorem read_ptr (n : Nat) (cs : List Value) (x : DataW H × List MemPlace) (hl : cs.length=3) (h : DataW.trod enc Try.prog w base spare held n 32 cs=some x) : ∃ a : Ptr,cs=a.row∧a.wf:=by
 have c64 : Try.prog.cellsOf 3=1:=by kernel_rfl
 obtain ⟨xs,m,rfl,rfl,_,hx,hf⟩:=DataW.trod_struct Try.underlying32 h
 match cs,hl with
 | [c0,c1,c2],_ =>
  have f0 : DataW.trod enc Try.prog w base spare held m 3 (([c0,c1,c2].drop 0).take (Try.prog.cellsOf 3))=xs[0]? := hf 0 _ rfl
  have f1 : DataW.trod enc Try.prog w base spare held m 3 (([c0,c1,c2].drop 1).take (Try.prog.cellsOf 3))=xs[1]? := hf 1 _ rfl
  have f2 : DataW.trod enc Try.prog w base spare held m 3 (([c0,c1,c2].drop 2).take (Try.prog.cellsOf 3))=xs[2]? := hf 2 _ rfl
  rw [c64] at f0 f1 f2
  match xs,hx with
  | [y0,y1,y2],_ =>
   obtain ⟨p,e0,_,w0⟩:=DataW.trod_int Try.underlying3 f0
   obtain ⟨t,e1,_,w1⟩:=DataW.trod_int Try.underlying3 f1
   obtain ⟨c,e2,_,w2⟩:=DataW.trod_int Try.underlying3 f2
   simp at e0 e1 e2
   subst e0 e1 e2
   refine ⟨⟨p,t,c⟩,rfl,?_,?_,?_⟩
   ·simpa [Lit.wf,IntKind.min,IntKind.max,IntKind.signed,IntKind.bits,i64B] using w0
   ·simpa [Lit.wf,IntKind.min,IntKind.max,IntKind.signed,IntKind.bits,i64B] using w1
   ·simpa [Lit.wf,IntKind.min,IntKind.max,IntKind.signed,IntKind.bits,i64B] using w2
def Cell.wf (c : Cell) : Prop:=(0≤c.k∧c.k≤255)∧i64B c.n∧i64B c.a∧i64B c.o∧i64B c.t
theorem read_cell (n : Nat) (cs : List Value) (x : DataW H × List MemPlace) (hl : cs.length=5) (h : DataW.trod enc Try.prog w base spare held n 111 cs=some x) : ∃ a : Cell,cs=a.row∧a.wf:=by
 have c8 : Try.prog.cellsOf 5=1:=by kernel_rfl
 have c64 : Try.prog.cellsOf 2=1:=by kernel_rfl
 have cP : Try.prog.cellsOf 32=3:=by kernel_rfl
 obtain ⟨xs,m,rfl,rfl,_,hx,hf⟩:=DataW.trod_struct Try.underlying111 h
 match cs,hl with
 | [c0,c1,c2,c3,c4],_ =>
  have f0 : DataW.trod enc Try.prog w base spare held m 5 (([c0,c1,c2,c3,c4].drop 0).take (Try.prog.cellsOf 5))=xs[0]? := hf 0 _ rfl
  have f1 : DataW.trod enc Try.prog w base spare held m 2 (([c0,c1,c2,c3,c4].drop 1).take (Try.prog.cellsOf 2))=xs[1]? := hf 1 _ rfl
  have f2 : DataW.trod enc Try.prog w base spare held m 32 (([c0,c1,c2,c3,c4].drop 2).take (Try.prog.cellsOf 32))=xs[2]? := hf 2 _ rfl
  rw [c8] at f0
  rw [c64] at f1
  rw [cP] at f2
  match xs,hx with
  | [y0,y1,y2],_ =>
   obtain ⟨p,e0,_,w0⟩:=DataW.trod_int Try.underlying5 f0
   obtain ⟨t,e1,_,w1⟩:=DataW.trod_int Try.underlying2 f1
   obtain ⟨q,e2,w2⟩:=read_ptr m _ _ (by simp) f2
   simp [Ptr.row] at e0 e1 e2
   obtain ⟨e2,e3,e4⟩:=e2
   subst e0 e1 e2 e3 e4
   refine ⟨⟨p,t,q.a,q.o,q.t⟩,rfl,?_,?_,w2⟩
   ·simpa [Lit.wf,IntKind.min,IntKind.max,IntKind.signed,IntKind.bits] using w0
   ·simpa [Lit.wf,IntKind.min,IntKind.max,IntKind.signed,IntKind.bits,i64B] using w1
theorem rows_of_cells : ∀ {rows : List (List Value)} {l : List Cell},All2 (fun cs (a : Cell)=>cs=a.row∧a.wf) rows l→rows.flatten=l.flatMap Cell.row ∧ ∀ a ∈ l,a.wf
 | [],[],_=>⟨rfl,fun _ h=>by cases h⟩
 | r :: rows,a :: l,h=>by
  obtain ⟨h1,h2⟩:=rows_of_cells h.2
  refine ⟨by rw [List.flatten_cons,List.flatMap_cons,h1,h.1.1],fun b hb => ?_⟩
  rcases List.mem_cons.1 hb with rfl | hb
  ·exact h.1.2
  ·exact h2 b hb
theorem read_cells {t : Nat} (ht : Try.prog.underlying t=some (.slice 111)) {n : Nat} {cs : List Value} {x : DataW H × List MemPlace} (h : DataW.trod enc Try.prog w base spare held n t cs=some x) :
  ∃ (v : Value) (l : List Cell),cs=[v]∧Cls w v l ∧ ∀ a ∈ l,a.wf:=by
 obtain ⟨v,rows,l,rfl,hs,_,ha⟩:=read_slice (k:=5) ht (by kernel_rfl) (by omega) (fun cs (a : Cell)=>cs=a.row∧a.wf) (fun n cs x hl h=>read_cell n cs x hl h) h
 obtain ⟨e,hw⟩:=rows_of_cells ha
 refine ⟨v,l,rfl,?_,hw⟩
 unfold Cls
 rw [← e,← ha.length]
 exact hs
def Alloc.wf (a : Alloc) : Prop:=i64B a.num ∧ ∀ c ∈ a.cells,c.wf
theorem read_alloc (n : Nat) (cs : List Value) (x : DataW H × List MemPlace) (hl : cs.length=3) (h : DataW.trod enc Try.prog w base spare held n 78 cs=some x) : ∃ a : Alloc,∃ s,cs=arow s a∧Cls w s a.cells∧a.wf:=by
 have c64 : Try.prog.cellsOf 3=1:=by kernel_rfl
 have cB : Try.prog.cellsOf 4=1:=by kernel_rfl
 have cS : Try.prog.cellsOf 76=1:=by kernel_rfl
 obtain ⟨xs,m,rfl,rfl,_,hx,hf⟩:=DataW.trod_struct Try.underlying78 h
 match cs,hl with
 | [c0,c1,c2],_ =>
  have f0 : DataW.trod enc Try.prog w base spare held m 3 (([c0,c1,c2].drop 0).take (Try.prog.cellsOf 3))=xs[0]? := hf 0 _ rfl
  have f1 : DataW.trod enc Try.prog w base spare held m 4 (([c0,c1,c2].drop 1).take (Try.prog.cellsOf 4))=xs[1]? := hf 1 _ rfl
  have f2 : DataW.trod enc Try.prog w base spare held m 76 (([c0,c1,c2].drop 2).take (Try.prog.cellsOf 76))=xs[2]? := hf 2 _ rfl
  rw [c64] at f0
  rw [cB] at f1
  rw [cS] at f2
  match xs,hx with
  | [y0,y1,y2],_ =>
   obtain ⟨p,e0,_,w0⟩:=DataW.trod_int Try.underlying3 f0
   obtain ⟨t,e1,_⟩:=DataW.trod_bool Try.underlying4 f1
   obtain ⟨q,l,e2,hc,w2⟩:=read_cells Try.underlying76 f2
   simp at e0 e1 e2
   subst e0 e1 e2
   refine ⟨⟨p,t,l⟩,c2,rfl,hc,?_,w2⟩
   simpa [Lit.wf,IntKind.min,IntKind.max,IntKind.signed,IntKind.bits,i64B] using w0
theorem read_allocs {t : Nat} (ht : Try.prog.underlying t=some (.slice 78)) {n : Nat} {cs : List Value} {x : DataW H × List MemPlace} (h : DataW.trod enc Try.prog w base spare held n t cs=some x) :
  ∃ (v : Value) (l : List Alloc),cs=[v]∧Als w v l ∧ ∀ a ∈ l,a.wf:=by
 obtain ⟨v,rows,l,rfl,hs,_,ha⟩:=read_slice (k:=3) ht (by kernel_rfl) (by omega) (fun cs (a : Alloc) => ∃ s,cs=arow s a∧Cls w s a.cells∧a.wf) (fun n cs x hl h=>read_alloc n cs x hl h) h
 obtain ⟨vs,h1,h2⟩:=ha.tab
 refine ⟨v,l,rfl,⟨vs,h1.mono fun _ _ h=>h.1,?_⟩,fun a hm => ?_⟩
 ·rw [← h2,← ha.length]
  exact hs
 ·obtain ⟨i,hi⟩:=List.mem_iff_getElem?.1 hm
  obtain ⟨s,_,_,hw⟩:=h1.get hi
  exact hw
def Mem.wf (m : Mem) : Prop:=i64B m.next ∧ ∀ a ∈ m.al,a.wf
theorem read_mem (n : Nat) (cs : List Value) (x : DataW H × List MemPlace) (hl : cs.length=2) (h : DataW.trod enc Try.prog w base spare held n 24 cs=some x) : ∃ (m : Mem) (s : Value),cs=[s,.int .i64 m.next]∧Als w s m.al∧m.wf:=by
 have c64 : Try.prog.cellsOf 3=1:=by kernel_rfl
 have cS : Try.prog.cellsOf 22=1:=by kernel_rfl
 obtain ⟨xs,m,rfl,rfl,_,hx,hf⟩:=DataW.trod_struct Try.underlying24 h
 match cs,hl with
 | [c0,c1],_ =>
  have f0 : DataW.trod enc Try.prog w base spare held m 22 (([c0,c1].drop 0).take (Try.prog.cellsOf 22))=xs[0]? := hf 0 _ rfl
  have f1 : DataW.trod enc Try.prog w base spare held m 3 (([c0,c1].drop 1).take (Try.prog.cellsOf 3))=xs[1]? := hf 1 _ rfl
  rw [cS] at f0
  rw [c64] at f1
  match xs,hx with
  | [y0,y1],_ =>
   obtain ⟨s,l,e0,hl,wl⟩:=read_allocs Try.underlying22 f0
   obtain ⟨p,e1,_,w1⟩:=DataW.trod_int Try.underlying3 f1
   simp at e0 e1
   subst e0 e1
   refine ⟨⟨l,p⟩,c0,rfl,hl,?_,wl⟩
   simpa [Lit.wf,IntKind.min,IntKind.max,IntKind.signed,IntKind.bits,i64B] using w1
end
end Go.Proofs.Ytnplphcnagooeaa

/- Running calls: what a slice of numbers reads aas, and what the functions of layer 31 on calls compute; no program in sight. -/
namespace Go.Proofs.Ytnplphcnagooeaa
set_option maxRecDepth 100000
open Go.RowKit
def irow (n : Int) : List Value:=[.int .i64 n]
theorem irow_len (n : Int) : (irow n).length=1:=rfl
def Nts (w : World) (v : Value) (l : List Int) : Prop:=Sl w 1 v l.length (l.flatMap irow)
theorem Nts.ext {w w' : World} {v : Value} {l : List Int} (h : Nts w v l) (he : Ext w w') : Nts w' v l:=Sl.ext h he
theorem Nts.nil (w : World) : Nts w (.slice none 0 0) []:=Sl.nil w 1
theorem Nts.form {w : World} {v : Value} {l : List Int} (h : Nts w v l) : ∃ a cap,v = .slice a l.length cap∧l.length≤cap∧cap≤maxLen∧(a=none→cap=0):=Sl.slice_form h
theorem Nts.cell {w : World} {a : Option Addr} {n cap : Nat} {l : List Int} (h : Nts w (.slice a n cap) l) {i : Nat} {x : Int} (hx : l[i]? = some x) : ∃ b off,a=some ⟨b,off,none⟩∧b < w.heap.size∧w.cell? ⟨b,off+i,none⟩=some (.int .i64 x):=by
 have hi : i < l.length:=(List.getElem?_eq_some_iff.1 hx).1
 obtain ⟨b,off,rfl,hb,hc⟩:=Sl.at h (by omega) (by omega : 0 < l.length)
 refine ⟨b,off,rfl,hb,?_⟩
 have:=hc (i * 1+0) _ ((rows_get irow irow_len l i 0 x hx (by omega)).trans rfl)
 simpa using this
theorem Nts.one (l : List Int) : ∀ u ∈ l.flatMap irow,u.oneCell'=true:=by
 intro u hu
 obtain ⟨x,_,hx⟩:=List.mem_flatMap.1 hu
 simp only [irow,List.mem_cons,List.not_mem_nil,or_false] at hx
 subst hx
 rfl
theorem Nts.take {w : World} {a : Option Addr} {n cap : Nat} {l : List Int} (h : Nts w (.slice a n cap) l) (i : Nat) (hi : i≤l.length) : Nts w (.slice a i cap) (l.take i):=by
 have:=Sl.take h i hi
 rw [rows_take irow irow_len] at this
 unfold Nts
 rw [List.length_take,Nat.min_eq_left hi]
 exact this
def okFrom : Int→List Int→Bool
 | _,[]=>true
 | last,n :: l=>decide (last < n) && decide (n≤1000000) && okFrom n l
def okR (l : List Int) : Bool:=decide (l.length≤32) && okFrom 0 l
def runErr (l : List Int) : Int:=if okR l then 0 else 8
theorem okFrom_drop {last : Int} {l : List Int} {k : Nat} {x : Int} (hx : l[k]? = some x) : okFrom last (l.drop k)=(decide (last < x) && decide (x≤1000000) && okFrom x (l.drop (k+1))):=by
 obtain ⟨hk,rfl⟩:=List.getElem?_eq_some_iff.1 hx
 rw [List.drop_eq_getElem_cons hk]
 rfl
theorem okFrom_all {last : Int} {l : List Int} (h : okFrom last l=true) : ∀ n ∈ l,last < n∧n≤1000000:=by
 induction l generalizing last with
 | nil=>intro n hn;cases hn
 | cons x l ih =>
  simp only [okFrom,Bool.and_eq_true,decide_eq_true_eq] at h
  intro n hn
  rcases List.mem_cons.1 hn with rfl | hn
  ·omega
  ·have:=ih h.2 n hn;omega
theorem okFrom_lt {last : Int} {l : List Int} (h : okFrom last l=true) {i j : Nat} {x y : Int} (hij : i < j) (hx : l[i]? = some x) (hy : l[j]? = some y) : x < y:=by
 induction l generalizing last i j with
 | nil=>simp at hx
 | cons z l ih =>
  simp only [okFrom,Bool.and_eq_true,decide_eq_true_eq] at h
  cases j with
  | zero=>omega
  | succ j =>
   cases i with
   | zero =>
    simp only [List.getElem?_cons_zero,Option.some.injEq] at hx
    subst hx
    exact (okFrom_all h.2 y (List.mem_of_getElem? (by simpa using hy))).1
   | succ i=>exact ih (i:=i) (j:=j) h.2 (by omega) (by simpa using hx) (by simpa using hy)
def lastR (l : List Int) : Int:=l.getLastD 0
def enterR (l : List Int) (call : Int) : List Int × Int :=
 if okR l then if call≤lastR l∨1000000 < call then ([],2) else if l.length=32 then ([],18) else (l ++ [call],0) else ([],8)
def leaveR (l : List Int) : List Int × Int:=if okR l then if l.length=0 then ([],6) else (l.take (l.length - 1),0) else ([],8)
def hasR (run : List Int) (t : Int) : Bool:=run.contains t
def RetIB (b : Bool) (w : World) (e : Ending) (w' : World) : Prop := ∃ i : Int,e = .returned (.tuple #[.int .i64 i,.bool b])∧w=w'
def heldBy (run : List Int) (x : Item) : Bool:=hasR run x.c
theorem lastR_get {l : List Int} {x : Int} (hx : l[l.length - 1]? = some x) : lastR l=x:=by
 unfold lastR
 rw [List.getLastD_eq_getLast?,List.getLast?_eq_getElem?,hx]
 rfl
theorem lastR_nil : lastR []=0:=rfl
theorem runErr_ok {l : List Int} (h : okR l=true) : runErr l=0:=by simp [runErr,h]
theorem runErr_bad {l : List Int} (h : okR l=false) : runErr l=8:=by simp [runErr,h]
theorem okR_len {l : List Int} (h : okR l=true) : l.length≤32:=by
 unfold okR at h
 simp only [Bool.and_eq_true,decide_eq_true_eq] at h
 exact h.1
theorem okR_from {l : List Int} (h : okR l=true) : okFrom 0 l=true:=by
 unfold okR at h
 simp only [Bool.and_eq_true] at h
 exact h.2
end Go.Proofs.Ytnplphcnagooeaa

/- Contracts: the tests of running calls, the search in them, and what compares them. -/
namespace Go.Proofs.Ytnplphcnagooeaa
set_option maxRecDepth 100000
open Go.RowKit
set_option maxHeartbeats 800000 in
theorem guard_Check {l : List Int} {v : Value} {w : World} (hl : Nts w v l) : Calls Try.prog 33 #[v] w fun e w'=>e = .returned (.int .i64 (runErr l))∧w=w':=by
 obtain ⟨a,cp,rfl,hlc,hcm,-⟩:=hl.form
 unfold maxLen at hcm
 have hL:=Lib.hid hl
 clear hl
 by_cases h6 : l.length≤32
 ·have hd : decide ((32 : Int) < (l.length : Int))=false:=decide_eq_false (by omega)
  go_enter Try.func33,Try.ntmps33
  go_wp2
  go_loop [3,11] (fun lv iv => ∃ (k : Nat) (last : Int),k≤l.length∧iv = .int .i64 k∧lv = .int .i64 last∧Hid (okFrom 0 l=okFrom last (l.drop k))) (fun _ iv=>l.length - (intOf iv).toNat)
  case atStart=>exact ⟨0,0,Nat.zero_le _,rfl,rfl,by simp [Hid]⟩
  case round =>
   obtain ⟨k,last,hk,rfl,rfl,hN⟩:=hrel
   by_cases hlt : k < l.length
   ·obtain ⟨x,hx⟩ : ∃ x,l[k]? = some x:=⟨l[k],by simp [hlt]⟩
    obtain ⟨b,off,rfl,hb,c0⟩:=hL.out.cell hx
    have hst:=Lib.hid (hN.out.trans (okFrom_drop hx))
    clear hx
    by_cases g1 : x≤last
    ·have q1 : decide (x≤last)=true:=decide_eq_true g1
     have hr : Hid (runErr l=8):=Hid.mk (runErr_bad (by rw [okR,hst.out];simp;omega))
     go_wp2
     go_ret
     exact ⟨by rw [hr.out];rfl,rfl⟩
    ·have q1 : decide (x≤last)=false:=decide_eq_false g1
     by_cases g2 : 1000000 < x
     ·have q2 : decide (1000000 < x)=true:=decide_eq_true g2
      have hr : Hid (runErr l=8):=Hid.mk (runErr_bad (by rw [okR,hst.out];simp;omega))
      go_wp2
      go_ret
      exact ⟨by rw [hr.out];rfl,rfl⟩
     ·have q2 : decide (1000000 < x)=false:=decide_eq_false g2
      have hst2 : Hid (okFrom 0 l=okFrom x (l.drop (k+1))):=Hid.mk (by rw [hst.out,decide_eq_true (by omega),decide_eq_true (by omega)];rfl)
      go_wp2
      go_round
      case rel=>exact ⟨k+1,x,by omega,by go_num,rfl,hst2.out⟩
      case measure=>simp [intOf];omega
   ·have hkl : k=l.length:=by omega
    subst hkl
    have hr : Hid (runErr l=0):=Hid.mk (runErr_ok (by rw [okR,hN.out,List.drop_length];simp [okFrom,h6]))
    go_wp2
    go_ret
    exact ⟨by rw [hr.out];rfl,rfl⟩
 ·have hd : decide ((32 : Int) < (l.length : Int))=true:=decide_eq_true (by omega)
  have hr : Hid (runErr l=8):=Hid.mk (runErr_bad (by rw [okR];simp;omega))
  go_enter Try.func33,Try.ntmps33
  go_wp2
  go_ret
  exact ⟨by rw [hr.out];rfl,rfl⟩
set_option maxHeartbeats 800000 in
theorem ref31_Check {l : List Int} {v : Value} {w : World} (hl : Nts w v l) : Calls Try.prog 37 #[v] w fun e w'=>e = .returned (.int .i64 (runErr l))∧w=w':=by
 obtain ⟨a,cp,rfl,hlc,hcm,-⟩:=hl.form
 unfold maxLen at hcm
 have hL:=Lib.hid hl
 clear hl
 by_cases h6 : l.length≤32
 ·have hd : decide ((32 : Int) < (l.length : Int))=false:=decide_eq_false (by omega)
  go_enter Try.func37,Try.ntmps37
  go_wp2
  go_loop [3,4] (fun lv iv => ∃ (k : Nat) (last : Int),k≤l.length∧iv = .int .i64 k∧lv = .int .i64 last∧Hid (okFrom 0 l=okFrom last (l.drop k))) (fun _ iv=>l.length - (intOf iv).toNat)
  case atStart=>exact ⟨0,0,Nat.zero_le _,rfl,rfl,by simp [Hid]⟩
  case round =>
   obtain ⟨k,last,hk,rfl,rfl,hN⟩:=hrel
   by_cases hlt : k < l.length
   ·obtain ⟨x,hx⟩ : ∃ x,l[k]? = some x:=⟨l[k],by simp [hlt]⟩
    obtain ⟨b,off,rfl,hb,c0⟩:=hL.out.cell hx
    have hst:=Lib.hid (hN.out.trans (okFrom_drop hx))
    clear hx
    by_cases g1 : x≤last
    ·have q1 : decide (x≤last)=true:=decide_eq_true g1
     have hr : Hid (runErr l=8):=Hid.mk (runErr_bad (by rw [okR,hst.out];simp;omega))
     go_wp2
     go_ret
     exact ⟨by rw [hr.out];rfl,rfl⟩
    ·have q1 : decide (x≤last)=false:=decide_eq_false g1
     by_cases g2 : 1000000 < x
     ·have q2 : decide (1000000 < x)=true:=decide_eq_true g2
      have hr : Hid (runErr l=8):=Hid.mk (runErr_bad (by rw [okR,hst.out];simp;omega))
      go_wp2
      go_ret
      exact ⟨by rw [hr.out];rfl,rfl⟩
     ·have q2 : decide (1000000 < x)=false:=decide_eq_false g2
      have hst2 : Hid (okFrom 0 l=okFrom x (l.drop (k+1))):=Hid.mk (by rw [hst.out,decide_eq_true (by omega),decide_eq_true (by omega)];rfl)
      go_wp2
      go_round
      case rel=>exact ⟨k+1,x,by omega,by go_num,rfl,hst2.out⟩
      case measure=>simp [intOf];omega
   ·have hkl : k=l.length:=by omega
    subst hkl
    have hr : Hid (runErr l=0):=Hid.mk (runErr_ok (by rw [okR,hN.out,List.drop_length];simp [okFrom,h6]))
    go_wp2
    go_ret
    exact ⟨by rw [hr.out];rfl,rfl⟩
 ·have hd : decide ((32 : Int) < (l.length : Int))=true:=decide_eq_true (by omega)
  have hr : Hid (runErr l=8):=Hid.mk (runErr_bad (by rw [okR];simp;omega))
  go_enter Try.func37,Try.ntmps37
  go_wp2
  go_ret
  exact ⟨by rw [hr.out];rfl,rfl⟩
theorem cmp_isNaN (n : Int) (w : World) : Calls Try.prog 95 #[.int .i64 n] w fun e w'=>e = .returned (.bool false)∧w=w':=by
 go_enter Try.func95,Try.ntmps95
 go_wp2
 go_ret
 exact ⟨rfl,rfl⟩
theorem slices_isNaN (n : Int) (w : World) : Calls Try.prog 94 #[.int .i64 n] w fun e w'=>e = .returned (.bool false)∧w=w':=by
 go_enter Try.func94,Try.ntmps94
 go_wp2
 go_ret
 exact ⟨rfl,rfl⟩
theorem cmp_Less (n m : Int) (w : World) : Calls Try.prog 93 #[.int .i64 n,.int .i64 m] w fun e w'=>e = .returned (.bool (decide (n < m)))∧w=w':=by
 go_enter Try.func93,Try.ntmps93
 go_wp2_with fail
 refine (cmp_isNaN _ _).mono ?_
 rintro e w' ⟨rfl,rfl⟩
 go_wp2
 go_ret
 exact ⟨rfl,rfl⟩
set_option maxHeartbeats 800000 in
theorem ref31_Runs {l : List Int} {v : Value} {w : World} (t : Int) (hl : Nts w v l) : Calls Try.prog 89 #[v,.int .i64 t] w fun e w'=>e = .returned (.bool (hasR l t))∧w=w':=by
 obtain ⟨a,cp,rfl,hlc,hcm,-⟩:=hl.form
 unfold maxLen at hcm
 have hL:=Lib.hid hl
 clear hl
 go_enter Try.func89,Try.ntmps89
 go_wp2
 go_loop [5] (fun iv => ∃ k : Nat,k≤l.length∧iv = .int .i64 k∧Hid ((l.take k).contains t=false)) (fun iv=>l.length - (intOf iv).toNat)
 case atStart=>exact ⟨0,Nat.zero_le _,rfl,by simp [Hid]⟩
 case round =>
  obtain ⟨k,hk,rfl,hN⟩:=hrel
  by_cases hlt : k < l.length
  ·obtain ⟨x,hx⟩ : ∃ x,l[k]? = some x:=⟨l[k],by simp [hlt]⟩
   obtain ⟨b,off,rfl,hb,c0⟩:=hL.out.cell hx
   have hX:=Lib.hid hx
   clear hx
   cases hxt : x == t
   ·have hN2 : Hid ((l.take (k+1)).contains t=false):=Hid.mk (by
     rw [List.take_add_one,hX.out]
     have h1:=hN.out
     simp only [List.contains_eq_mem,decide_eq_false_iff_not] at h1 ⊢
     simp only [Option.toList_some,List.mem_append,List.mem_singleton,not_or]
     exact ⟨h1,fun e=>by rw [e] at hxt;simp at hxt⟩)
    go_wp2
    go_round
    case rel=>exact ⟨k+1,by omega,by go_num,hN2.out⟩
    case measure=>simp [intOf];omega
   ·have hr : Hid (hasR l t=true):=Hid.mk (by
     rw [hasR]
     have h1:=List.mem_of_getElem? hX.out
     have h2 : x=t:=by simpa using hxt
     subst h2
     simpa using h1)
    go_wp2
    go_ret
    exact ⟨by rw [hr.out];rfl,rfl⟩
  ·have hkl : k=l.length:=by omega
   subst hkl
   have hN':=hN.out
   rw [List.take_length] at hN'
   have hN2 : Hid (hasR l t=false):=Hid.mk hN'
   clear hN'
   go_wp2
   go_ret
   exact ⟨by rw [hN2.out];rfl,rfl⟩
set_option maxHeartbeats 800000 in
theorem ref31_SameInts {l : List Int} {v u : Value} {w : World} (hl : Nts w v l) (hu : Nts w u l) : Calls Try.prog 29 #[v,u] w fun e w'=>e = .returned (.bool true)∧Ext w w':=by
 obtain ⟨a,cp,rfl,hlc,hcm,-⟩:=hl.form
 obtain ⟨a2,cp2,rfl,hlc2,hcm2,-⟩:=hu.form
 unfold maxLen at hcm hcm2
 have hL:=Lib.hid hl
 have hU:=Lib.hid hu
 clear hl hu
 go_enter Try.func29,Try.ntmps29
 go_wp2
 go_loopw [5] (fun iv wr => ∃ k : Nat,k≤l.length∧iv = .int .i64 k∧Ext w wr) (fun iv _=>l.length - (intOf iv).toNat)
 case atStart=>exact ⟨0,Nat.zero_le _,rfl,Ext.refl _⟩
 case round =>
  obtain ⟨k,hk,rfl,hE⟩:=hrel
  by_cases hlt : k < l.length
  ·obtain ⟨x,hx⟩ : ∃ x,l[k]? = some x:=⟨l[k],by simp [hlt]⟩
   obtain ⟨b,off,rfl,hb,c0⟩:=(hL.out.ext hE).cell hx
   obtain ⟨b',off',rfl,hb',d0⟩:=(hU.out.ext hE).cell hx
   have hi0 : (0 : Int)≤(k : Int):=by omega
   have hi1 : (k : Int) < (l.length : Int):=by omega
   clear hx
   go_wp2
   go_quiet (fail)
   go_wp2
   go_roundw
   case rel=>exact ⟨k+1,by omega,by go_num,hE.drewN _⟩
   case measure=>simp [intOf];omega
  ·have hkl : k=l.length:=by omega
   subst hkl
   go_wp2
   go_ret
   exact ⟨rfl,hE⟩
end Go.Proofs.Ytnplphcnagooeaa

/- Contracts: the tests of items, IndexFunc and ContainsFunc over items, items.Check. -/
namespace Go.Proofs.Ytnplphcnagooeaa
set_option maxRecDepth 100000
open Go.RowKit
set_option maxHeartbeats 400000 in
theorem items_in (n : Int) (w : World) : Calls Try.prog 81 #[.int .i64 n] w fun e w'=>e = .returned (.bool (inB n))∧w=w':=by
 by_cases h0 : 0≤n <;> by_cases h1 : n≤1000000
 all_goals
  go_enter Try.func81,Try.ntmps81
  go_wp2
  go_ret
  exact ⟨by simp [inB, *],rfl⟩
set_option maxHeartbeats 400000 in
theorem items_isItem (x : Item) (w : World) : Calls Try.prog 85 #[x.val] w fun e w'=>e = .returned (.bool x.ok)∧Ext w w':=by
 obtain ⟨p,t,c⟩:=x
 have hE:=(Ext.refl w).alloc (.cells #[.int .u8 p,.int .i64 t,.int .i64 c] 82)
 unfold Item.val
 cases ht : inB t <;> cases hc : inB c
 all_goals
  go_enter Try.func85,Try.ntmps85
  go_wp2_with (go_at_call 81;refine (items_in _ _).mono ?_;rintro e w' ⟨rfl,rfl⟩)
  all_goals
   go_ret
   exact ⟨by simp_all [Item.ok],hE⟩
def PredAt (g : Nat) (cap : Array Value) (W : World) (p : Item→Bool) : Prop :=
 ∀ (x : Item) (w : World),Ext W w→Calls Try.prog g (#[x.val] ++ cap) w fun e w'=>e = .returned (.bool (p x))∧Ext w w'
def idxOf : Option Nat→Int
 | none => -1
 | some i=>i
theorem findIdx_hit {α : Type} {p : α→Bool} {l : List α} {k : Nat} {x : α} (h : (l.take k).any p=false) (hx : l[k]? = some x) (hp : p x=true) : l.findIdx? p=some k:=by
 rw [List.findIdx?_eq_some_iff_getElem]
 obtain ⟨hk,rfl⟩:=List.getElem?_eq_some_iff.1 hx
 refine ⟨hk,hp,fun j hj => ?_⟩
 simp only [List.any_eq_false] at h
 have:=h l[j] (by rw [List.mem_iff_getElem?];exact ⟨j,by rw [List.getElem?_take,if_pos hj];simp⟩)
 simpa using this
theorem findIdx_miss {α : Type} {p : α→Bool} {l : List α} (h : l.any p=false) : l.findIdx? p=none:=by
 rw [List.findIdx?_eq_none_iff]
 simpa [List.any_eq_false] using h
theorem any_take_succ {α : Type} {p : α→Bool} {l : List α} {k : Nat} {x : α} (h : (l.take k).any p=false) (hx : l[k]? = some x) (hp : p x=false) : (l.take (k+1)).any p=false:=by
 rw [List.take_add_one,hx]
 simp [List.any_append,h,hp]
set_option maxHeartbeats 400000 in
theorem indexFunc_item {g : Nat} {cap : Array Value} {p : Item→Bool} {l : List Item} {v : Value} {w : World} (hg : ∀ args w,(callFunc g args).run Try.prog w = .ok (.enter g args) w)
  (hp : PredAt g cap w p) (hl : Its w v l) : Calls Try.prog 90 #[v,.func (.func g) #[] cap] w fun e w'=>e = .returned (.int .i64 (idxOf (l.findIdx? p)))∧Ext w w':=by
 obtain ⟨a,cp,rfl,hlc,hcm,-⟩:=hl.form
 unfold maxLen at hcm
 go_enter Try.func90,Try.ntmps90
 go_wp2
 go_loopw [8] (fun i wr => ∃ k : Nat,k≤l.length∧i = .int .i64 k∧Ext w wr∧Hid ((l.take k).any p=false)) (fun i _=>l.length - (intOf i).toNat)
 case atStart=>exact ⟨0,Nat.zero_le _,rfl,Ext.refl _,by simp [Hid]⟩
 case round =>
  obtain ⟨k,hk,rfl,hE,hN⟩:=hrel
  by_cases hlt : k < l.length
  ·obtain ⟨x,hx⟩ : ∃ x,l[k]? = some x:=⟨l[k],by simp [hlt]⟩
   obtain ⟨b,off,rfl,hb,c0,c1,c2⟩:=(hl.ext hE).cell hx
   have hX:=Lib.hid hx
   clear hx
   cases hpx : p x
   all_goals
    have hP:=Lib.hid hpx
    clear hpx
    go_wp2_with fail
    refine (hp x wr hE).mono ?_
    rintro e w1 ⟨rfl,hE1⟩
    have hpx:=hP.out
    go_wp2
   ·go_roundw
    case rel=>exact ⟨k+1,by omega,by go_num,hE.trans hE1,any_take_succ hN.out hX.out hP.out⟩
    case measure=>simp [intOf];omega
   ·go_ret
    exact ⟨by rw [findIdx_hit hN.out hX.out hP.out];rfl,hE.trans hE1⟩
  ·have hkl : k=l.length:=by omega
   subst hkl
   go_wp2
   go_ret
   have hN':=hN.out
   rw [List.take_length] at hN'
   exact ⟨by rw [findIdx_miss hN'];rfl,hE⟩
end Go.Proofs.Ytnplphcnagooeaa

/- Contracts: the reference of layer 28, and slices.Clone of items. -/
namespace Go.Proofs.Ytnplphcnagooeaa
set_option maxRecDepth 100000
open Go.RowKit
def RetL (e : TypeId) (w : World) (l : List Item) (en : Ending) (w' : World) : Prop := ∃ v,en = .returned v∧Own w' w.heap.size e 3 v l.length (l.flatMap Item.row)∧Ext w w'
def RetLN (e : TypeId) (w : World) (l : List Item) (n : Int) (en : Ending) (w' : World) : Prop := ∃ v,en = .returned (.tuple #[v,.int .i64 n])∧Own w' w.heap.size e 3 v l.length (l.flatMap Item.row)∧Ext w w'
theorem Item.infoE : ∃ i z,Try.prog.info? 82=some i∧i.zero=some z∧i.size=3∧z.cells.size=3∧i.bytes=24:=by
 have h : (Try.prog.info? 82).map (fun i=>(i.zero.map (fun z=>z.cells.size),i.size,i.bytes))=some (some 3,3,24):=by kernel_rfl
 cases hi : Try.prog.info? 82 with
 | none=>rw [hi] at h;simp at h
 | some i =>
  rw [hi] at h
  simp only [Option.map_some,Option.some.injEq,Prod.mk.injEq] at h
  obtain ⟨h1,h2,h3⟩:=h
  cases hz : i.zero with
  | none=>rw [hz] at h1;simp at h1
  | some z =>
   rw [hz] at h1
   exact ⟨i,z,rfl,hz,h2,by simpa using h1,h3⟩
set_option maxHeartbeats 400000 in
theorem ref28_In (n : Int) (w : World) : Calls Try.prog 82 #[.int .i64 n] w fun e w'=>e = .returned (.bool (inB n))∧w=w':=by
 by_cases h0 : 0≤n <;> by_cases h1 : n≤1000000
 all_goals
  go_enter Try.func82,Try.ntmps82
  go_wp2
  go_ret
  exact ⟨by simp [inB, *],rfl⟩
theorem Item.ok_of {p t c : Int} (h : 1≤p∧p≤4) : Item.ok ⟨p,t,c⟩=(inB t && inB c):=by
 obtain rfl | rfl | rfl | rfl : p=1∨p=2∨p=3∨p=4:=by omega
 all_goals simp [Item.ok]
theorem Item.ok_not {p t c : Int} (h : ¬ (1≤p∧p≤4)) : Item.ok ⟨p,t,c⟩=false:=by
 have h1 : p≠1:=by omega
 have h2 : p≠2:=by omega
 have h3 : p≠3:=by omega
 have h4 : p≠4:=by omega
 simp [Item.ok,h1,h2,h3,h4]
set_option maxHeartbeats 400000 in
theorem ref28_Item (x : Item) (w : World) : Calls Try.prog 91 #[x.val] w fun e w'=>e = .returned (.bool x.ok)∧Ext w w':=by
 obtain ⟨p,t,c⟩:=x
 have hE:=(Ext.refl w).alloc (.cells #[.int .u8 p,.int .i64 t,.int .i64 c] 82)
 unfold Item.val
 by_cases h1 : 1≤p
 ·by_cases h2 : p≤4
  ·have hok:=Lib.hid (Item.ok_of (t:=t) (c:=c) ⟨h1,h2⟩)
   cases ht : inB t <;> cases hc : inB c
   all_goals
    go_enter Try.func91,Try.ntmps91
    go_wp2_with (go_at_call 82;refine (ref28_In _ _).mono ?_;rintro e w' ⟨rfl,rfl⟩)
    go_ret
    exact ⟨by rw [hok.out,ht,hc];rfl,hE⟩
  ·have hok:=Lib.hid (Item.ok_not (t:=t) (c:=c) (p:=p) (by omega))
   go_enter Try.func91,Try.ntmps91
   go_wp2_with (go_at_call 82;refine (ref28_In _ _).mono ?_;rintro e w' ⟨rfl,rfl⟩)
   go_ret
   exact ⟨by rw [hok.out];rfl,hE⟩
 ·have hok:=Lib.hid (Item.ok_not (t:=t) (c:=c) (p:=p) (by omega))
  go_enter Try.func91,Try.ntmps91
  go_wp2_with (go_at_call 82;refine (ref28_In _ _).mono ?_;rintro e w' ⟨rfl,rfl⟩)
  go_ret
  exact ⟨by rw [hok.out];rfl,hE⟩
theorem all_take_succ {α : Type} {p : α→Bool} {l : List α} {k : Nat} {x : α} (h : (l.take k).all p=true) (hx : l[k]? = some x) (hp : p x=true) : (l.take (k+1)).all p=true:=by
 rw [List.take_add_one,hx]
 simp [List.all_append,h,hp]
theorem all_miss {α : Type} {p : α→Bool} {l : List α} {k : Nat} {x : α} (hx : l[k]? = some x) (hp : p x=false) : l.all p=false:=by
 rw [List.all_eq_false]
 exact ⟨x,List.mem_of_getElem? hx,by simp [hp]⟩
set_option maxHeartbeats 400000 in
theorem ref28_Check {l : List Item} {v : Value} {w : World} (hl : Its w v l) : Calls Try.prog 86 #[v] w fun e w'=>e = .returned (.int .i64 (chk l))∧Ext w w':=by
 obtain ⟨a,cp,rfl,hlc,hcm,-⟩:=hl.form
 unfold maxLen at hcm
 by_cases h6 : l.length≤600
 ·go_enter Try.func86,Try.ntmps86
  go_wp2
  go_loopw [3] (fun i wr => ∃ k : Nat,k≤l.length∧i = .int .i64 k∧Ext w wr∧Hid ((l.take k).all Item.ok=true)) (fun i _=>l.length - (intOf i).toNat)
  case atStart=>exact ⟨0,Nat.zero_le _,rfl,Ext.refl _,by simp [Hid]⟩
  case round =>
   obtain ⟨k,hk,rfl,hE,hN⟩:=hrel
   by_cases hlt : k < l.length
   ·obtain ⟨x,hx⟩ : ∃ x,l[k]? = some x:=⟨l[k],by simp [hlt]⟩
    obtain ⟨b,off,rfl,hb,c0,c1,c2⟩:=(hl.ext hE).cell hx
    have hX:=Lib.hid hx
    clear hx
    cases hpx : x.ok
    all_goals
     go_wp2_with (go_at_call 91;refine (ref28_Item x _).mono ?_;rintro e w1 ⟨rfl,hE1⟩)
    ·go_ret
     exact ⟨by have:=all_miss hX.out hpx;simp [chk,okS,this],hE.trans hE1⟩
    ·go_roundw
     case rel=>exact ⟨k+1,by omega,by go_num,hE.trans hE1,all_take_succ hN.out hX.out hpx⟩
     case measure=>simp [intOf];omega
   ·have hkl : k=l.length:=by omega
    subst hkl
    go_wp2
    go_ret
    have hN':=hN.out
    rw [List.take_length] at hN'
    exact ⟨by simp [chk,okS,hN',h6],hE⟩
 ·go_enter Try.func86,Try.ntmps86
  go_wp2
  go_ret
  exact ⟨by simp [chk,okS,h6],Ext.refl _⟩
set_option maxHeartbeats 400000 in
theorem ref28_Great {l : List Item} {v : Value} {w : World} (hl : Its w v l) : Calls Try.prog 53 #[v] w fun e w'=>e = .returned (.bool (decide (610 < l.length)))∧w=w':=by
 obtain ⟨a,cp,rfl,hlc,hcm,-⟩:=hl.form
 by_cases h6 : 610 < l.length
 all_goals
  go_enter Try.func53,Try.ntmps53
  go_wp2
  go_ret
  exact ⟨by simp;omega,rfl⟩
end Go.Proofs.Ytnplphcnagooeaa

/- Contracts: copies of stacks, equality of stacks, and what is above and below an index; the program's and the reference's. -/
namespace Go.Proofs.Ytnplphcnagooeaa
set_option maxRecDepth 100000
open Go.RowKit
theorem Own.made (w : World) (B : Nat) (e : TypeId) (k : Nat) (hB : B≤w.heap.size) : Own (w.alloc (.cells #[] e)) B e k (.slice (some ⟨w.heap.size,0,none⟩) 0 0) 0 [] :=
 World.ownsRow_made w #[] 0 hB (Nat.zero_le _) (by simp)
set_option maxHeartbeats 400000 in
theorem ref28_Twin {l : List Item} {v : Value} {w : World} (hl : Its w v l) (hs : l.length≤1000000) : Calls Try.prog 54 #[v] w (RetL 82 w l):=by
 obtain ⟨i,z,hi,hz,hi3,hz3,hby⟩:=Item.infoE
 obtain ⟨a,cp,rfl,hlc,hcm,-⟩:=hl.form
 have hE:=(Ext.refl w).alloc (.cells #[] 82)
 have hl':=hl.ext hE
 have hO:=Own.made w w.heap.size 82 3 (Nat.le_refl _)
 have hz:=Lib.hid hz
 have hi3:=Lib.hid hi3
 have hz3:=Lib.hid hz3
 have hby:=Lib.hid hby
 have hi:=Lib.hid hi
 go_enter Try.func54,Try.ntmps54
 go_wp2_with (at_builtin;refine Hid.out ?_)
 refine Hid.mk ?_
 refine wpList_append_any rfl _ _ 59 59 rfl rfl rfl Try.underlying59 Try.underlying59 hi.out hz.out hi3.out hz3.out hO hl' (Item.one l) (by simp [maxLen];omega) (by rw [hby.out];omega) hE.size ?_
 intro v' w' hO' hK _ _
 go_wp2
 go_ret
 simp only [Nat.zero_add,List.nil_append] at hO'
 exact ⟨_,rfl,hO',(Below.trans (Below.alloc (Below.refl _ w) (Nat.le_refl _) _) hK.below : Below w.heap.size w w')⟩
set_option maxHeartbeats 400000 in
theorem clone_Stack {l : List Item} {v : Value} {w : World} (hl : Its w v l) (hs : l.length≤1000000) : Calls Try.prog 61 #[v] w (RetL 82 w l):=by
 obtain ⟨i,z,hi,hz,hi3,hz3,hby⟩:=Item.infoE
 obtain ⟨a,cp,rfl,hlc,hcm,hn⟩:=hl.form
 cases a with
 | none =>
  have hcp:=hn rfl
  subst hcp
  have hl0 : l.length=0:=by omega
  have hl0':=List.eq_nil_of_length_eq_zero hl0
  subst hl0'
  have hnil : ∀ w,(binOp .eql 60 (.slice none 0 0) (.slice none 0 0)).run Try.prog w = .ok (.bool true) w:=fun w=>Lib.run_eql_slice_nil w 60 82 none 0 0 0 0 Try.underlying60
  go_enter Try.func61,Try.ntmps61
  go_wp2
  go_ret
  exact ⟨_,rfl,Own.nil _ _ _ _,Ext.refl _⟩
 | some ad =>
  have hE:=(Ext.refl w).alloc (.cells #[] 82)
  have hl':=hl.ext hE
  have hO:=Own.made w w.heap.size 82 3 (Nat.le_refl _)
  have hz:=Lib.hid hz
  have hi3:=Lib.hid hi3
  have hz3:=Lib.hid hz3
  have hby:=Lib.hid hby
  have hi:=Lib.hid hi
  have hnil : ∀ w,(binOp .eql 60 (.slice (some ad) l.length cp) (.slice none 0 0)).run Try.prog w = .ok (.bool false) w:=fun w=>Lib.run_eql_slice_nil w 60 82 (some ad) l.length cp 0 0 Try.underlying60
  go_enter Try.func61,Try.ntmps61
  go_wp2_with (at_builtin;refine Hid.out ?_)
  refine Hid.mk ?_
  refine wpList_append_any rfl _ _ 60 60 rfl rfl rfl Try.underlying60 Try.underlying60 hi.out hz.out hi3.out hz3.out hO hl' (Item.one l) (by simp [maxLen];omega) (by rw [hby.out];omega) hE.size ?_
  intro v' w' hO' hK _ _
  go_wp2
  go_ret
  simp only [Nat.zero_add,List.nil_append] at hO'
  exact ⟨_,rfl,hO',(Below.trans (Below.alloc (Below.refl _ w) (Nat.le_refl _) _) hK.below : Below w.heap.size w w')⟩
theorem run_neq_item (x y : Item) (w : World) : (binOp .neq 82 x.val y.val).run Try.prog w = .ok (.bool (decide (x≠y))) w:=by
 obtain ⟨p,t,c⟩:=x
 obtain ⟨p',t',c'⟩:=y
 unfold Item.val
 go_simp
 by_cases h1 : p=p' <;> by_cases h2 : t=t' <;> by_cases h3 : c=c' <;> simp [h1,h2,h3]
theorem take_eq_succ {α : Type} {l m : List α} {k : Nat} {x : α} (h : l.take k=m.take k) (hx : l[k]? = some x) (hy : m[k]? = some x) : l.take (k+1)=m.take (k+1):=by
 rw [List.take_add_one,List.take_add_one,hx,hy,h]
set_option maxHeartbeats 400000 in
theorem ref28_Same {l m : List Item} {v u : Value} {w : World} (hl : Its w v l) (hm : Its w u m) : Calls Try.prog 65 #[v,u] w fun e w'=>e = .returned (.bool (decide (l=m)))∧Ext w w':=by
 obtain ⟨a,cp,rfl,hlc,hcm,-⟩:=hl.form
 obtain ⟨a2,cp2,rfl,hlc2,hcm2,-⟩:=hm.form
 unfold maxLen at hcm hcm2
 by_cases hlen : l.length=m.length
 ·have hH:=Lib.hid hlen
  have hm2:=hm
  rw [← hlen] at hm2
  rw [← hlen]
  clear hlen
  go_enter Try.func65,Try.ntmps65
  go_wp2
  go_loopw [5] (fun i wr => ∃ k : Nat,k≤l.length∧i = .int .i64 k∧Ext w wr∧Hid (l.take k=m.take k)) (fun i _=>l.length - (intOf i).toNat)
  case atStart=>exact ⟨0,Nat.zero_le _,rfl,Ext.refl _,by simp [Hid]⟩
  case round =>
   obtain ⟨k,hk,rfl,hE,hN⟩:=hrel
   by_cases hlt : k < l.length
   ·obtain ⟨x,hx⟩ : ∃ x,l[k]? = some x:=⟨l[k],by simp [hlt]⟩
    obtain ⟨y,hy⟩ : ∃ y,m[k]? = some y:=⟨m[k]'(by have:=hH.out;omega),by simp⟩
    obtain ⟨b,off,rfl,hb,c0,c1,c2⟩:=(hl.ext hE).cell hx
    obtain ⟨b',off',rfl,hb',d0,d1,d2⟩:=(hm2.ext hE).cell hy
    have hX:=Lib.hid hx
    have hY:=Lib.hid hy
    clear hx hy
    have hi0 : (0 : Int)≤(k : Int):=by omega
    have hi1 : (k : Int) < (l.length : Int):=by omega
    have hn:=run_neq_item x y
    unfold Item.val at hn
    by_cases hxy : x=y
    ·subst hxy
     simp only [ne_eq,not_true_eq_false,decide_false] at hn
     go_wp2
     go_quiet (fail)
     go_wp2
     go_roundw
     case rel=>exact ⟨k+1,by omega,by go_num,hE.drewN _,take_eq_succ hN.out hX.out hY.out⟩
     case measure=>simp [intOf];omega
    ·have hD:=Lib.hid hxy
     simp only [ne_eq,hxy,not_false_eq_true,decide_true] at hn
     clear hxy
     go_wp2
     go_quiet (fail)
     go_wp2
     go_ret
     refine ⟨?_,hE.drewN _⟩
     have hne : l≠m:=by
      intro e
      subst e
      have h1:=hX.out
      rw [hY.out] at h1
      exact hD.out (Option.some.inj h1).symm
     simp [hne]
   ·have hkl : k=l.length:=by omega
    subst hkl
    go_wp2
    go_ret
    have h1:=hN.out
    rw [List.take_length,hH.out,List.take_length] at h1
    exact ⟨by simp [h1],hE⟩
 ·have hb : ((l.length : Int) == (m.length : Int))=false:=by simp;omega
  have hb' : ((l.length : Int) != (m.length : Int))=true:=by simp;omega
  have hH:=Lib.hid hlen
  clear hlen
  go_enter Try.func65,Try.ntmps65
  go_wp2
  go_ret
  have hne : l≠m:=fun e=>hH.out (by rw [e])
  exact ⟨by simp [hne],Ext.refl _⟩
theorem ref28_Same_yes {l : List Item} {v u : Value} {w : World} (hl : Its w v l) (hm : Its w u l) : Calls Try.prog 65 #[v,u] w fun e w'=>e = .returned (.bool true)∧Ext w w' :=
 (ref28_Same hl hm).mono fun _ _ ⟨h1,h2⟩=>⟨h1.trans (by simp),h2⟩
end Go.Proofs.Ytnplphcnagooeaa

/- Contracts: items.Check, items.Base, and the reference's At, Find and Base. -/
namespace Go.Proofs.Ytnplphcnagooeaa
set_option maxRecDepth 100000
open Go.RowKit
theorem callFunc_Check1 (args : Array Value) (w : World) : (callFunc 84 args).run Try.prog w = .ok (.enter 84 args) w:=by kernel_rfl
set_option maxHeartbeats 400000 in
theorem items_Check1 (W : World) : PredAt 84 #[] W (fun x => !x.ok):=by
 intro x w _
 have hx:=items_isItem x
 obtain ⟨p,t,c⟩:=x
 unfold Item.val at *
 have hE:=(Ext.refl w).alloc (.cells #[.int .u8 p,.int .i64 t,.int .i64 c] 82)
 have hX:=Lib.hid hx
 clear hx
 show Calls Try.prog 84 #[.agg #[.int .u8 p,.int .i64 t,.int .i64 c]] w _
 go_enter Try.func84,Try.ntmps84
 go_wp2_with (go_at_call 85;refine (hX.out _).mono ?_;rintro e w' ⟨rfl,hE'⟩)
 go_ret
 exact ⟨rfl,hE.trans hE'⟩
theorem idxOf_any {α : Type} (p : α→Bool) (l : List α) : decide (0≤idxOf (l.findIdx? p))=l.any p:=by
 cases h : l.findIdx? p with
 | none =>
  have h' : l.any p=false:=by rw [List.findIdx?_eq_none_iff] at h;simpa [List.any_eq_false] using h
  rw [h'];simp [idxOf]
 | some i =>
  have h' : l.any p=true:=by
   rw [List.findIdx?_eq_some_iff_getElem] at h
   obtain ⟨hi,hp,_⟩:=h
   rw [List.any_eq_true]
   exact ⟨l[i],List.getElem_mem _,hp⟩
  rw [h'];simp [idxOf]
set_option maxHeartbeats 400000 in
theorem containsFunc_item {g : Nat} {cap : Array Value} {p : Item→Bool} {l : List Item} {v : Value} {w : World} (hg : ∀ args w,(callFunc g args).run Try.prog w = .ok (.enter g args) w)
  (hp : PredAt g cap w p) (hl : Its w v l) : Calls Try.prog 83 #[v,.func (.func g) #[] cap] w fun e w'=>e = .returned (.bool (l.any p))∧Ext w w':=by
 have hC:=Lib.hid (indexFunc_item hg hp hl)
 have hA:=Lib.hid (idxOf_any p l)
 clear hg
 obtain ⟨a,cp,rfl,-⟩:=hl.form
 go_enter Try.func83,Try.ntmps83
 go_wp2_with (go_at_call 90;refine hC.out.mono ?_;rintro e w' ⟨rfl,hE'⟩)
 go_ret
 exact ⟨by rw [← hA.out];rfl,hE'⟩
theorem any_not_ok (l : List Item) : l.any (fun x => !x.ok) = !l.all Item.ok:=by
 induction l with
 | nil=>rfl
 | cons x l ih=>rw [List.any_cons,List.all_cons,ih,Bool.not_and]
set_option maxHeartbeats 400000 in
theorem items_Check {l : List Item} {v : Value} {w : World} (hl : Its w v l) : Calls Try.prog 68 #[v] w fun e w'=>e = .returned (.int .i64 (chk l))∧Ext w w':=by
 have hC:=Lib.hid (containsFunc_item callFunc_Check1 (items_Check1 w) hl)
 have hN:=Lib.hid (any_not_ok l)
 obtain ⟨a,cp,rfl,hlc,hcm,-⟩:=hl.form
 by_cases h6 : l.length≤600
 ·have hd : decide ((600 : Int) < (l.length : Int))=false:=decide_eq_false (by omega)
  cases ha : l.all Item.ok
  all_goals
   have hv:=Lib.hid ha
   go_enter Try.func68,Try.ntmps68
   go_wp2_with (go_at_call 83;refine hC.out.mono ?_;rintro e w' ⟨rfl,hE'⟩;rw [hN.out,hv.out])
   go_ret
   exact ⟨by simp [chk,okS,hv.out,h6],hE'⟩
 ·have hd : decide ((600 : Int) < (l.length : Int))=true:=decide_eq_true (by omega)
  go_enter Try.func68,Try.ntmps68
  go_wp2
  go_ret
  exact ⟨by simp [chk,okS,h6],Ext.refl _⟩
end Go.Proofs.Ytnplphcnagooeaa

/- Contracts: what is held; Enter, Leave and Held, the program's and the reference's. -/
namespace Go.Proofs.Ytnplphcnagooeaa
set_option maxRecDepth 100000
open Go.RowKit
def RetNs (e : TypeId) (w : World) (l : List Int) (en : Ending) (w' : World) : Prop := ∃ v,en = .returned v∧Own w' w.heap.size e 1 v l.length (l.flatMap irow)∧Ext w w'
theorem Int.infoE : ∃ i z,Try.prog.info? 3=some i∧i.zero=some z∧i.size=1∧z.cells.size=1∧i.bytes=8:=by
 have h : (Try.prog.info? 3).map (fun i=>(i.zero.map (fun z=>z.cells.size),i.size,i.bytes))=some (some 1,1,8):=by kernel_rfl
 cases hi : Try.prog.info? 3 with
 | none=>rw [hi] at h;simp at h
 | some i =>
  rw [hi] at h
  simp only [Option.map_some,Option.some.injEq,Prod.mk.injEq] at h
  obtain ⟨h1,h2,h3⟩:=h
  cases hz : i.zero with
  | none=>rw [hz] at h1;simp at h1
  | some z =>
   rw [hz] at h1
   exact ⟨i,z,rfl,hz,h2,by simpa using h1,h3⟩
set_option maxHeartbeats 400000 in
theorem clone_Ints {l : List Int} {v : Value} {w : World} (hl : Nts w v l) (hs : l.length≤1000000) : Calls Try.prog 62 #[v] w (RetNs 3 w l):=by
 obtain ⟨i,z,hi,hz,hi3,hz3,hby⟩:=Int.infoE
 obtain ⟨a,cp,rfl,hlc,hcm,hn⟩:=hl.form
 cases a with
 | none =>
  have hcp:=hn rfl
  subst hcp
  have hl0:=List.eq_nil_of_length_eq_zero (by omega : l.length=0)
  subst hl0
  have hnil : ∀ w,(binOp .eql 26 (.slice none 0 0) (.slice none 0 0)).run Try.prog w = .ok (.bool true) w:=fun w=>Lib.run_eql_slice_nil w 26 3 none 0 0 0 0 Try.underlying26
  go_enter Try.func62,Try.ntmps62
  go_wp2
  go_ret
  exact ⟨_,rfl,Own.nil _ _ _ _,Ext.refl _⟩
 | some ad =>
  have hE:=(Ext.refl w).alloc (.cells #[] 3)
  have hl':=hl.ext hE
  have hO:=Own.made w w.heap.size 3 1 (Nat.le_refl _)
  have hz:=Lib.hid hz
  have hi3:=Lib.hid hi3
  have hz3:=Lib.hid hz3
  have hby:=Lib.hid hby
  have hi:=Lib.hid hi
  have hnil : ∀ w,(binOp .eql 26 (.slice (some ad) l.length cp) (.slice none 0 0)).run Try.prog w = .ok (.bool false) w:=fun w=>Lib.run_eql_slice_nil w 26 3 (some ad) l.length cp 0 0 Try.underlying26
  go_enter Try.func62,Try.ntmps62
  go_wp2_with (at_builtin;refine Hid.out ?_)
  refine Hid.mk ?_
  refine wpList_append_any rfl _ _ 26 26 rfl rfl rfl Try.underlying26 Try.underlying26 hi.out hz.out hi3.out hz3.out hO hl' (Nts.one l) (by simp [maxLen];omega) (by rw [hby.out];omega) hE.size ?_
  intro v' w' hO' hK _ _
  go_wp2
  go_ret
  simp only [Nat.zero_add,List.nil_append] at hO'
  exact ⟨_,rfl,hO',(Below.trans (Below.alloc (Below.refl _ w) (Nat.le_refl _) _) hK.below : Below w.heap.size w w')⟩
theorem enterR_bad {l : List Int} {c : Int} (h : okR l=false) : enterR l c=([],8):=by simp [enterR,h]
theorem enterR_low {l : List Int} {c : Int} (h : okR l=true) (hc : c≤lastR l∨1000000 < c) : enterR l c=([],2):=by simp [enterR,h,hc]
theorem enterR_full {l : List Int} {c : Int} (h : okR l=true) (hc : ¬ (c≤lastR l∨1000000 < c)) (hf : l.length=32) : enterR l c=([],18):=by simp [enterR,h,hc,hf]
theorem enterR_ok {l : List Int} {c : Int} (h : okR l=true) (hc : ¬ (c≤lastR l∨1000000 < c)) (hf : ¬ l.length=32) : enterR l c=(l ++ [c],0):=by simp [enterR,h,hc,hf]
theorem leaveR_bad {l : List Int} (h : okR l=false) : leaveR l=([],8):=by simp [leaveR,h]
theorem leaveR_none {l : List Int} (h : okR l=true) (hz : l.length=0) : leaveR l=([],6):=by simp [leaveR,h,hz]
theorem leaveR_ok {l : List Int} (h : okR l=true) (hz : ¬ l.length=0) : leaveR l=(l.take (l.length - 1),0):=by simp [leaveR,h];intro e;exact absurd (by simp [e]) hz
theorem slice_upto_Ints (a : Option Addr) (n cap : Nat) (x : Int) (k : Nat) (hx : x=k) (hk : k≤cap) :
  ∀ w,(Instr.slice 26 (.slice a n cap) none (some (.int .i64 x)) none).run Try.prog w = .ok (.slice a k cap) w:=by
 obtain ⟨i,z,hi,hz,hi3,hz3,hby⟩:=Int.infoE
 exact fun w=>run_slice_upto Try.underlying26 hi a n cap x k hx hk w
end Go.Proofs.Ytnplphcnagooeaa

/- Contracts: Leave of the reference; Enter and Held, the program's and the reference's. -/
namespace Go.Proofs.Ytnplphcnagooeaa
set_option maxRecDepth 100000
open Go.RowKit
theorem last_is {l : List Int} (h : l.length≠0) : l[l.length - 1]? = some (lastR l):=by
 obtain ⟨x,hx⟩ : ∃ x,l[l.length - 1]? = some x:=⟨l[l.length - 1]'(by omega),by simp⟩
 rw [lastR_get hx];exact hx
end Go.Proofs.Ytnplphcnagooeaa

/- Contracts: Enter of the reference; Held, the program's and the reference's. -/
namespace Go.Proofs.Ytnplphcnagooeaa
set_option maxRecDepth 100000
open Go.RowKit
end Go.Proofs.Ytnplphcnagooeaa

/- Contracts: Base, and the reference's At and Find. -/
namespace Go.Proofs.Ytnplphcnagooeaa
set_option maxRecDepth 100000
open Go.RowKit
theorem Own.lit (w : World) {B : Nat} {e : TypeId} {k : Nat} (cs : Array Value) (n : Nat) (hB : B≤w.heap.size) (hm : n≤maxLen) (hs : cs.size=n * k) :
  Own (w.alloc (.cells cs e)) B e k (.slice (some ⟨w.heap.size,0,none⟩) n n) n cs.toList:=World.ownsRow_lit w cs n hB hm hs
theorem Its.lit (w : World) (cs : Array Value) (l : List Item) (n b : Nat) (hb : w.heap.size=b) (hn : l.length=n) (hm : n≤maxLen) (hc : cs.toList=l.flatMap Item.row) : Its (w.alloc (.cells cs 82)) (.slice (some ⟨b,0,none⟩) n n) l:=by
 subst hn hb
 have hs : cs.size=l.length * 3:=by
  have:=congrArg List.length hc
  rw [rows_len Item.row Item.row_len] at this
  simpa using this
 have:=(Own.lit (B:=0) (e:=82) (k:=3) w cs l.length (Nat.zero_le _) hm hs).sl
 rw [hc] at this
 exact this
def baseOf (tag : Int) : List Item:=if inB tag then [⟨1,tag,0⟩] else []
def baseErr (tag : Int) : Int:=if inB tag then 0 else 2
set_option maxHeartbeats 400000 in
theorem ref28_Base (tag : Int) (w : World) : Calls Try.prog 63 #[.int .i64 tag] w (RetLN 82 w (baseOf tag) (baseErr tag)):=by
 have hO:=Own.lit (B:=w.heap.size) (e:=82) (k:=3) w #[.int .u8 1,.int .i64 tag,.int .i64 0] 1 (Nat.le_refl _) (by simp [maxLen]) rfl
 cases ht : inB tag
 all_goals
  go_enter Try.func63,Try.ntmps63
  go_wp2_with (go_at_call 82;refine (ref28_In _ _).mono ?_;rintro e w' ⟨rfl,rfl⟩)
  go_ret2
 ·unfold baseOf baseErr;rw [ht]
  exact ⟨_,rfl,Own.nil _ _ _ _,Ext.refl _⟩
 ·unfold baseOf baseErr;rw [ht]
  exact ⟨_,rfl,hO,(Ext.refl _).alloc _⟩
set_option maxHeartbeats 400000 in
theorem items_Base (tag : Int) (w : World) : Calls Try.prog 56 #[.int .i64 tag] w (RetLN 82 w (baseOf tag) (baseErr tag)):=by
 have hO:=Own.lit (B:=w.heap.size) (e:=82) (k:=3) w #[.int .u8 1,.int .i64 tag,.int .i64 0] 1 (Nat.le_refl _) (by simp [maxLen]) rfl
 cases ht : inB tag
 all_goals
  go_enter Try.func56,Try.ntmps56
  go_wp2_with (go_at_call 81;refine (items_in _ _).mono ?_;rintro e w' ⟨rfl,rfl⟩)
  go_ret2
 ·unfold baseOf baseErr;rw [ht]
  exact ⟨_,rfl,Own.nil _ _ _ _,Ext.refl _⟩
 ·unfold baseOf baseErr;rw [ht]
  exact ⟨_,rfl,hO,(Ext.refl _).alloc _⟩
end Go.Proofs.Ytnplphcnagooeaa

/- Contracts: items.Find, which ranges over slices.Backward. -/
namespace Go.Proofs.Ytnplphcnagooeaa
set_option maxRecDepth 100000
open Go.RowKit Go.Shelf
attribute [local go_sem] Oper.semAt_some
def back (l : List Item) (j : Nat) : Nat × Item:=(l.length - 1 - j,(l[l.length - 1 - j]?).getD ⟨0,0,0⟩)
theorem KeepsOthers.of_ext {W W' : World} (hE : Ext W W') : KeepsOthers W W':=⟨hE.size,fun _ _ h _=>(hE.blk (Array.getElem?_eq_some_iff.1 h).1).trans h⟩
end Go.Proofs.Ytnplphcnagooeaa

/- Contracts: Above and Below, the program's and the reference's. -/
namespace Go.Proofs.Ytnplphcnagooeaa
set_option maxRecDepth 100000
open Go.RowKit
theorem slice_upto_Stack (a : Option Addr) (l : List Item) (cap : Nat) (x : Int) (k : Nat) (hx : x=k) (hk : k≤cap) :
  ∀ w,(Instr.slice 60 (.slice a l.length cap) none (some (.int .i64 x)) none).run Try.prog w = .ok (.slice a k cap) w:=by
 obtain ⟨i,z,hi,hz,hi3,hz3,hby⟩:=Item.infoE
 exact fun w=>run_slice_upto Try.underlying60 hi a l.length cap x k hx hk w
end Go.Proofs.Ytnplphcnagooeaa

/- Contracts: access.use, and the reference's Used. -/
namespace Go.Proofs.Ytnplphcnagooeaa
set_option maxRecDepth 100000
open Go.RowKit
def RetU (w : World) (l m : List Item) (why n : Int) (en : Ending) (w' : World) : Prop := ∃ v u,en = .returned (.tuple #[v,u,.int .u8 why,.int .i64 n])∧Its w' v l∧Its w' u m∧Ext w w'
def RetU3 (w : World) (l m : List Item) (why : Int) (en : Ending) (w' : World) : Prop := ∃ v u,en = .returned (.tuple #[v,u,.int .u8 why])∧Its w' v l∧Its w' u m∧Ext w w'
def RetUO (w : World) (l m : List Item) (why n : Int) (en : Ending) (w' : World) : Prop := ∃ v u,en = .returned (.tuple #[v,u,.int .u8 why,.int .i64 n])∧Own w' w.heap.size 82 3 v l.length (l.flatMap Item.row)∧Own w' w.heap.size 82 3 u m.length (m.flatMap Item.row)∧(∀ g,v.ownBlock=some g→u.ownBlock≠some g)∧Ext w w'
def RetUO3 (w : World) (l m : List Item) (why : Int) (en : Ending) (w' : World) : Prop := ∃ v u,en = .returned (.tuple #[v,u,.int .u8 why])∧Own w' w.heap.size 82 3 v l.length (l.flatMap Item.row)∧Own w' w.heap.size 82 3 u m.length (m.flatMap Item.row)∧(∀ g,v.ownBlock=some g→u.ownBlock≠some g)∧Ext w w'
theorem RetUO.weak {w : World} {l m : List Item} {why n : Int} {en : Ending} {w' : World} (h : RetUO w l m why n en w') : RetU w l m why n en w':=by
 obtain ⟨v,u,h1,h2,h3,-,h5⟩:=h
 exact ⟨v,u,h1,h2.sl,h3.sl,h5⟩
theorem RetUO3.weak {w : World} {l m : List Item} {why : Int} {en : Ending} {w' : World} (h : RetUO3 w l m why en w') : RetU3 w l m why en w':=by
 obtain ⟨v,u,h1,h2,h3,-,h5⟩:=h
 exact ⟨v,u,h1,h2.sl,h3.sl,h5⟩
theorem RetUO.none {w w' : World} {why n : Int} (h : Ext w w') : RetUO w [] [] why n (.returned (.tuple #[.slice none 0 0,.slice none 0 0,.int .u8 why,.int .i64 n])) w':=⟨_,_,rfl,Own.nil _ _ _ _,Own.nil _ _ _ _,(fun g h=>by cases h),h⟩
def UseInv (q : Item→Bool) (w0 w3 : World) (lo : Nat) (m n : List Item) (k : Nat) (lf gn : Value) (wr : World) : Prop :=
 (Own wr w0.heap.size 82 3 lf (m ++ (n.take k).filter (fun x => !q x)).length ((m ++ (n.take k).filter (fun x => !q x)).flatMap Item.row) ∧
  Own wr w0.heap.size 82 3 gn ((n.take k).filter q).length (((n.take k).filter q).flatMap Item.row)) ∧
 ((∀ g,lf.ownBlock=some g→g < lo∨w3.heap.size≤g)∧(∀ g,gn.ownBlock=some g→w3.heap.size≤g)∧(∀ g,lf.ownBlock=some g→gn.ownBlock≠some g)) ∧
 Ext w0 wr∧w3.heap.size≤wr.heap.size ∧ ∀ b,lo≤b→b < w3.heap.size→wr.heap[b]? = w3.heap[b]?
theorem UseInv.start {q : Item→Bool} {w0 w3 : World} {lo : Nat} {m n : List Item} {lf : Value} (hE : Ext w0 w3) (h : Own w3 w0.heap.size 82 3 lf m.length (m.flatMap Item.row)) (hlo : ∀ g,lf.ownBlock=some g→g < lo) :
  UseInv q w0 w3 lo m n 0 lf (.slice none 0 0) w3:=by
 refine ⟨⟨?_,?_⟩,⟨fun g hg => .inl (hlo g hg),fun g hg=>by simp [Value.ownBlock] at hg,fun g _=>by simp [Value.ownBlock]⟩,hE,Nat.le_refl _,fun b _ _=>rfl⟩
 ·simpa using h
 ·simpa using Own.nil w3 w0.heap.size 82 3
theorem UseInv.above {q : Item→Bool} {w0 w3 : World} {lo : Nat} {m n : List Item} {k : Nat} {lf gn av : Value} {wr : World} (h : UseInv q w0 w3 lo m n k lf gn wr) (hO : Own w3 lo 82 3 av n.length (n.flatMap Item.row)) : Its wr av n :=
 hO.sl.of_block fun g hg=>h.2.2.2.2 g (hO.lt hg).1 (hO.lt hg).2
theorem UseInv.left {q : Item→Bool} {w0 w3 : World} {lo : Nat} {m n : List Item} {k : Nat} {lf gn lf' : Value} {wr wx w' : World} {x : Item} (h : UseInv q w0 w3 lo m n k lf gn wr) (hx : n[k]? = some x) (hp : q x=false) (hE : Ext wr wx)
  (hO : Own w' w0.heap.size 82 3 lf' ((m ++ (n.take k).filter (fun x => !q x)).length+1) ((m ++ (n.take k).filter (fun x => !q x)).flatMap Item.row ++ x.row)) (hK : Keeps wx w' w0.heap.size lf)
  (hb : lf'.ownBlock=lf.ownBlock ∨ ∃ g,lf'.ownBlock=some g∧wx.heap.size≤g) : UseInv q w0 w3 lo m n (k+1) lf' gn w':=by
 obtain ⟨⟨h1,h2⟩,⟨h3,h4,h5⟩,h6,h7,h8⟩:=h
 have e1 : (n.take (k+1)).filter (fun x => !q x)=(n.take k).filter (fun x => !q x) ++ [x]:=by rw [List.take_add_one,hx,List.filter_append];simp [hp]
 have e2 : (n.take (k+1)).filter q=(n.take k).filter q:=by rw [List.take_add_one,hx,List.filter_append];simp [hp]
 have hs:=hE.size
 have hs':=hK.below.size
 refine ⟨⟨?_,?_⟩,⟨?_,h4,?_⟩,Below.trans (h6.trans hE) hK.below,by omega,fun b hb1 hb2 => ?_⟩
 ·rw [e1,← List.append_assoc,List.length_append,List.flatMap_append]
  simpa using hO
 ·rw [e2]
  exact (h2.ext hE).keeps hK (fun g hg e=>h5 g e hg)
 ·intro g hg
  rcases hb with hb | ⟨g',hb,hge⟩
  ·exact h3 g (hb ▸ hg)
  ·rw [hb] at hg;cases hg;right;omega
 ·intro g hg e
  rcases hb with hb | ⟨g',hb,hge⟩
  ·exact h5 g (hb ▸ hg) e
  ·rw [hb] at hg;cases hg
   have:=(h2.lt e).2
   omega
 ·rw [hK.block b (by omega) (fun e=>by rcases h3 b e with h | h <;> omega),hE.blk (by omega),h8 b hb1 hb2]
theorem UseInv.gone {q : Item→Bool} {w0 w3 : World} {lo : Nat} {m n : List Item} {k : Nat} {lf gn gn' : Value} {wr wx w' : World} {x : Item} (h : UseInv q w0 w3 lo m n k lf gn wr) (hx : n[k]? = some x) (hp : q x=true) (hE : Ext wr wx)
  (hO : Own w' w0.heap.size 82 3 gn' (((n.take k).filter q).length+1) (((n.take k).filter q).flatMap Item.row ++ x.row)) (hK : Keeps wx w' w0.heap.size gn)
  (hb : gn'.ownBlock=gn.ownBlock ∨ ∃ g,gn'.ownBlock=some g∧wx.heap.size≤g) : UseInv q w0 w3 lo m n (k+1) lf gn' w':=by
 obtain ⟨⟨h1,h2⟩,⟨h3,h4,h5⟩,h6,h7,h8⟩:=h
 have e1 : (n.take (k+1)).filter (fun x => !q x)=(n.take k).filter (fun x => !q x):=by rw [List.take_add_one,hx,List.filter_append];simp [hp]
 have e2 : (n.take (k+1)).filter q=(n.take k).filter q ++ [x]:=by rw [List.take_add_one,hx,List.filter_append];simp [hp]
 have hs:=hE.size
 have hs':=hK.below.size
 refine ⟨⟨?_,?_⟩,⟨h3,?_,?_⟩,Below.trans (h6.trans hE) hK.below,by omega,fun b hb1 hb2 => ?_⟩
 ·rw [e1]
  exact (h1.ext hE).keeps hK (fun g hg e=>h5 g hg e)
 ·rw [e2,List.length_append,List.flatMap_append]
  simpa using hO
 ·intro g hg
  rcases hb with hb | ⟨g',hb,hge⟩
  ·exact h4 g (hb ▸ hg)
  ·rw [hb] at hg;cases hg;omega
 ·intro g hg e
  rcases hb with hb | ⟨g',hb,hge⟩
  ·exact h5 g hg (hb ▸ e)
  ·rw [hb] at e;cases e
   have:=(h1.lt hg).2
   omega
 ·rw [hK.block b (by omega) (fun e=>by have:=h4 b e;omega),hE.blk (by omega),h8 b hb1 hb2]
end Go.Proofs.Ytnplphcnagooeaa

/- Plain laws of layer 29: what an access leaves, no program in sight. -/
namespace Go.Proofs.Ytnplphcnagooeaa
set_option maxRecDepth 100000
open Go.RowKit
end Go.Proofs.Ytnplphcnagooeaa

/- What is read from the blocks of an interval alone; no program in sight. -/
namespace Go.Proofs.Ytnplphcnagooeaa
set_option maxRecDepth 100000
open Go.RowKit
def Foot (B T : Nat) (w : World) (R : World→Prop) : Prop := ∀ w'' : World,(∀ b,B≤b→b < T→w''.heap[b]? = w.heap[b]?)→R w''
section
variable {B B' T T' : Nat} {w w' : World} {R R' : World→Prop}
theorem Foot.read (h : Foot B T w R) : R w:=h w fun _ _ _=>rfl
theorem Foot.of_all (h : ∀ w,R w) : Foot B T w R:=fun w'' _=>h w''
theorem Foot.mono (h : Foot B T w R) (hB : B'≤B) (hT : T≤T') : Foot B' T' w R:=fun w'' hb=>h w'' fun b h1 h2=>hb b (Nat.le_trans hB h1) (Nat.lt_of_lt_of_le h2 hT)
theorem Foot.imp (h : Foot B T w R) (hr : ∀ w,R w→R' w) : Foot B T w R':=fun w'' hb=>hr _ (h w'' hb)
theorem Foot.keep (h : Foot B T w R) (hb : ∀ b,B≤b→b < T→w'.heap[b]? = w.heap[b]?) : Foot B T w' R:=fun w'' h2=>h w'' fun b h3 h4=>(h2 b h3 h4).trans (hb b h3 h4)
theorem Foot.ext (h : Foot B T w R) (hE : Ext w w') (hT : T≤w.heap.size) : Foot B T w' R:=h.keep fun _ _ h2=>hE.blk (Nat.lt_of_lt_of_le h2 hT)
theorem Foot.but {S : Nat→Prop} (h : Foot B T w R) (hE : ExtBut S w w') (hT : T≤w.heap.size) (hS : ∀ b,S b→b < B∨T≤b) : Foot B T w' R :=
 h.keep fun b h1 h2=>hE.block b (Nat.lt_of_lt_of_le h2 hT) fun hs=>by rcases hS b hs with h | h <;> omega
theorem Foot.set (h : Foot B T w R) {p : Addr} (hp : p.block < B∨T≤p.block) (u : Value) : Foot B T (w.setCell p u) R :=
 h.keep fun b h1 h2=>Below.heap_setCell _ _ _ _ (fun e=>by subst e;rcases hp with h | h <;> omega)
end
theorem Sl.foot {w : World} {B k n : Nat} {v : Value} {xs : List Value} (h : Sl w k v n xs) {T : Nat} (hg : ∀ g,v.ownBlock=some g→B≤g∧g < T) : Foot B T w (fun w=>Sl w k v n xs) :=
 fun _ hb=>h.of_block fun g e=>hb g (hg g e).1 (hg g e).2
theorem Own.foot {w : World} {B T : Nat} {e : TypeId} {k : Nat} {v : Value} {n : Nat} {xs : List Value} (h : Own w B e k v n xs) (hT : w.heap.size≤T) : Foot B T w (fun w=>Sl w k v n xs) :=
 h.sl.foot fun g hg=>⟨(h.lt hg).1,Nat.lt_of_lt_of_le (h.lt hg).2 hT⟩
def CExt (w w' : World) : Prop := ∀ (p : Addr) (v : Value),w.cell? p=some v→w'.cell? p=some v
theorem Sl.cext {w w' : World} {k n : Nat} {v : Value} {xs : List Value} (h : Sl w k v n xs) (hc : CExt w w') : Sl w' k v n xs:=by
 obtain ⟨h1,a,cap,h2,h3,h4,h5,h6⟩:=h
 refine ⟨h1,a,cap,h2,h3,h4,h5,fun j u hj => ?_⟩
 obtain ⟨b,off,e,hcell⟩:=h6 j u hj
 exact ⟨b,off,e,hc _ _ hcell⟩
theorem Tb.cext {α : Type} {row : Value→α→List Value} {k : Nat} {R R' : Value→α→Prop} {w w' : World} {v : Value} {l : List α} (h : Tb row k R w v l) (hc : CExt w w') (hr : ∀ s a,R s a→R' s a) : Tb row k R' w' v l:=by
 obtain ⟨vs,h1,h2⟩:=h
 exact ⟨vs,h1.mono hr,h2.cext hc⟩
theorem Foot.of_but {B : Nat} {w' : World} {R : World→Prop} (hR : ∀ w1 w2,CExt w1 w2→R w1→R w2) (h : ∀ w'' : World,ExtBut (fun b=>b < B) w' w''→R w'') : Foot B w'.heap.size w' R:=by
 intro w'' hb
 have hx : CExt { w' with heap:=w''.heap ++ Array.replicate (w'.heap.size - w''.heap.size) (.cells #[] 0 (0,0)) } w'':=by
  intro p v hv
  by_cases hp : p.block < w''.heap.size
  ·rw [← hv]
   exact (World.cell?_of_block (by show (w''.heap ++ _)[p.block]? = _;rw [Array.getElem?_append_left hp])).symm
  ·exfalso
   have hn : (w''.heap ++ Array.replicate (w'.heap.size - w''.heap.size) (Obj.cells #[] 0 (0,0)))[p.block]? = none∨(w''.heap ++ Array.replicate (w'.heap.size - w''.heap.size) (Obj.cells #[] 0 (0,0)))[p.block]? = some (.cells #[] 0 (0,0)):=by
    rw [Array.getElem?_append_right (by omega),Array.getElem?_replicate]
    split
    ·exact .inr rfl
    ·exact .inl rfl
   rcases hn with hn | hn <;> simp [World.cell?,hn] at hv
 refine hR _ _ hx (h _ ⟨rfl,rfl,rfl,?_,fun b hlt hS => ?_⟩)
 ·show w'.heap.size≤(w''.heap ++ _).size
  rw [Array.size_append,Array.size_replicate];omega
 ·have e:=hb b (by omega) hlt
  have hlt2 : b < w''.heap.size:=by
   rcases Nat.lt_or_ge b w''.heap.size with h | h
   ·exact h
   ·rw [Array.getElem?_eq_none h,Array.getElem?_eq_getElem hlt] at e;cases e
  show (w''.heap ++ _)[b]? = _
  rw [Array.getElem?_append_left hlt2,e]
end Go.Proofs.Ytnplphcnagooeaa

/- What the functions of layers 30 to 32 compute; no program in sight. -/
namespace Go.Proofs.Ytnplphcnagooeaa
set_option maxRecDepth 100000
open Go.RowKit
end Go.Proofs.Ytnplphcnagooeaa

/- Contracts: access.use. -/
namespace Go.Proofs.Ytnplphcnagooeaa
set_option maxRecDepth 100000
open Go.RowKit
end Go.Proofs.Ytnplphcnagooeaa

/- Contracts: the reference's Used. (printed by gen/accc.py) -/
namespace Go.Proofs.Ytnplphcnagooeaa
set_option maxRecDepth 100000
open Go.RowKit
end Go.Proofs.Ytnplphcnagooeaa

/- Contracts: layer 29, the program's and the reference's, and the helpers of its statements. (printed by gen/accd.py) -/
namespace Go.Proofs.Ytnplphcnagooeaa
set_option maxRecDepth 100000
open Go.RowKit
end Go.Proofs.Ytnplphcnagooeaa

/- Contracts: Push, the program's and the reference's. (printed by gen/push.py) -/
namespace Go.Proofs.Ytnplphcnagooeaa
set_option maxRecDepth 100000
open Go.RowKit
end Go.Proofs.Ytnplphcnagooeaa

/- Contracts: layer 30, the program's and the reference's. -/
namespace Go.Proofs.Ytnplphcnagooeaa
set_option maxRecDepth 100000
open Go.RowKit
end Go.Proofs.Ytnplphcnagooeaa

/- Contracts: grant.Perm, grant.Retag, the reference's Tagged and Retag (layer 30). -/
namespace Go.Proofs.Ytnplphcnagooeaa
set_option maxRecDepth 100000
open Go.RowKit
end Go.Proofs.Ytnplphcnagooeaa

/- Contracts: the reference's Tagged and Retag (layer 30). -/
namespace Go.Proofs.Ytnplphcnagooeaa
set_option maxRecDepth 100000
open Go.RowKit
end Go.Proofs.Ytnplphcnagooeaa

/- Contracts: the guarded accesses of layer 31, the program's and the reference's; what they return is the call's own. (printed by gen/grdg.py) -/
namespace Go.Proofs.Ytnplphcnagooeaa
set_option maxRecDepth 100000
open Go.RowKit
def OwnI (w : World) (B : Nat) (v : Value) (l : List Item) : Prop:=Own w B 82 3 v l.length (l.flatMap Item.row)
theorem OwnI.its {w : World} {B : Nat} {v : Value} {l : List Item} (h : OwnI w B v l) : Its w v l:=Own.sl h
theorem OwnI.ext {w w' : World} {B : Nat} {v : Value} {l : List Item} (h : OwnI w B v l) (he : Ext w w') : OwnI w' B v l:=Own.ext h he
theorem OwnI.mono {w : World} {B B' : Nat} {v : Value} {l : List Item} (h : OwnI w B v l) (hB : B'≤B) : OwnI w B' v l:=Own.mono h hB
theorem OwnI.nil (w : World) (B : Nat) : OwnI w B (.slice none 0 0) []:=Own.nil _ _ _ _
def RetSO (w : World) (l : List Item) (why n : Int) (en : Ending) (w' : World) : Prop := ∃ v,en = .returned (.tuple #[v,.int .u8 why,.int .i64 n])∧OwnI w' w.heap.size v l∧Ext w w'
def RetTold (w : World) (v : Value) (l : List Item) (r : List Item × Int × Int) (en : Ending) (w' : World) : Prop := ∃ v',en = .returned (.tuple #[v',.int .u8 r.2.1,.int .i64 r.2.2])∧((v'=v∧r.1=l)∨(v' = .slice none 0 0∧r.1=[]))∧Ext w w'
theorem RetTold.own {w0 w w' : World} {v : Value} {l : List Item} {r : List Item × Int × Int} {en : Ending} (h : RetTold w v l r en w') (hv : OwnI w w0.heap.size v l) (hE : Ext w0 w) : RetSO w0 r.1 r.2.1 r.2.2 en w':=by
 obtain ⟨v',rfl,h | h,h3⟩:=h
 ·obtain ⟨rfl,h2⟩:=h
  rw [h2]
  exact ⟨_,rfl,hv.ext h3,hE.trans h3⟩
 ·obtain ⟨rfl,h2⟩:=h
  rw [h2]
  exact ⟨_,rfl,OwnI.nil _ _,hE.trans h3⟩
end Go.Proofs.Ytnplphcnagooeaa

/- Stacks of an allocation aas Lean data, and what a value in memory reads aas; what New gives; no program in sight. -/
namespace Go.Proofs.Ytnplphcnagooeaa
set_option maxRecDepth 100000
open Go.RowKit
structure Stk where
 num : Int
 cells : List (List Item)
 deriving DecidableEq
def Stk.zero : Stk:=⟨0,[]⟩
def srow (s : Value) (_ : List Item) : List Value:=[s]
theorem srow_len (s : Value) (a : List Item) : (srow s a).length=1:=rfl
theorem srow_one (vs : List Value) (l : List (List Item)) (h : ∀ s ∈ vs,s.oneCell'=true) : ∀ u ∈ trows srow vs l,u.oneCell'=true:=by
 intro u hu
 obtain ⟨p,hp,hu⟩:=List.mem_flatMap.1 hu
 simp only [srow,List.mem_cons,List.not_mem_nil,or_false] at hu
 subst hu
 exact h _ (List.of_mem_zip hp).1
def Sts (w : World) (v : Value) (l : List (List Item)) : Prop:=Tb srow 1 (fun s a=>Its w s a) w v l
theorem Sts.ext {w w' : World} {v : Value} {l : List (List Item)} (h : Sts w v l) (he : Ext w w') : Sts w' v l:=Tb.ext h he fun _ _ h=>Its.ext h he
theorem Sts.nil (w : World) : Sts w (.slice none 0 0) []:=Tb.nil w
theorem Sts.form {w : World} {v : Value} {l : List (List Item)} (h : Sts w v l) : ∃ a cap,v = .slice a l.length cap∧l.length≤cap∧cap≤maxLen∧(a=none→cap=0):=Tb.form h
theorem Sts.cell {w : World} {a : Option Addr} {n cap : Nat} {l : List (List Item)} (h : Sts w (.slice a n cap) l) {i : Nat} {x : List Item} (hx : l[i]? = some x) :
  ∃ b off s,a=some ⟨b,off,none⟩∧b < w.heap.size∧w.cell? ⟨b,off+i,none⟩=some s∧Its w s x:=by
 obtain ⟨b,off,s,rfl,hb,hc,hcell⟩:=Tb.cell h srow_len (by omega) hx
 exact ⟨b,off,s,rfl,hb,by simpa using hcell 0 _ rfl,hc⟩
def okK (x : Stk) : Bool:=inB x.num && decide (1≤x.cells.length) && decide (x.cells.length≤2) && x.cells.all okS
def stkErr (x : Stk) : Int:=if okK x then 0 else 8
def wideS (s : List Item) : Bool:=decide (610 < s.length)
def greatK (l : List (List Item)) : Bool:=(l.take 5).any wideS || decide (4 < l.length)
theorem sany_take_succ {α : Type} {p : α→Bool} {l : List α} {k : Nat} {x : α} (h : (l.take k).any p=false) (hx : l[k]? = some x) (hp : p x=false) : (l.take (k+1)).any p=false:=by
 rw [List.take_add_one,hx]
 simp [List.any_append,h,hp]
theorem sany_hit {α : Type} {p : α→Bool} {l : List α} {k : Nat} {x : α} (hx : l[k]? = some x) (hp : p x=true) : l.any p=true :=
 List.any_eq_true.2 ⟨x,List.mem_of_getElem? hx,hp⟩
theorem greatK_hit {l : List (List Item)} {k : Nat} {x : List Item} (hx : l[k]? = some x) (hk : k≤4) (hp : wideS x=true) : greatK l=true:=by
 rw [greatK,sany_hit (k:=k) (x:=x) (by rw [List.getElem?_take,if_pos (by omega)];exact hx) hp,Bool.true_or]
def OwnS (w : World) (B : Nat) (v : Value) (vs : List Value) (l : List (List Item)) : Prop:=OTb srow 60 1 OwnI w B v vs l
theorem OwnI.keep {w w' : World} {S : Nat→Prop} {B : Nat} {s : Value} {a : List Item} (h : OwnI w B s a) (hE : ExtBut S w w') (hS : ∀ g,s.ownBlock=some g → ¬ S g) : OwnI w' B s a:=ExtBut.own h hE hS
theorem OwnI.lt {w : World} {B : Nat} {s : Value} {a : List Item} (h : OwnI w B s a) (g : Nat) (hg : s.ownBlock=some g) : B≤g∧g < w.heap.size:=Own.lt h hg
theorem OwnS.ext {w w' : World} {B : Nat} {v : Value} {vs : List Value} {l : List (List Item)} (h : OwnS w B v vs l) (hE : Ext w w') : OwnS w' B v vs l:=OTb.ext OwnI.keep h hE
theorem OwnS.but {S : Nat→Prop} {w w' : World} {B : Nat} {v : Value} {vs : List Value} {l : List (List Item)} (h : OwnS w B v vs l) (hE : ExtBut S w w') (hS : ∀ b,B≤b → ¬ S b) : OwnS w' B v vs l :=
 OTb.but OwnI.keep h hE (fun g hg=>hS g (Own.lt h.outer hg).1) (fun s hs g hg=>hS g (OTb.inner_lt OwnI.lt h s hs g hg).1)
theorem OwnS.mono {w : World} {B B' : Nat} {v : Value} {vs : List Value} {l : List (List Item)} (h : OwnS w B v vs l) (hB : B'≤B) : OwnS w B' v vs l:=OTb.mono OwnI.mono h hB
theorem OwnS.nil (w : World) (B : Nat) : OwnS w B (.slice none 0 0) [] []:=OTb.nil w B
theorem OwnS.sts {w : World} {B : Nat} {v : Value} {vs : List Value} {l : List (List Item)} (h : OwnS w B v vs l) : Sts w v l:=⟨vs,h.inner.mono fun _ _ h=>h.its,h.outer.sl⟩
theorem OwnS.outer {w : World} {B : Nat} {v : Value} {vs : List Value} {l : List (List Item)} (h : OwnS w B v vs l) : Own w B 60 1 v l.length (trows srow vs l):=OTb.outer h
theorem OwnS.inner_lt {w : World} {B : Nat} {v : Value} {vs : List Value} {l : List (List Item)} (h : OwnS w B v vs l) : ∀ s ∈ vs,∀ g,s.ownBlock=some g→B≤g∧g < w.heap.size:=OTb.inner_lt OwnI.lt h
theorem OwnS.push {w wx w' : World} {B : Nat} {v v' s : Value} {vs : List Value} {l : List (List Item)} {a : List Item} (h : OwnS w B v vs l) (hE : Ext w wx) (hR : OwnI wx B s a) (hs : ∀ g,s.ownBlock=some g→w.heap.size≤g)
  (hO : Own w' B 60 1 v' (l.length+1) (trows srow vs l ++ srow s a)) (hK : Keeps wx w' B v) (hb : v'.ownBlock=v.ownBlock ∨ ∃ g,v'.ownBlock=some g∧wx.heap.size≤g) : OwnS w' B v' (vs ++ [s]) (l ++ [a]) :=
 OTb.push OwnI.keep OwnI.lt h hE hR hs hO hK hb
theorem Stack.infoE : ∃ i z,Try.prog.info? 60=some i∧i.zero=some z∧i.size=1∧z.cells.size=1∧i.bytes=24:=by
 have h : (Try.prog.info? 60).map (fun i=>(i.zero.map (fun z=>z.cells.size),i.size,i.bytes))=some (some 1,1,24):=by kernel_rfl
 cases hi : Try.prog.info? 60 with
 | none=>rw [hi] at h;simp at h
 | some i =>
  rw [hi] at h
  simp only [Option.map_some,Option.some.injEq,Prod.mk.injEq] at h
  obtain ⟨h1,h2,h3⟩:=h
  cases hz : i.zero with
  | none=>rw [hz] at h1;simp at h1
  | some z =>
   rw [hz] at h1
   exact ⟨i,z,rfl,hz,h2,by simpa using h1,h3⟩
def RetSt (w : World) (x : Stk) (en : Ending) (w' : World) : Prop := ∃ v vs,en = .returned (.agg #[.int .i64 x.num,v])∧OwnS w' w.heap.size v vs x.cells∧Ext w w'
def RetK (w : World) (x : Stk) (n : Int) (en : Ending) (w' : World) : Prop := ∃ v vs,en = .returned (.tuple #[.agg #[.int .i64 x.num,v],.int .i64 n])∧OwnS w' w.heap.size v vs x.cells∧Ext w w'
end Go.Proofs.Ytnplphcnagooeaa
