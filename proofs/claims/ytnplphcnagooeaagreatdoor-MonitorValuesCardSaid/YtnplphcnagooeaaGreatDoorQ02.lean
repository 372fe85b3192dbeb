/- Several texts in one: ReadM, GrdA, GrdB, ItemsA, ItemsB, ItemsC, ItemsD, GrdC, GrdD, GrdE, ItemsE. -/
import Derived.Test.YtnplphcnagooeaaGreatDoorQ01
import Derived.Test.YtnplphcnagooeaaGreatDoorProg
import Derived.BigQuiet
import Derived.Deep.QuietTactic
import Derived.Deep.RegionHeld3
import Derived.Deep.DeepMust
import Derived.Deep.RegionLaw
/- How the arguments of a statement read: pointers, cells, memories. -/
namespace Go.Proofs.YtnplphcnagooeaaGreatDoor
set_option maxRecDepth 100000
open Go.ChangeShapes Go.WideShapes Go.ChangeAt Go.RowKit
theorem All2.tab {α : Type} {row : Value→α→List Value} {Q : Value→α→Prop} : ∀ {rows : List (List Value)} {l : List α},All2 (fun cs a => ∃ s,cs=row s a∧Q s a) rows l → ∃ vs,All2 Q vs l∧rows.flatten=trows row vs l
 | [],[],_=>⟨[],trivial,rfl⟩
 | r :: rows,a :: l,h=>by
  obtain ⟨vs,h1,h2⟩:=All2.tab h.2
  obtain ⟨s,rfl,hq⟩:=h.1
  exact ⟨s :: vs,⟨hq,h1⟩,by rw [List.flatten_cons,h2];simp [trows]⟩
section
variable {H : Type} {enc : TypeId × Value→H} {w : World} {base : Nat} {spare : Nat→Bool} {held : Bool}
def Ptr.row (p : Ptr) : List Value:=[.int .i64 p.a,.int .i64 p.o,.int .i64 p.t]
def Ptr.wf (p : Ptr) : Prop:=i64B p.a∧i64B p.o∧i64B p.t
theorem read_ptr (n : Nat) (cs : List Value) (x : DataW H × List MemPlace) (hl : cs.length=3) (h : DataW.trod enc Tryz.prog w base spare held n 30 cs=some x) : ∃ a : Ptr,cs=a.row∧a.wf:=by
 have c64 : Tryz.prog.cellsOf 3=1:=by kernel_rfl
 obtain ⟨xs,m,rfl,rfl,_,hx,hf⟩:=DataW.trod_struct Tryz.underlying30 h
 match cs,hl with
 | [c0,c1,c2],_ =>
  have f0 : DataW.trod enc Tryz.prog w base spare held m 3 (([c0,c1,c2].drop 0).take (Tryz.prog.cellsOf 3))=xs[0]? := hf 0 _ rfl
  have f1 : DataW.trod enc Tryz.prog w base spare held m 3 (([c0,c1,c2].drop 1).take (Tryz.prog.cellsOf 3))=xs[1]? := hf 1 _ rfl
  have f2 : DataW.trod enc Tryz.prog w base spare held m 3 (([c0,c1,c2].drop 2).take (Tryz.prog.cellsOf 3))=xs[2]? := hf 2 _ rfl
  rw [c64] at f0 f1 f2
  match xs,hx with
  | [y0,y1,y2],_ =>
   obtain ⟨p,e0,_,w0⟩:=DataW.trod_int Tryz.underlying3 f0
   obtain ⟨t,e1,_,w1⟩:=DataW.trod_int Tryz.underlying3 f1
   obtain ⟨c,e2,_,w2⟩:=DataW.trod_int Tryz.underlying3 f2
   simp at e0 e1 e2
   subst e0 e1 e2
   refine ⟨⟨p,t,c⟩,rfl,?_,?_,?_⟩
   ·simpa [Lit.wf,IntKind.min,IntKind.max,IntKind.signed,IntKind.bits,i64B] using w0
   ·simpa [Lit.wf,IntKind.min,IntKind.max,IntKind.signed,IntKind.bits,i64B] using w1
   ·simpa [Lit.wf,IntKind.min,IntKind.max,IntKind.signed,IntKind.bits,i64B] using w2
theorem open_ptrv {r : Reach} {b0 : Nat} {v : Value} {d : DataW H} {p : List MemPlace} (hv : Value.okWide Tryz.prog w r b0 30 v) (h : DataW.Trod enc Tryz.prog w base spare held 30 v d p) :
  ∃ x : Ptr,v=x.val∧x.wf:=by
 obtain ⟨cs,rfl,hsz⟩:=okWide_struct Tryz.underlying30 hv
 have hc : Tryz.prog.cellsOf 30=3:=by kernel_rfl
 obtain ⟨n,hn⟩:=h
 obtain ⟨x,e,hw⟩:=read_ptr n _ _ (by simp only [Value.cells,Array.length_toList];exact hsz.trans hc) hn
 refine ⟨x,?_,hw⟩
 unfold Ptr.val
 congr 1
 apply Array.toList_inj.1
 simpa [Value.cells,Ptr.row] using e
def Cell.wf (c : Cell) : Prop:=(0≤c.k∧c.k≤255)∧i64B c.n∧i64B c.a∧i64B c.o∧i64B c.t
theorem read_cell (n : Nat) (cs : List Value) (x : DataW H × List MemPlace) (hl : cs.length=5) (h : DataW.trod enc Tryz.prog w base spare held n 78 cs=some x) : ∃ a : Cell,cs=a.row∧a.wf:=by
 have c8 : Tryz.prog.cellsOf 5=1:=by kernel_rfl
 have c64 : Tryz.prog.cellsOf 2=1:=by kernel_rfl
 have cP : Tryz.prog.cellsOf 30=3:=by kernel_rfl
 obtain ⟨xs,m,rfl,rfl,_,hx,hf⟩:=DataW.trod_struct Tryz.underlying78 h
 match cs,hl with
 | [c0,c1,c2,c3,c4],_ =>
  have f0 : DataW.trod enc Tryz.prog w base spare held m 5 (([c0,c1,c2,c3,c4].drop 0).take (Tryz.prog.cellsOf 5))=xs[0]? := hf 0 _ rfl
  have f1 : DataW.trod enc Tryz.prog w base spare held m 2 (([c0,c1,c2,c3,c4].drop 1).take (Tryz.prog.cellsOf 2))=xs[1]? := hf 1 _ rfl
  have f2 : DataW.trod enc Tryz.prog w base spare held m 30 (([c0,c1,c2,c3,c4].drop 2).take (Tryz.prog.cellsOf 30))=xs[2]? := hf 2 _ rfl
  rw [c8] at f0
  rw [c64] at f1
  rw [cP] at f2
  match xs,hx with
  | [y0,y1,y2],_ =>
   obtain ⟨p,e0,_,w0⟩:=DataW.trod_int Tryz.underlying5 f0
   obtain ⟨t,e1,_,w1⟩:=DataW.trod_int Tryz.underlying2 f1
   obtain ⟨q,e2,w2⟩:=read_ptr m _ _ (by simp) f2
   simp [Ptr.row] at e0 e1 e2
   obtain ⟨e2,e3,e4⟩:=e2
   subst e0 e1 e2 e3 e4
   refine ⟨⟨p,t,q.a,q.o,q.t⟩,rfl,?_,?_,w2⟩
   ·simpa [Lit.wf,IntKind.min,IntKind.max,IntKind.signed,IntKind.bits] using w0
   ·simpa [Lit.wf,IntKind.min,IntKind.max,IntKind.signed,IntKind.bits,i64B] using w1
theorem rows_of_cells : ∀ {rows : List (List Value)} {l : List Cell},All2 (fun cs (a : Cell)=>cs=a.row∧a.wf) rows l→rows.flatten=l.flatMap Cell.row ∧ ∀ a ∈ l,a.wf
 | [],[],_=>⟨rfl,fun _ h=>by cases h⟩
 | r :: rows,a :: l,h=>by
  obtain ⟨h1,h2⟩:=rows_of_cells h.2
  refine ⟨by rw [List.flatten_cons,List.flatMap_cons,h1,h.1.1],fun b hb => ?_⟩
  rcases List.mem_cons.1 hb with rfl | hb
  ·exact h.1.2
  ·exact h2 b hb
theorem read_cells {t : Nat} (ht : Tryz.prog.underlying t=some (.slice 78)) {n : Nat} {cs : List Value} {x : DataW H × List MemPlace} (h : DataW.trod enc Tryz.prog w base spare held n t cs=some x) :
  ∃ (v : Value) (l : List Cell),cs=[v]∧Cls w v l ∧ ∀ a ∈ l,a.wf:=by
 obtain ⟨v,rows,l,rfl,hs,_,ha⟩:=read_slice (k:=5) ht (by kernel_rfl) (by omega) (fun cs (a : Cell)=>cs=a.row∧a.wf) (fun n cs x hl h=>read_cell n cs x hl h) h
 obtain ⟨e,hw⟩:=rows_of_cells ha
 refine ⟨v,l,rfl,?_,hw⟩
 unfold Cls
 rw [← e,← ha.length]
 exact hs
theorem open_cells {t : Nat} (ht : Tryz.prog.underlying t=some (.slice 78)) {r : Reach} {b0 : Nat} {v : Value} {d : DataW H} {p : List MemPlace} (hv : Value.okWide Tryz.prog w r b0 t v) (h : DataW.Trod enc Tryz.prog w base spare held t v d p) :
  ∃ l : List Cell,Cls w v l ∧ ∀ a ∈ l,a.wf:=by
 obtain ⟨a0,len,cap,rfl⟩:=okWide_slice ht hv
 obtain ⟨n,hn⟩:=h
 obtain ⟨u,l,e,hl,hw⟩:=read_cells ht hn
 simp only [Value.cells,List.cons.injEq,and_true] at e
 subst e
 exact ⟨l,hl,hw⟩
def Alloc.wf (a : Alloc) : Prop:=i64B a.num ∧ ∀ c ∈ a.cells,c.wf
theorem read_alloc (n : Nat) (cs : List Value) (x : DataW H × List MemPlace) (hl : cs.length=3) (h : DataW.trod enc Tryz.prog w base spare held n 74 cs=some x) : ∃ a : Alloc,∃ s,cs=arow s a∧Cls w s a.cells∧a.wf:=by
 have c64 : Tryz.prog.cellsOf 3=1:=by kernel_rfl
 have cB : Tryz.prog.cellsOf 4=1:=by kernel_rfl
 have cS : Tryz.prog.cellsOf 31=1:=by kernel_rfl
 obtain ⟨xs,m,rfl,rfl,_,hx,hf⟩:=DataW.trod_struct Tryz.underlying74 h
 match cs,hl with
 | [c0,c1,c2],_ =>
  have f0 : DataW.trod enc Tryz.prog w base spare held m 3 (([c0,c1,c2].drop 0).take (Tryz.prog.cellsOf 3))=xs[0]? := hf 0 _ rfl
  have f1 : DataW.trod enc Tryz.prog w base spare held m 4 (([c0,c1,c2].drop 1).take (Tryz.prog.cellsOf 4))=xs[1]? := hf 1 _ rfl
  have f2 : DataW.trod enc Tryz.prog w base spare held m 31 (([c0,c1,c2].drop 2).take (Tryz.prog.cellsOf 31))=xs[2]? := hf 2 _ rfl
  rw [c64] at f0
  rw [cB] at f1
  rw [cS] at f2
  match xs,hx with
  | [y0,y1,y2],_ =>
   obtain ⟨p,e0,_,w0⟩:=DataW.trod_int Tryz.underlying3 f0
   obtain ⟨t,e1,_⟩:=DataW.trod_bool Tryz.underlying4 f1
   obtain ⟨q,l,e2,hc,w2⟩:=read_cells Tryz.underlying31 f2
   simp at e0 e1 e2
   subst e0 e1 e2
   refine ⟨⟨p,t,l⟩,c2,rfl,hc,?_,w2⟩
   simpa [Lit.wf,IntKind.min,IntKind.max,IntKind.signed,IntKind.bits,i64B] using w0
theorem read_allocs {t : Nat} (ht : Tryz.prog.underlying t=some (.slice 74)) {n : Nat} {cs : List Value} {x : DataW H × List MemPlace} (h : DataW.trod enc Tryz.prog w base spare held n t cs=some x) :
  ∃ (v : Value) (l : List Alloc),cs=[v]∧Als w v l ∧ ∀ a ∈ l,a.wf:=by
 obtain ⟨v,rows,l,rfl,hs,_,ha⟩:=read_slice (k:=3) ht (by kernel_rfl) (by omega) (fun cs (a : Alloc) => ∃ s,cs=arow s a∧Cls w s a.cells∧a.wf) (fun n cs x hl h=>read_alloc n cs x hl h) h
 obtain ⟨vs,h1,h2⟩:=ha.tab
 refine ⟨v,l,rfl,⟨vs,h1.mono fun _ _ h=>h.1,?_⟩,fun a hm => ?_⟩
 ·rw [← h2,← ha.length]
  exact hs
 ·obtain ⟨i,hi⟩:=List.mem_iff_getElem?.1 hm
  obtain ⟨s,_,_,hw⟩:=h1.get hi
  exact hw
def Mem.wf (m : Mem) : Prop:=i64B m.next ∧ ∀ a ∈ m.al,a.wf
theorem read_mem (n : Nat) (cs : List Value) (x : DataW H × List MemPlace) (hl : cs.length=2) (h : DataW.trod enc Tryz.prog w base spare held n 24 cs=some x) : ∃ (m : Mem) (s : Value),cs=[s,.int .i64 m.next]∧Als w s m.al∧m.wf:=by
 have c64 : Tryz.prog.cellsOf 3=1:=by kernel_rfl
 have cS : Tryz.prog.cellsOf 22=1:=by kernel_rfl
 obtain ⟨xs,m,rfl,rfl,_,hx,hf⟩:=DataW.trod_struct Tryz.underlying24 h
 match cs,hl with
 | [c0,c1],_ =>
  have f0 : DataW.trod enc Tryz.prog w base spare held m 22 (([c0,c1].drop 0).take (Tryz.prog.cellsOf 22))=xs[0]? := hf 0 _ rfl
  have f1 : DataW.trod enc Tryz.prog w base spare held m 3 (([c0,c1].drop 1).take (Tryz.prog.cellsOf 3))=xs[1]? := hf 1 _ rfl
  rw [cS] at f0
  rw [c64] at f1
  match xs,hx with
  | [y0,y1],_ =>
   obtain ⟨s,l,e0,hl,wl⟩:=read_allocs Tryz.underlying22 f0
   obtain ⟨p,e1,_,w1⟩:=DataW.trod_int Tryz.underlying3 f1
   simp at e0 e1
   subst e0 e1
   refine ⟨⟨l,p⟩,c0,rfl,hl,?_,wl⟩
   simpa [Lit.wf,IntKind.min,IntKind.max,IntKind.signed,IntKind.bits,i64B] using w1
end
end Go.Proofs.YtnplphcnagooeaaGreatDoor

/- Running calls: what a slice of numbers reads aas, and what the functions of layer 31 on calls compute; no program in sight. -/
namespace Go.Proofs.YtnplphcnagooeaaGreatDoor
set_option maxRecDepth 100000
open Go.RowKit
def irow (n : Int) : List Value:=[.int .i64 n]
theorem irow_len (n : Int) : (irow n).length=1:=rfl
def Nts (w : World) (v : Value) (l : List Int) : Prop:=Sl w 1 v l.length (l.flatMap irow)
theorem Nts.ext {w w' : World} {v : Value} {l : List Int} (h : Nts w v l) (he : Ext w w') : Nts w' v l:=Sl.ext h he
theorem Nts.nil (w : World) : Nts w (.slice none 0 0) []:=Sl.nil w 1
theorem Nts.form {w : World} {v : Value} {l : List Int} (h : Nts w v l) : ∃ a cap,v = .slice a l.length cap∧l.length≤cap∧cap≤maxLen∧(a=none→cap=0):=Sl.slice_form h
theorem Nts.cell {w : World} {a : Option Addr} {n cap : Nat} {l : List Int} (h : Nts w (.slice a n cap) l) {i : Nat} {x : Int} (hx : l[i]? = some x) : ∃ b off,a=some ⟨b,off,none⟩∧b < w.heap.size∧w.cell? ⟨b,off+i,none⟩=some (.int .i64 x):=by
 have hi : i < l.length:=(List.getElem?_eq_some_iff.1 hx).1
 obtain ⟨b,off,rfl,hb,hc⟩:=Sl.at h (by omega) (by omega : 0 < l.length)
 refine ⟨b,off,rfl,hb,?_⟩
 have:=hc (i * 1+0) _ ((rows_get irow irow_len l i 0 x hx (by omega)).trans rfl)
 simpa using this
theorem Nts.one (l : List Int) : ∀ u ∈ l.flatMap irow,u.oneCell'=true:=by
 intro u hu
 obtain ⟨x,_,hx⟩:=List.mem_flatMap.1 hu
 simp only [irow,List.mem_cons,List.not_mem_nil,or_false] at hx
 subst hx
 rfl
theorem Nts.take {w : World} {a : Option Addr} {n cap : Nat} {l : List Int} (h : Nts w (.slice a n cap) l) (i : Nat) (hi : i≤l.length) : Nts w (.slice a i cap) (l.take i):=by
 have:=Sl.take h i hi
 rw [rows_take irow irow_len] at this
 unfold Nts
 rw [List.length_take,Nat.min_eq_left hi]
 exact this
def okFrom : Int→List Int→Bool
 | _,[]=>true
 | last,n :: l=>decide (last < n) && decide (n≤1000000) && okFrom n l
def okR (l : List Int) : Bool:=decide (l.length≤32) && okFrom 0 l
def runErr (l : List Int) : Int:=if okR l then 0 else 8
theorem okFrom_drop {last : Int} {l : List Int} {k : Nat} {x : Int} (hx : l[k]? = some x) : okFrom last (l.drop k)=(decide (last < x) && decide (x≤1000000) && okFrom x (l.drop (k+1))):=by
 obtain ⟨hk,rfl⟩:=List.getElem?_eq_some_iff.1 hx
 rw [List.drop_eq_getElem_cons hk]
 rfl
theorem okFrom_all {last : Int} {l : List Int} (h : okFrom last l=true) : ∀ n ∈ l,last < n∧n≤1000000:=by
 induction l generalizing last with
 | nil=>intro n hn;cases hn
 | cons x l ih =>
  simp only [okFrom,Bool.and_eq_true,decide_eq_true_eq] at h
  intro n hn
  rcases List.mem_cons.1 hn with rfl | hn
  ·omega
  ·have:=ih h.2 n hn;omega
theorem okFrom_lt {last : Int} {l : List Int} (h : okFrom last l=true) {i j : Nat} {x y : Int} (hij : i < j) (hx : l[i]? = some x) (hy : l[j]? = some y) : x < y:=by
 induction l generalizing last i j with
 | nil=>simp at hx
 | cons z l ih =>
  simp only [okFrom,Bool.and_eq_true,decide_eq_true_eq] at h
  cases j with
  | zero=>omega
  | succ j =>
   cases i with
   | zero =>
    simp only [List.getElem?_cons_zero,Option.some.injEq] at hx
    subst hx
    exact (okFrom_all h.2 y (List.mem_of_getElem? (by simpa using hy))).1
   | succ i=>exact ih (i:=i) (j:=j) h.2 (by omega) (by simpa using hx) (by simpa using hy)
def lastR (l : List Int) : Int:=l.getLastD 0
def enterR (l : List Int) (call : Int) : List Int × Int :=
 if okR l then if call≤lastR l∨1000000 < call then ([],2) else if l.length=32 then ([],18) else (l ++ [call],0) else ([],8)
def leaveR (l : List Int) : List Int × Int:=if okR l then if l.length=0 then ([],6) else (l.take (l.length - 1),0) else ([],8)
def hasR (run : List Int) (t : Int) : Bool:=run.contains t
def RetIB (b : Bool) (w : World) (e : Ending) (w' : World) : Prop := ∃ i : Int,e = .returned (.tuple #[.int .i64 i,.bool b])∧w=w'
def heldBy (run : List Int) (x : Item) : Bool:=hasR run x.c
def firstR (items : List Item) (run : List Int) : Option Nat:=items.findIdx? (heldBy run)
theorem lastR_get {l : List Int} {x : Int} (hx : l[l.length - 1]? = some x) : lastR l=x:=by
 unfold lastR
 rw [List.getLastD_eq_getLast?,List.getLast?_eq_getElem?,hx]
 rfl
theorem lastR_nil : lastR []=0:=rfl
theorem runErr_ok {l : List Int} (h : okR l=true) : runErr l=0:=by simp [runErr,h]
theorem runErr_bad {l : List Int} (h : okR l=false) : runErr l=8:=by simp [runErr,h]
theorem okR_len {l : List Int} (h : okR l=true) : l.length≤32:=by
 unfold okR at h
 simp only [Bool.and_eq_true,decide_eq_true_eq] at h
 exact h.1
theorem okR_from {l : List Int} (h : okR l=true) : okFrom 0 l=true:=by
 unfold okR at h
 simp only [Bool.and_eq_true] at h
 exact h.2
end Go.Proofs.YtnplphcnagooeaaGreatDoor

/- Contracts: the tests of running calls, the search in them, and what compares them. -/
namespace Go.Proofs.YtnplphcnagooeaaGreatDoor
set_option maxRecDepth 100000
open Go.RowKit
set_option maxHeartbeats 800000 in
theorem guard_Check {l : List Int} {v : Value} {w : World} (hl : Nts w v l) : Calls Tryz.prog 77 #[v] w fun e w'=>e = .returned (.int .i64 (runErr l))∧w=w':=by
 obtain ⟨a,cp,rfl,hlc,hcm,-⟩:=hl.form
 unfold maxLen at hcm
 have hL:=Lib.hid hl
 clear hl
 by_cases h6 : l.length≤32
 ·have hd : decide ((32 : Int) < (l.length : Int))=false:=decide_eq_false (by omega)
  go_enter Tryz.func77,Tryz.ntmps77
  go_wp2
  go_loop [3,11] (fun lv iv => ∃ (k : Nat) (last : Int),k≤l.length∧iv = .int .i64 k∧lv = .int .i64 last∧Hid (okFrom 0 l=okFrom last (l.drop k))) (fun _ iv=>l.length - (intOf iv).toNat)
  case atStart=>exact ⟨0,0,Nat.zero_le _,rfl,rfl,by simp [Hid]⟩
  case round =>
   obtain ⟨k,last,hk,rfl,rfl,hN⟩:=hrel
   by_cases hlt : k < l.length
   ·obtain ⟨x,hx⟩ : ∃ x,l[k]? = some x:=⟨l[k],by simp [hlt]⟩
    obtain ⟨b,off,rfl,hb,c0⟩:=hL.out.cell hx
    have hst:=Lib.hid (hN.out.trans (okFrom_drop hx))
    clear hx
    by_cases g1 : x≤last
    ·have q1 : decide (x≤last)=true:=decide_eq_true g1
     have hr : Hid (runErr l=8):=Hid.mk (runErr_bad (by rw [okR,hst.out];simp;omega))
     go_wp2
     go_ret
     exact ⟨by rw [hr.out];rfl,rfl⟩
    ·have q1 : decide (x≤last)=false:=decide_eq_false g1
     by_cases g2 : 1000000 < x
     ·have q2 : decide (1000000 < x)=true:=decide_eq_true g2
      have hr : Hid (runErr l=8):=Hid.mk (runErr_bad (by rw [okR,hst.out];simp;omega))
      go_wp2
      go_ret
      exact ⟨by rw [hr.out];rfl,rfl⟩
     ·have q2 : decide (1000000 < x)=false:=decide_eq_false g2
      have hst2 : Hid (okFrom 0 l=okFrom x (l.drop (k+1))):=Hid.mk (by rw [hst.out,decide_eq_true (by omega),decide_eq_true (by omega)];rfl)
      go_wp2
      go_round
      case rel=>exact ⟨k+1,x,by omega,by go_num,rfl,hst2.out⟩
      case measure=>simp [intOf];omega
   ·have hkl : k=l.length:=by omega
    subst hkl
    have hr : Hid (runErr l=0):=Hid.mk (runErr_ok (by rw [okR,hN.out,List.drop_length];simp [okFrom,h6]))
    go_wp2
    go_ret
    exact ⟨by rw [hr.out];rfl,rfl⟩
 ·have hd : decide ((32 : Int) < (l.length : Int))=true:=decide_eq_true (by omega)
  have hr : Hid (runErr l=8):=Hid.mk (runErr_bad (by rw [okR];simp;omega))
  go_enter Tryz.func77,Tryz.ntmps77
  go_wp2
  go_ret
  exact ⟨by rw [hr.out];rfl,rfl⟩
set_option maxHeartbeats 800000 in
theorem ref31_Check {l : List Int} {v : Value} {w : World} (hl : Nts w v l) : Calls Tryz.prog 58 #[v] w fun e w'=>e = .returned (.int .i64 (runErr l))∧w=w':=by
 obtain ⟨a,cp,rfl,hlc,hcm,-⟩:=hl.form
 unfold maxLen at hcm
 have hL:=Lib.hid hl
 clear hl
 by_cases h6 : l.length≤32
 ·have hd : decide ((32 : Int) < (l.length : Int))=false:=decide_eq_false (by omega)
  go_enter Tryz.func58,Tryz.ntmps58
  go_wp2
  go_loop [3,4] (fun lv iv => ∃ (k : Nat) (last : Int),k≤l.length∧iv = .int .i64 k∧lv = .int .i64 last∧Hid (okFrom 0 l=okFrom last (l.drop k))) (fun _ iv=>l.length - (intOf iv).toNat)
  case atStart=>exact ⟨0,0,Nat.zero_le _,rfl,rfl,by simp [Hid]⟩
  case round =>
   obtain ⟨k,last,hk,rfl,rfl,hN⟩:=hrel
   by_cases hlt : k < l.length
   ·obtain ⟨x,hx⟩ : ∃ x,l[k]? = some x:=⟨l[k],by simp [hlt]⟩
    obtain ⟨b,off,rfl,hb,c0⟩:=hL.out.cell hx
    have hst:=Lib.hid (hN.out.trans (okFrom_drop hx))
    clear hx
    by_cases g1 : x≤last
    ·have q1 : decide (x≤last)=true:=decide_eq_true g1
     have hr : Hid (runErr l=8):=Hid.mk (runErr_bad (by rw [okR,hst.out];simp;omega))
     go_wp2
     go_ret
     exact ⟨by rw [hr.out];rfl,rfl⟩
    ·have q1 : decide (x≤last)=false:=decide_eq_false g1
     by_cases g2 : 1000000 < x
     ·have q2 : decide (1000000 < x)=true:=decide_eq_true g2
      have hr : Hid (runErr l=8):=Hid.mk (runErr_bad (by rw [okR,hst.out];simp;omega))
      go_wp2
      go_ret
      exact ⟨by rw [hr.out];rfl,rfl⟩
     ·have q2 : decide (1000000 < x)=false:=decide_eq_false g2
      have hst2 : Hid (okFrom 0 l=okFrom x (l.drop (k+1))):=Hid.mk (by rw [hst.out,decide_eq_true (by omega),decide_eq_true (by omega)];rfl)
      go_wp2
      go_round
      case rel=>exact ⟨k+1,x,by omega,by go_num,rfl,hst2.out⟩
      case measure=>simp [intOf];omega
   ·have hkl : k=l.length:=by omega
    subst hkl
    have hr : Hid (runErr l=0):=Hid.mk (runErr_ok (by rw [okR,hN.out,List.drop_length];simp [okFrom,h6]))
    go_wp2
    go_ret
    exact ⟨by rw [hr.out];rfl,rfl⟩
 ·have hd : decide ((32 : Int) < (l.length : Int))=true:=decide_eq_true (by omega)
  have hr : Hid (runErr l=8):=Hid.mk (runErr_bad (by rw [okR];simp;omega))
  go_enter Tryz.func58,Tryz.ntmps58
  go_wp2
  go_ret
  exact ⟨by rw [hr.out];rfl,rfl⟩
theorem cmp_isNaN (n : Int) (w : World) : Calls Tryz.prog 156 #[.int .i64 n] w fun e w'=>e = .returned (.bool false)∧w=w':=by
 go_enter Tryz.func156,Tryz.ntmps156
 go_wp2
 go_ret
 exact ⟨rfl,rfl⟩
theorem slices_isNaN (n : Int) (w : World) : Calls Tryz.prog 149 #[.int .i64 n] w fun e w'=>e = .returned (.bool false)∧w=w':=by
 go_enter Tryz.func149,Tryz.ntmps149
 go_wp2
 go_ret
 exact ⟨rfl,rfl⟩
theorem cmp_Less (n m : Int) (w : World) : Calls Tryz.prog 148 #[.int .i64 n,.int .i64 m] w fun e w'=>e = .returned (.bool (decide (n < m)))∧w=w':=by
 go_enter Tryz.func148,Tryz.ntmps148
 go_wp2_with fail
 refine (cmp_isNaN _ _).mono ?_
 rintro e w' ⟨rfl,rfl⟩
 go_wp2
 go_ret
 exact ⟨rfl,rfl⟩
theorem search_end {l : List Int} {t : Int} (hs : okFrom 0 l=true) {i : Nat} (hlo : ∀ k x,k < i→l[k]? = some x→x < t) (hhi : ∀ k x,i≤k→l[k]? = some x→t≤x) : l.contains t=(l[i]? == some t):=by
 cases h : l.contains t
 ·cases h2 : (l[i]? == some t)
  ·rfl
  ·have h3 : l[i]? = some t:=by simpa using h2
   have:=List.mem_of_getElem? h3
   have h4 : l.contains t=true:=by simpa using this
   rw [h] at h4;cases h4
 ·have hm : t ∈ l:=by simpa using h
  obtain ⟨k,hk⟩:=List.mem_iff_getElem?.1 hm
  rcases Nat.lt_trichotomy k i with h1 | h1 | h1
  ·have:=hlo k t h1 hk;omega
  ·subst h1;simp [hk]
  ·have hlt : i < l.length:=by have:=(List.getElem?_eq_some_iff.1 hk).1;omega
   have h5 : l[i]? = some l[i]:=by simp [hlt]
   have:=hhi i _ (Nat.le_refl _) h5
   have:=okFrom_lt hs h1 h5 hk
   omega
set_option maxHeartbeats 1600000 in
theorem binarySearch {l : List Int} {v : Value} {w : World} (t : Int) (hl : Nts w v l) (hs : okFrom 0 l=true) (hlen : l.length≤1000) :
  Calls Tryz.prog 143 #[v,.int .i64 t] w (RetIB (hasR l t) w):=by
 obtain ⟨a,cp,rfl,hlc,hcm,-⟩:=hl.form
 unfold maxLen at hcm
 have hL:=Lib.hid hl
 have hS:=Lib.hid hs
 clear hl hs
 go_enter Tryz.func143,Tryz.ntmps143
 go_wp2
 go_loop [7,8] (fun iv jv => ∃ i j : Nat,i≤j∧j≤l.length∧iv = .int .i64 i∧jv = .int .i64 j∧Hid ((∀ k x,k < i→l[k]? = some x→x < t)∧(∀ k x,j≤k→l[k]? = some x→t≤x))) (fun iv jv=>(intOf jv).toNat - (intOf iv).toNat)
 case atStart=>exact ⟨0,l.length,Nat.zero_le _,Nat.le_refl _,rfl,rfl,⟨fun k x h=>by omega,fun k x h hx=>by rw [List.getElem?_eq_none h] at hx;cases hx⟩⟩
 case round =>
  obtain ⟨i,j,hij,hj,rfl,rfl,hN⟩:=hrel
  by_cases hlt : i < j
  ·obtain ⟨x,hx⟩ : ∃ x,l[(i+j) / 2]? = some x:=⟨l[(i+j) / 2]'(by omega),by simp⟩
   obtain ⟨b,off,rfl,hb,c0⟩:=hL.out.cell hx
   have hi0 : (0 : Int)≤((i : Int)+(j : Int)) / 2:=by omega
   have hi1 : ((i : Int)+(j : Int)) / 2 < (l.length : Int):=by omega
   have hmid : Hid (i≤(i+j) / 2∧(i+j) / 2 < j):=Hid.mk (by omega)
   by_cases hxt : x < t
   ·have hq : Hid (decide (x < t)=true):=Hid.mk (decide_eq_true hxt)
    have hR : Hid ((∀ k y,k < (i+j) / 2+1→l[k]? = some y→y < t)∧(∀ k y,j≤k→l[k]? = some y→t≤y)):=Hid.mk ⟨fun k y hk hy=>by
     rcases Nat.lt_or_eq_of_le (Nat.lt_succ_iff.1 hk) with h1 | h1
     ·have:=okFrom_lt hS.out h1 hy hx;omega
     ·subst h1;rw [hx] at hy;cases hy;exact hxt,hN.out.2⟩
    clear hx hxt
    go_wp2_with fail
    refine (cmp_Less _ _ _).mono ?_
    rintro e w' ⟨rfl,rfl⟩
    rw [hq.out]
    go_wp2
    go_round
    case rel=>exact ⟨(i+j) / 2+1,j,by have:=hmid.out;omega,hj,by congr 1,rfl,hR.out⟩
    case measure=>have:=hmid.out;simp [intOf];omega
   ·have hq : Hid (decide (x < t)=false):=Hid.mk (decide_eq_false hxt)
    have hR : Hid ((∀ k y,k < i→l[k]? = some y→y < t)∧(∀ k y,(i+j) / 2≤k→l[k]? = some y→t≤y)):=Hid.mk ⟨hN.out.1,fun k y hk hy=>by
     rcases Nat.lt_or_eq_of_le hk with h1 | h1
     ·have:=okFrom_lt hS.out h1 hx hy;omega
     ·subst h1;rw [hx] at hy;cases hy;omega⟩
    clear hx hxt
    go_wp2_with fail
    refine (cmp_Less _ _ _).mono ?_
    rintro e w' ⟨rfl,rfl⟩
    rw [hq.out]
    go_wp2
    go_round
    case rel=>exact ⟨i,(i+j) / 2,by have:=hmid.out;omega,by have:=hmid.out;omega,rfl,by congr 1,hR.out⟩
    case measure=>have:=hmid.out;simp [intOf];omega
  ·obtain rfl : i=j:=by omega
   have hend:=search_end hS.out hN.out.1 hN.out.2
   by_cases hil : i < l.length
   ·obtain ⟨x,hx⟩ : ∃ x,l[i]? = some x:=⟨l[i],by simp [hil]⟩
    obtain ⟨b,off,rfl,hb,c0⟩:=hL.out.cell hx
    have hi0 : (0 : Int)≤(i : Int):=by omega
    have hi1 : (i : Int) < (l.length : Int):=by omega
    have hd : decide ((i : Int) < (l.length : Int))=true:=decide_eq_true (by omega)
    rw [hx] at hend
    have hend' : Hid (hasR l t=(x == t)):=Hid.mk (by rw [hasR,hend];rfl)
    clear hx hend
    cases hxt : x == t
    ·rw [hxt] at hend'
     go_wp2_with (go_at_call 149;refine (slices_isNaN _ _).mono ?_;rintro e w' ⟨rfl,rfl⟩)
     go_ret2
     exact ⟨_,by rw [hend'.out];rfl,rfl⟩
    ·rw [hxt] at hend'
     go_wp2_with (go_at_call 149;refine (slices_isNaN _ _).mono ?_;rintro e w' ⟨rfl,rfl⟩)
     go_ret2
     exact ⟨_,by rw [hend'.out];rfl,rfl⟩
   ·have hd : decide ((i : Int) < (l.length : Int))=false:=decide_eq_false (by omega)
    rw [List.getElem?_eq_none (by omega)] at hend
    have hend' : Hid (hasR l t=false):=Hid.mk (by rw [hasR,hend];rfl)
    clear hend
    go_wp2
    go_ret2
    exact ⟨_,by rw [hend'.out];rfl,rfl⟩
end Go.Proofs.YtnplphcnagooeaaGreatDoor

/- Contracts: the tests of items, IndexFunc and ContainsFunc over items, items.Check. -/
namespace Go.Proofs.YtnplphcnagooeaaGreatDoor
set_option maxRecDepth 100000
open Go.RowKit
set_option maxHeartbeats 400000 in
theorem items_in (n : Int) (w : World) : Calls Tryz.prog 124 #[.int .i64 n] w fun e w'=>e = .returned (.bool (inB n))∧w=w':=by
 by_cases h0 : 0≤n <;> by_cases h1 : n≤1000000
 all_goals
  go_enter Tryz.func124,Tryz.ntmps124
  go_wp2
  go_ret
  exact ⟨by simp [inB, *],rfl⟩
set_option maxHeartbeats 400000 in
theorem items_isItem (x : Item) (w : World) : Calls Tryz.prog 127 #[x.val] w fun e w'=>e = .returned (.bool x.ok)∧Ext w w':=by
 obtain ⟨p,t,c⟩:=x
 have hE:=(Ext.refl w).alloc (.cells #[.int .u8 p,.int .i64 t,.int .i64 c] 70)
 unfold Item.val
 cases ht : inB t <;> cases hc : inB c
 all_goals
  go_enter Tryz.func127,Tryz.ntmps127
  go_wp2_with (go_at_call 124;refine (items_in _ _).mono ?_;rintro e w' ⟨rfl,rfl⟩)
  all_goals
   go_ret
   exact ⟨by simp_all [Item.ok],hE⟩
def PredAt (g : Nat) (cap : Array Value) (W : World) (p : Item→Bool) : Prop :=
 ∀ (x : Item) (w : World),Ext W w→Calls Tryz.prog g (#[x.val] ++ cap) w fun e w'=>e = .returned (.bool (p x))∧Ext w w'
def idxOf : Option Nat→Int
 | none => -1
 | some i=>i
theorem findIdx_hit {α : Type} {p : α→Bool} {l : List α} {k : Nat} {x : α} (h : (l.take k).any p=false) (hx : l[k]? = some x) (hp : p x=true) : l.findIdx? p=some k:=by
 rw [List.findIdx?_eq_some_iff_getElem]
 obtain ⟨hk,rfl⟩:=List.getElem?_eq_some_iff.1 hx
 refine ⟨hk,hp,fun j hj => ?_⟩
 simp only [List.any_eq_false] at h
 have:=h l[j] (by rw [List.mem_iff_getElem?];exact ⟨j,by rw [List.getElem?_take,if_pos hj];simp⟩)
 simpa using this
theorem findIdx_miss {α : Type} {p : α→Bool} {l : List α} (h : l.any p=false) : l.findIdx? p=none:=by
 rw [List.findIdx?_eq_none_iff]
 simpa [List.any_eq_false] using h
theorem any_take_succ {α : Type} {p : α→Bool} {l : List α} {k : Nat} {x : α} (h : (l.take k).any p=false) (hx : l[k]? = some x) (hp : p x=false) : (l.take (k+1)).any p=false:=by
 rw [List.take_add_one,hx]
 simp [List.any_append,h,hp]
set_option maxHeartbeats 400000 in
theorem indexFunc_item {g : Nat} {cap : Array Value} {p : Item→Bool} {l : List Item} {v : Value} {w : World} (hg : ∀ args w,(callFunc g args).run Tryz.prog w = .ok (.enter g args) w)
  (hp : PredAt g cap w p) (hl : Its w v l) : Calls Tryz.prog 137 #[v,.func (.func g) #[] cap] w fun e w'=>e = .returned (.int .i64 (idxOf (l.findIdx? p)))∧Ext w w':=by
 obtain ⟨a,cp,rfl,hlc,hcm,-⟩:=hl.form
 unfold maxLen at hcm
 go_enter Tryz.func137,Tryz.ntmps137
 go_wp2
 go_loopw [8] (fun i wr => ∃ k : Nat,k≤l.length∧i = .int .i64 k∧Ext w wr∧Hid ((l.take k).any p=false)) (fun i _=>l.length - (intOf i).toNat)
 case atStart=>exact ⟨0,Nat.zero_le _,rfl,Ext.refl _,by simp [Hid]⟩
 case round =>
  obtain ⟨k,hk,rfl,hE,hN⟩:=hrel
  by_cases hlt : k < l.length
  ·obtain ⟨x,hx⟩ : ∃ x,l[k]? = some x:=⟨l[k],by simp [hlt]⟩
   obtain ⟨b,off,rfl,hb,c0,c1,c2⟩:=(hl.ext hE).cell hx
   have hX:=Lib.hid hx
   clear hx
   cases hpx : p x
   all_goals
    have hP:=Lib.hid hpx
    clear hpx
    go_wp2_with fail
    refine (hp x wr hE).mono ?_
    rintro e w1 ⟨rfl,hE1⟩
    have hpx:=hP.out
    go_wp2
   ·go_roundw
    case rel=>exact ⟨k+1,by omega,by go_num,hE.trans hE1,any_take_succ hN.out hX.out hP.out⟩
    case measure=>simp [intOf];omega
   ·go_ret
    exact ⟨by rw [findIdx_hit hN.out hX.out hP.out];rfl,hE.trans hE1⟩
  ·have hkl : k=l.length:=by omega
   subst hkl
   go_wp2
   go_ret
   have hN':=hN.out
   rw [List.take_length] at hN'
   exact ⟨by rw [findIdx_miss hN'];rfl,hE⟩
end Go.Proofs.YtnplphcnagooeaaGreatDoor

/- Contracts: the reference of layer 28, and slices.Clone of items. -/
namespace Go.Proofs.YtnplphcnagooeaaGreatDoor
set_option maxRecDepth 100000
open Go.RowKit
def RetL (e : TypeId) (w : World) (l : List Item) (en : Ending) (w' : World) : Prop := ∃ v,en = .returned v∧Own w' w.heap.size e 3 v l.length (l.flatMap Item.row)∧Ext w w'
def RetLN (e : TypeId) (w : World) (l : List Item) (n : Int) (en : Ending) (w' : World) : Prop := ∃ v,en = .returned (.tuple #[v,.int .i64 n])∧Own w' w.heap.size e 3 v l.length (l.flatMap Item.row)∧Ext w w'
theorem Item.infoE : ∃ i z,Tryz.prog.info? 70=some i∧i.zero=some z∧i.size=3∧z.cells.size=3∧i.bytes=24:=by
 have h : (Tryz.prog.info? 70).map (fun i=>(i.zero.map (fun z=>z.cells.size),i.size,i.bytes))=some (some 3,3,24):=by kernel_rfl
 cases hi : Tryz.prog.info? 70 with
 | none=>rw [hi] at h;simp at h
 | some i =>
  rw [hi] at h
  simp only [Option.map_some,Option.some.injEq,Prod.mk.injEq] at h
  obtain ⟨h1,h2,h3⟩:=h
  cases hz : i.zero with
  | none=>rw [hz] at h1;simp at h1
  | some z =>
   rw [hz] at h1
   exact ⟨i,z,rfl,hz,h2,by simpa using h1,h3⟩
set_option maxHeartbeats 400000 in
theorem ref28_In (n : Int) (w : World) : Calls Tryz.prog 121 #[.int .i64 n] w fun e w'=>e = .returned (.bool (inB n))∧w=w':=by
 by_cases h0 : 0≤n <;> by_cases h1 : n≤1000000
 all_goals
  go_enter Tryz.func121,Tryz.ntmps121
  go_wp2
  go_ret
  exact ⟨by simp [inB, *],rfl⟩
theorem Item.ok_of {p t c : Int} (h : 1≤p∧p≤4) : Item.ok ⟨p,t,c⟩=(inB t && inB c):=by
 obtain rfl | rfl | rfl | rfl : p=1∨p=2∨p=3∨p=4:=by omega
 all_goals simp [Item.ok]
theorem Item.ok_not {p t c : Int} (h : ¬ (1≤p∧p≤4)) : Item.ok ⟨p,t,c⟩=false:=by
 have h1 : p≠1:=by omega
 have h2 : p≠2:=by omega
 have h3 : p≠3:=by omega
 have h4 : p≠4:=by omega
 simp [Item.ok,h1,h2,h3,h4]
set_option maxHeartbeats 400000 in
theorem ref28_Item (x : Item) (w : World) : Calls Tryz.prog 135 #[x.val] w fun e w'=>e = .returned (.bool x.ok)∧Ext w w':=by
 obtain ⟨p,t,c⟩:=x
 have hE:=(Ext.refl w).alloc (.cells #[.int .u8 p,.int .i64 t,.int .i64 c] 70)
 unfold Item.val
 by_cases h1 : 1≤p
 ·by_cases h2 : p≤4
  ·have hok:=Lib.hid (Item.ok_of (t:=t) (c:=c) ⟨h1,h2⟩)
   cases ht : inB t <;> cases hc : inB c
   all_goals
    go_enter Tryz.func135,Tryz.ntmps135
    go_wp2_with (go_at_call 121;refine (ref28_In _ _).mono ?_;rintro e w' ⟨rfl,rfl⟩)
    go_ret
    exact ⟨by rw [hok.out,ht,hc];rfl,hE⟩
  ·have hok:=Lib.hid (Item.ok_not (t:=t) (c:=c) (p:=p) (by omega))
   go_enter Tryz.func135,Tryz.ntmps135
   go_wp2_with (go_at_call 121;refine (ref28_In _ _).mono ?_;rintro e w' ⟨rfl,rfl⟩)
   go_ret
   exact ⟨by rw [hok.out];rfl,hE⟩
 ·have hok:=Lib.hid (Item.ok_not (t:=t) (c:=c) (p:=p) (by omega))
  go_enter Tryz.func135,Tryz.ntmps135
  go_wp2_with (go_at_call 121;refine (ref28_In _ _).mono ?_;rintro e w' ⟨rfl,rfl⟩)
  go_ret
  exact ⟨by rw [hok.out];rfl,hE⟩
theorem all_take_succ {α : Type} {p : α→Bool} {l : List α} {k : Nat} {x : α} (h : (l.take k).all p=true) (hx : l[k]? = some x) (hp : p x=true) : (l.take (k+1)).all p=true:=by
 rw [List.take_add_one,hx]
 simp [List.all_append,h,hp]
theorem all_miss {α : Type} {p : α→Bool} {l : List α} {k : Nat} {x : α} (hx : l[k]? = some x) (hp : p x=false) : l.all p=false:=by
 rw [List.all_eq_false]
 exact ⟨x,List.mem_of_getElem? hx,by simp [hp]⟩
set_option maxHeartbeats 400000 in
theorem ref28_Check {l : List Item} {v : Value} {w : World} (hl : Its w v l) : Calls Tryz.prog 122 #[v] w fun e w'=>e = .returned (.int .i64 (chk l))∧Ext w w':=by
 obtain ⟨a,cp,rfl,hlc,hcm,-⟩:=hl.form
 unfold maxLen at hcm
 by_cases h6 : l.length≤600
 ·go_enter Tryz.func122,Tryz.ntmps122
  go_wp2
  go_loopw [3] (fun i wr => ∃ k : Nat,k≤l.length∧i = .int .i64 k∧Ext w wr∧Hid ((l.take k).all Item.ok=true)) (fun i _=>l.length - (intOf i).toNat)
  case atStart=>exact ⟨0,Nat.zero_le _,rfl,Ext.refl _,by simp [Hid]⟩
  case round =>
   obtain ⟨k,hk,rfl,hE,hN⟩:=hrel
   by_cases hlt : k < l.length
   ·obtain ⟨x,hx⟩ : ∃ x,l[k]? = some x:=⟨l[k],by simp [hlt]⟩
    obtain ⟨b,off,rfl,hb,c0,c1,c2⟩:=(hl.ext hE).cell hx
    have hX:=Lib.hid hx
    clear hx
    cases hpx : x.ok
    all_goals
     go_wp2_with (go_at_call 135;refine (ref28_Item x _).mono ?_;rintro e w1 ⟨rfl,hE1⟩)
    ·go_ret
     exact ⟨by have:=all_miss hX.out hpx;simp [chk,okS,this],hE.trans hE1⟩
    ·go_roundw
     case rel=>exact ⟨k+1,by omega,by go_num,hE.trans hE1,all_take_succ hN.out hX.out hpx⟩
     case measure=>simp [intOf];omega
   ·have hkl : k=l.length:=by omega
    subst hkl
    go_wp2
    go_ret
    have hN':=hN.out
    rw [List.take_length] at hN'
    exact ⟨by simp [chk,okS,hN',h6],hE⟩
 ·go_enter Tryz.func122,Tryz.ntmps122
  go_wp2
  go_ret
  exact ⟨by simp [chk,okS,h6],Ext.refl _⟩
set_option maxHeartbeats 400000 in
theorem ref28_Great {l : List Item} {v : Value} {w : World} (hl : Its w v l) : Calls Tryz.prog 80 #[v] w fun e w'=>e = .returned (.bool (decide (610 < l.length)))∧w=w':=by
 obtain ⟨a,cp,rfl,hlc,hcm,-⟩:=hl.form
 by_cases h6 : 610 < l.length
 all_goals
  go_enter Tryz.func80,Tryz.ntmps80
  go_wp2
  go_ret
  exact ⟨by simp;omega,rfl⟩
end Go.Proofs.YtnplphcnagooeaaGreatDoor

/- Contracts: copies of stacks, equality of stacks, and what is above and below an index; the program's and the reference's. -/
namespace Go.Proofs.YtnplphcnagooeaaGreatDoor
set_option maxRecDepth 100000
open Go.RowKit
theorem Own.made (w : World) (B : Nat) (e : TypeId) (k : Nat) (hB : B≤w.heap.size) : Own (w.alloc (.cells #[] e)) B e k (.slice (some ⟨w.heap.size,0,none⟩) 0 0) 0 [] :=
 World.ownsRow_made w #[] 0 hB (Nat.zero_le _) (by simp)
set_option maxHeartbeats 400000 in
theorem clone_Stack {l : List Item} {v : Value} {w : World} (hl : Its w v l) (hs : l.length≤1000000) : Calls Tryz.prog 91 #[v] w (RetL 70 w l):=by
 obtain ⟨i,z,hi,hz,hi3,hz3,hby⟩:=Item.infoE
 obtain ⟨a,cp,rfl,hlc,hcm,hn⟩:=hl.form
 cases a with
 | none =>
  have hcp:=hn rfl
  subst hcp
  have hl0 : l.length=0:=by omega
  have hl0':=List.eq_nil_of_length_eq_zero hl0
  subst hl0'
  have hnil : ∀ w,(binOp .eql 72 (.slice none 0 0) (.slice none 0 0)).run Tryz.prog w = .ok (.bool true) w:=fun w=>Lib.run_eql_slice_nil w 72 70 none 0 0 0 0 Tryz.underlying72
  go_enter Tryz.func91,Tryz.ntmps91
  go_wp2
  go_ret
  exact ⟨_,rfl,Own.nil _ _ _ _,Ext.refl _⟩
 | some ad =>
  have hE:=(Ext.refl w).alloc (.cells #[] 70)
  have hl':=hl.ext hE
  have hO:=Own.made w w.heap.size 70 3 (Nat.le_refl _)
  have hz:=Lib.hid hz
  have hi3:=Lib.hid hi3
  have hz3:=Lib.hid hz3
  have hby:=Lib.hid hby
  have hi:=Lib.hid hi
  have hnil : ∀ w,(binOp .eql 72 (.slice (some ad) l.length cp) (.slice none 0 0)).run Tryz.prog w = .ok (.bool false) w:=fun w=>Lib.run_eql_slice_nil w 72 70 (some ad) l.length cp 0 0 Tryz.underlying72
  go_enter Tryz.func91,Tryz.ntmps91
  go_wp2_with (at_builtin;refine Hid.out ?_)
  refine Hid.mk ?_
  refine wpList_append_any rfl _ _ 72 72 rfl rfl rfl Tryz.underlying72 Tryz.underlying72 hi.out hz.out hi3.out hz3.out hO hl' (Item.one l) (by simp [maxLen];omega) (by rw [hby.out];omega) hE.size ?_
  intro v' w' hO' hK _ _
  go_wp2
  go_ret
  simp only [Nat.zero_add,List.nil_append] at hO'
  exact ⟨_,rfl,hO',(Below.trans (Below.alloc (Below.refl _ w) (Nat.le_refl _) _) hK.below : Below w.heap.size w w')⟩
set_option maxHeartbeats 400000 in
theorem clone_Items {l : List Item} {v : Value} {w : World} (hl : Its w v l) (hs : l.length≤1000000) : Calls Tryz.prog 158 #[v] w (RetL 70 w l):=by
 obtain ⟨i,z,hi,hz,hi3,hz3,hby⟩:=Item.infoE
 obtain ⟨a,cp,rfl,hlc,hcm,hn⟩:=hl.form
 cases a with
 | none =>
  have hcp:=hn rfl
  subst hcp
  have hl0 : l.length=0:=by omega
  have hl0':=List.eq_nil_of_length_eq_zero hl0
  subst hl0'
  have hnil : ∀ w,(binOp .eql 71 (.slice none 0 0) (.slice none 0 0)).run Tryz.prog w = .ok (.bool true) w:=fun w=>Lib.run_eql_slice_nil w 71 70 none 0 0 0 0 Tryz.underlying71
  go_enter Tryz.func158,Tryz.ntmps158
  go_wp2
  go_ret
  exact ⟨_,rfl,Own.nil _ _ _ _,Ext.refl _⟩
 | some ad =>
  have hE:=(Ext.refl w).alloc (.cells #[] 70)
  have hl':=hl.ext hE
  have hO:=Own.made w w.heap.size 70 3 (Nat.le_refl _)
  have hz:=Lib.hid hz
  have hi3:=Lib.hid hi3
  have hz3:=Lib.hid hz3
  have hby:=Lib.hid hby
  have hi:=Lib.hid hi
  have hnil : ∀ w,(binOp .eql 71 (.slice (some ad) l.length cp) (.slice none 0 0)).run Tryz.prog w = .ok (.bool false) w:=fun w=>Lib.run_eql_slice_nil w 71 70 (some ad) l.length cp 0 0 Tryz.underlying71
  go_enter Tryz.func158,Tryz.ntmps158
  go_wp2_with (at_builtin;refine Hid.out ?_)
  refine Hid.mk ?_
  refine wpList_append_any rfl _ _ 71 71 rfl rfl rfl Tryz.underlying71 Tryz.underlying71 hi.out hz.out hi3.out hz3.out hO hl' (Item.one l) (by simp [maxLen];omega) (by rw [hby.out];omega) hE.size ?_
  intro v' w' hO' hK _ _
  go_wp2
  go_ret
  simp only [Nat.zero_add,List.nil_append] at hO'
  exact ⟨_,rfl,hO',(Below.trans (Below.alloc (Below.refl _ w) (Nat.le_refl _) _) hK.below : Below w.heap.size w w')⟩
end Go.Proofs.YtnplphcnagooeaaGreatDoor

/- Contracts: items.Check, items.Base, and the reference's At, Find and Base. -/
namespace Go.Proofs.YtnplphcnagooeaaGreatDoor
set_option maxRecDepth 100000
open Go.RowKit
theorem callFunc_Check1 (args : Array Value) (w : World) : (callFunc 126 args).run Tryz.prog w = .ok (.enter 126 args) w:=by kernel_rfl
set_option maxHeartbeats 400000 in
theorem items_Check1 (W : World) : PredAt 126 #[] W (fun x => !x.ok):=by
 intro x w _
 have hx:=items_isItem x
 obtain ⟨p,t,c⟩:=x
 unfold Item.val at *
 have hE:=(Ext.refl w).alloc (.cells #[.int .u8 p,.int .i64 t,.int .i64 c] 70)
 have hX:=Lib.hid hx
 clear hx
 show Calls Tryz.prog 126 #[.agg #[.int .u8 p,.int .i64 t,.int .i64 c]] w _
 go_enter Tryz.func126,Tryz.ntmps126
 go_wp2_with (go_at_call 127;refine (hX.out _).mono ?_;rintro e w' ⟨rfl,hE'⟩)
 go_ret
 exact ⟨rfl,hE.trans hE'⟩
theorem idxOf_any {α : Type} (p : α→Bool) (l : List α) : decide (0≤idxOf (l.findIdx? p))=l.any p:=by
 cases h : l.findIdx? p with
 | none =>
  have h' : l.any p=false:=by rw [List.findIdx?_eq_none_iff] at h;simpa [List.any_eq_false] using h
  rw [h'];simp [idxOf]
 | some i =>
  have h' : l.any p=true:=by
   rw [List.findIdx?_eq_some_iff_getElem] at h
   obtain ⟨hi,hp,_⟩:=h
   rw [List.any_eq_true]
   exact ⟨l[i],List.getElem_mem _,hp⟩
  rw [h'];simp [idxOf]
set_option maxHeartbeats 400000 in
theorem containsFunc_item {g : Nat} {cap : Array Value} {p : Item→Bool} {l : List Item} {v : Value} {w : World} (hg : ∀ args w,(callFunc g args).run Tryz.prog w = .ok (.enter g args) w)
  (hp : PredAt g cap w p) (hl : Its w v l) : Calls Tryz.prog 125 #[v,.func (.func g) #[] cap] w fun e w'=>e = .returned (.bool (l.any p))∧Ext w w':=by
 have hC:=Lib.hid (indexFunc_item hg hp hl)
 have hA:=Lib.hid (idxOf_any p l)
 clear hg
 obtain ⟨a,cp,rfl,-⟩:=hl.form
 go_enter Tryz.func125,Tryz.ntmps125
 go_wp2_with (go_at_call 137;refine hC.out.mono ?_;rintro e w' ⟨rfl,hE'⟩)
 go_ret
 exact ⟨by rw [← hA.out];rfl,hE'⟩
theorem any_not_ok (l : List Item) : l.any (fun x => !x.ok) = !l.all Item.ok:=by
 induction l with
 | nil=>rfl
 | cons x l ih=>rw [List.any_cons,List.all_cons,ih,Bool.not_and]
set_option maxHeartbeats 400000 in
theorem items_Check {l : List Item} {v : Value} {w : World} (hl : Its w v l) : Calls Tryz.prog 113 #[v] w fun e w'=>e = .returned (.int .i64 (chk l))∧Ext w w':=by
 have hC:=Lib.hid (containsFunc_item callFunc_Check1 (items_Check1 w) hl)
 have hN:=Lib.hid (any_not_ok l)
 obtain ⟨a,cp,rfl,hlc,hcm,-⟩:=hl.form
 by_cases h6 : l.length≤600
 ·have hd : decide ((600 : Int) < (l.length : Int))=false:=decide_eq_false (by omega)
  cases ha : l.all Item.ok
  all_goals
   have hv:=Lib.hid ha
   go_enter Tryz.func113,Tryz.ntmps113
   go_wp2_with (go_at_call 125;refine hC.out.mono ?_;rintro e w' ⟨rfl,hE'⟩;rw [hN.out,hv.out])
   go_ret
   exact ⟨by simp [chk,okS,hv.out,h6],hE'⟩
 ·have hd : decide ((600 : Int) < (l.length : Int))=true:=decide_eq_true (by omega)
  go_enter Tryz.func113,Tryz.ntmps113
  go_wp2
  go_ret
  exact ⟨by simp [chk,okS,h6],Ext.refl _⟩
end Go.Proofs.YtnplphcnagooeaaGreatDoor

/- Contracts: what is held; Enter, Leave and Held, the program's and the reference's. -/
namespace Go.Proofs.YtnplphcnagooeaaGreatDoor
set_option maxRecDepth 100000
open Go.RowKit
def RetNs (e : TypeId) (w : World) (l : List Int) (en : Ending) (w' : World) : Prop := ∃ v,en = .returned v∧Own w' w.heap.size e 1 v l.length (l.flatMap irow)∧Ext w w'
theorem Int.infoE : ∃ i z,Tryz.prog.info? 3=some i∧i.zero=some z∧i.size=1∧z.cells.size=1∧i.bytes=8:=by
 have h : (Tryz.prog.info? 3).map (fun i=>(i.zero.map (fun z=>z.cells.size),i.size,i.bytes))=some (some 1,1,8):=by kernel_rfl
 cases hi : Tryz.prog.info? 3 with
 | none=>rw [hi] at h;simp at h
 | some i =>
  rw [hi] at h
  simp only [Option.map_some,Option.some.injEq,Prod.mk.injEq] at h
  obtain ⟨h1,h2,h3⟩:=h
  cases hz : i.zero with
  | none=>rw [hz] at h1;simp at h1
  | some z =>
   rw [hz] at h1
   exact ⟨i,z,rfl,hz,h2,by simpa using h1,h3⟩
set_option maxHeartbeats 400000 in
theorem clone_Ints {l : List Int} {v : Value} {w : World} (hl : Nts w v l) (hs : l.length≤1000000) : Calls Tryz.prog 92 #[v] w (RetNs 3 w l):=by
 obtain ⟨i,z,hi,hz,hi3,hz3,hby⟩:=Int.infoE
 obtain ⟨a,cp,rfl,hlc,hcm,hn⟩:=hl.form
 cases a with
 | none =>
  have hcp:=hn rfl
  subst hcp
  have hl0:=List.eq_nil_of_length_eq_zero (by omega : l.length=0)
  subst hl0
  have hnil : ∀ w,(binOp .eql 26 (.slice none 0 0) (.slice none 0 0)).run Tryz.prog w = .ok (.bool true) w:=fun w=>Lib.run_eql_slice_nil w 26 3 none 0 0 0 0 Tryz.underlying26
  go_enter Tryz.func92,Tryz.ntmps92
  go_wp2
  go_ret
  exact ⟨_,rfl,Own.nil _ _ _ _,Ext.refl _⟩
 | some ad =>
  have hE:=(Ext.refl w).alloc (.cells #[] 3)
  have hl':=hl.ext hE
  have hO:=Own.made w w.heap.size 3 1 (Nat.le_refl _)
  have hz:=Lib.hid hz
  have hi3:=Lib.hid hi3
  have hz3:=Lib.hid hz3
  have hby:=Lib.hid hby
  have hi:=Lib.hid hi
  have hnil : ∀ w,(binOp .eql 26 (.slice (some ad) l.length cp) (.slice none 0 0)).run Tryz.prog w = .ok (.bool false) w:=fun w=>Lib.run_eql_slice_nil w 26 3 (some ad) l.length cp 0 0 Tryz.underlying26
  go_enter Tryz.func92,Tryz.ntmps92
  go_wp2_with (at_builtin;refine Hid.out ?_)
  refine Hid.mk ?_
  refine wpList_append_any rfl _ _ 26 26 rfl rfl rfl Tryz.underlying26 Tryz.underlying26 hi.out hz.out hi3.out hz3.out hO hl' (Nts.one l) (by simp [maxLen];omega) (by rw [hby.out];omega) hE.size ?_
  intro v' w' hO' hK _ _
  go_wp2
  go_ret
  simp only [Nat.zero_add,List.nil_append] at hO'
  exact ⟨_,rfl,hO',(Below.trans (Below.alloc (Below.refl _ w) (Nat.le_refl _) _) hK.below : Below w.heap.size w w')⟩
theorem callFunc_first1 (args : Array Value) (w : World) : (callFunc 142 args).run Tryz.prog w = .ok (.enter 142 args) w:=by kernel_rfl
set_option maxHeartbeats 400000 in
theorem guard_first1 {run : List Int} {v : Value} (B : Nat) (W : World) (hc : W.cell? ⟨B,0,none⟩=some v) (hl : Nts W v run) (hs : okFrom 0 run=true) (hlen : run.length≤1000) : PredAt 142 #[.pointer (some ⟨B,0,none⟩)] W (heldBy run):=by
 intro x w hW
 obtain ⟨p,t,c⟩:=x
 have hcw:=hW.cell hc
 have hB:=World.block_lt_of_cell? _ _ hcw
 have hE:=(Ext.refl w).alloc (.cells #[.int .u8 p,.int .i64 t,.int .i64 c] 70)
 have hBS:=Lib.hid (binarySearch c ((hl.ext hW).ext hE) hs hlen)
 obtain ⟨a,cp,rfl,-⟩:=hl.form
 clear hc hW hl hs
 show Calls Tryz.prog 142 #[.agg #[.int .u8 p,.int .i64 t,.int .i64 c],.pointer (some ⟨B,0,none⟩)] w _
 go_enter Tryz.func142,Tryz.ntmps142
 go_wp2_with fail
 refine hBS.out.mono ?_
 rintro e w1 ⟨i,rfl,rfl⟩
 go_wp2
 go_ret
 exact ⟨rfl,hE⟩
set_option maxHeartbeats 400000 in
theorem indexFunc_items {g : Nat} {cap : Array Value} {p : Item→Bool} {l : List Item} {v : Value} {w : World} (hg : ∀ args w,(callFunc g args).run Tryz.prog w = .ok (.enter g args) w)
  (hp : PredAt g cap w p) (hl : Its w v l) : Calls Tryz.prog 141 #[v,.func (.func g) #[] cap] w fun e w'=>e = .returned (.int .i64 (idxOf (l.findIdx? p)))∧Ext w w':=by
 obtain ⟨a,cp,rfl,hlc,hcm,-⟩:=hl.form
 unfold maxLen at hcm
 go_enter Tryz.func141,Tryz.ntmps141
 go_wp2
 go_loopw [8] (fun i wr => ∃ k : Nat,k≤l.length∧i = .int .i64 k∧Ext w wr∧Hid ((l.take k).any p=false)) (fun i _=>l.length - (intOf i).toNat)
 case atStart=>exact ⟨0,Nat.zero_le _,rfl,Ext.refl _,by simp [Hid]⟩
 case round =>
  obtain ⟨k,hk,rfl,hE,hN⟩:=hrel
  by_cases hlt : k < l.length
  ·obtain ⟨x,hx⟩ : ∃ x,l[k]? = some x:=⟨l[k],by simp [hlt]⟩
   obtain ⟨b,off,rfl,hb,c0,c1,c2⟩:=(hl.ext hE).cell hx
   have hX:=Lib.hid hx
   clear hx
   cases hpx : p x
   all_goals
    have hP:=Lib.hid hpx
    clear hpx
    go_wp2_with fail
    refine (hp x wr hE).mono ?_
    rintro e w1 ⟨rfl,hE1⟩
    have hpx:=hP.out
    go_wp2
   ·go_roundw
    case rel=>exact ⟨k+1,by omega,by go_num,hE.trans hE1,any_take_succ hN.out hX.out hP.out⟩
    case measure=>simp [intOf];omega
   ·go_ret
    exact ⟨by rw [findIdx_hit hN.out hX.out hP.out];rfl,hE.trans hE1⟩
  ·have hkl : k=l.length:=by omega
   subst hkl
   go_wp2
   go_ret
   have hN':=hN.out
   rw [List.take_length] at hN'
   exact ⟨by rw [findIdx_miss hN'];rfl,hE⟩
set_option maxHeartbeats 400000 in
theorem guard_first {l : List Item} {run : List Int} {v u : Value} {w : World} (hl : Its w v l) (hr : Nts w u run) (hok : okR run=true) :
  Calls Tryz.prog 129 #[v,u] w fun e w'=>e = .returned (.int .i64 (idxOf (firstR l run)))∧Ext w w':=by
 have hE0:=(Ext.refl w).alloc (.cells #[u] 26)
 have hc : (w.alloc (.cells #[u] 26)).cell? ⟨w.heap.size,0,none⟩=some u:=by simp
 have hI:=Lib.hid (indexFunc_items callFunc_first1 (guard_first1 w.heap.size _ hc (hr.ext hE0) (okR_from hok) (by have:=okR_len hok;omega)) (hl.ext hE0))
 have hmf : ∀ (fn : Fn) (first cap : Array Value) (w : World),(Instr.makeFunc fn first cap).run Tryz.prog w = .ok (.func fn first cap) w:=fun _ _ _ _=>rfl
 obtain ⟨a,cp,rfl,-⟩:=hl.form
 obtain ⟨a2,cp2,rfl,-⟩:=hr.form
 clear hl hr hc
 go_enter Tryz.func129,Tryz.ntmps129
 go_wp2_with fail
 refine hI.out.mono ?_
 rintro e w1 ⟨rfl,hE1⟩
 go_wp2
 go_ret
 exact ⟨rfl,hE0.trans hE1⟩
theorem enterR_bad {l : List Int} {c : Int} (h : okR l=false) : enterR l c=([],8):=by simp [enterR,h]
theorem enterR_low {l : List Int} {c : Int} (h : okR l=true) (hc : c≤lastR l∨1000000 < c) : enterR l c=([],2):=by simp [enterR,h,hc]
theorem enterR_full {l : List Int} {c : Int} (h : okR l=true) (hc : ¬ (c≤lastR l∨1000000 < c)) (hf : l.length=32) : enterR l c=([],18):=by simp [enterR,h,hc,hf]
theorem enterR_ok {l : List Int} {c : Int} (h : okR l=true) (hc : ¬ (c≤lastR l∨1000000 < c)) (hf : ¬ l.length=32) : enterR l c=(l ++ [c],0):=by simp [enterR,h,hc,hf]
theorem leaveR_bad {l : List Int} (h : okR l=false) : leaveR l=([],8):=by simp [leaveR,h]
theorem leaveR_none {l : List Int} (h : okR l=true) (hz : l.length=0) : leaveR l=([],6):=by simp [leaveR,h,hz]
theorem leaveR_ok {l : List Int} (h : okR l=true) (hz : ¬ l.length=0) : leaveR l=(l.take (l.length - 1),0):=by simp [leaveR,h];intro e;exact absurd (by simp [e]) hz
theorem slice_upto_Ints (a : Option Addr) (n cap : Nat) (x : Int) (k : Nat) (hx : x=k) (hk : k≤cap) :
  ∀ w,(Instr.slice 26 (.slice a n cap) none (some (.int .i64 x)) none).run Tryz.prog w = .ok (.slice a k cap) w:=by
 obtain ⟨i,z,hi,hz,hi3,hz3,hby⟩:=Int.infoE
 exact fun w=>run_slice_upto Tryz.underlying26 hi a n cap x k hx hk w
end Go.Proofs.YtnplphcnagooeaaGreatDoor

/- Contracts: Leave of the reference; Enter and Held, the program's and the reference's. -/
namespace Go.Proofs.YtnplphcnagooeaaGreatDoor
set_option maxRecDepth 100000
open Go.RowKit
theorem last_is {l : List Int} (h : l.length≠0) : l[l.length - 1]? = some (lastR l):=by
 obtain ⟨x,hx⟩ : ∃ x,l[l.length - 1]? = some x:=⟨l[l.length - 1]'(by omega),by simp⟩
 rw [lastR_get hx];exact hx
end Go.Proofs.YtnplphcnagooeaaGreatDoor

/- Contracts: Enter of the reference; Held, the program's and the reference's. -/
namespace Go.Proofs.YtnplphcnagooeaaGreatDoor
set_option maxRecDepth 100000
open Go.RowKit
end Go.Proofs.YtnplphcnagooeaaGreatDoor

/- Contracts: Base, and the reference's At and Find. -/
namespace Go.Proofs.YtnplphcnagooeaaGreatDoor
set_option maxRecDepth 100000
open Go.RowKit
theorem Own.lit (w : World) {B : Nat} {e : TypeId} {k : Nat} (cs : Array Value) (n : Nat) (hB : B≤w.heap.size) (hm : n≤maxLen) (hs : cs.size=n * k) :
  Own (w.alloc (.cells cs e)) B e k (.slice (some ⟨w.heap.size,0,none⟩) n n) n cs.toList:=World.ownsRow_lit w cs n hB hm hs
theorem Its.lit (w : World) (cs : Array Value) (l : List Item) (n b : Nat) (hb : w.heap.size=b) (hn : l.length=n) (hm : n≤maxLen) (hc : cs.toList=l.flatMap Item.row) : Its (w.alloc (.cells cs 70)) (.slice (some ⟨b,0,none⟩) n n) l:=by
 subst hn hb
 have hs : cs.size=l.length * 3:=by
  have:=congrArg List.length hc
  rw [rows_len Item.row Item.row_len] at this
  simpa using this
 have:=(Own.lit (B:=0) (e:=70) (k:=3) w cs l.length (Nat.zero_le _) hm hs).sl
 rw [hc] at this
 exact this
def baseOf (tag : Int) : List Item:=if inB tag then [⟨1,tag,0⟩] else []
def baseErr (tag : Int) : Int:=if inB tag then 0 else 2
set_option maxHeartbeats 400000 in
theorem items_Base (tag : Int) (w : World) : Calls Tryz.prog 112 #[.int .i64 tag] w (RetLN 70 w (baseOf tag) (baseErr tag)):=by
 have hO:=Own.lit (B:=w.heap.size) (e:=70) (k:=3) w #[.int .u8 1,.int .i64 tag,.int .i64 0] 1 (Nat.le_refl _) (by simp [maxLen]) rfl
 cases ht : inB tag
 all_goals
  go_enter Tryz.func112,Tryz.ntmps112
  go_wp2_with (go_at_call 124;refine (items_in _ _).mono ?_;rintro e w' ⟨rfl,rfl⟩)
  go_ret2
 ·unfold baseOf baseErr;rw [ht]
  exact ⟨_,rfl,Own.nil _ _ _ _,Ext.refl _⟩
 ·unfold baseOf baseErr;rw [ht]
  exact ⟨_,rfl,hO,(Ext.refl _).alloc _⟩
theorem idx_step_yes {p : Nat→Bool} {k : Nat} (h : p k=true) : lastUpTo p (k+1)=some k:=by simp [lastUpTo,h]
theorem idx_step_no {p : Nat→Bool} {k : Nat} (h : p k=false) : lastUpTo p (k+1)=lastUpTo p k:=by simp [lastUpTo,h]
def findIx (l : List Item) (tag : Int) (write : Bool) : Int:=if okS l then ((findAt l tag write).getD 0 : Nat) else 0
def findErr (l : List Item) (tag : Int) (write : Bool) : Int:=if okS l then (if (findAt l tag write).isSome then 0 else 6) else 8
end Go.Proofs.YtnplphcnagooeaaGreatDoor
