/- Several texts in one: CelP, MonQ, PhsA, PhsB, Close, Door, Law30A, AccF, Law32C, MonY, MonB. -/
import Derived.Test.YtoanoodfacmieaaGreatDoorQ09
import Derived.Test.YtoanoodfacmieaaGreatDoorQ07
import Derived.Test.YtoanoodfacmieaaGreatDoorQ08
import Derived.Test.YtoanoodfacmieaaGreatDoorQ04
import Derived.Test.YtoanoodfacmieaaGreatDoorQ01
import Derived.Test.YtoanoodfacmieaaGreatDoorQ03
import Derived.Test.YtoanoodfacmieaaGreatDoorCards
import Derived.Test.YtoanoodfacmieaaGreatDoorTie
import Derived.ProofKit
import Derived.OpenShut
import Derived.Deep.DeepHandedRow
import Derived.Lib.LaidTab
import Derived.Lib.AppendZeros
/- Plain laws of layers 26 and 27: what a store leaves, and what is loaded afterwards; no program is walked. -/
namespace Go.Proofs.YtoanoodfacmieaaGreatDoor
set_option maxRecDepth 100000
open Go.RowKit
theorem okAl_put {next : Int} {y : Alloc} : ∀ (l : List Alloc) (least : Int) (i : Nat) (x : Alloc),okAl next least l=true→l[i]? = some x→y.num=x.num→1≤y.cells.length→y.cells.length≤2 →
  y.cells.all (cellIn y.live)=true→okAl next least (l.set i y)=true
 | [],_,i,x,_,h,_,_,_,_=>by simp at h
 | a :: l,least,0,x,h,hx,h1,h2,h3,h4=>by
  simp only [List.getElem?_cons_zero,Option.some.injEq] at hx
  subst hx
  have h4' : y.cells.all (fun c=>c.ok && (y.live || c.k == 0))=true:=h4
  simp only [okAl,Bool.and_eq_true,decide_eq_true_eq] at h
  simp only [List.set_cons_zero,okAl,Bool.and_eq_true,decide_eq_true_eq,h4',h1]
  exact ⟨⟨⟨⟨⟨h.1.1.1.1.1,h.1.1.1.1.2⟩,h2⟩,h3⟩,trivial⟩,h.2⟩
 | a :: l,least,i+1,x,h,hx,h1,h2,h3,h4=>by
  simp only [okAl,Bool.and_eq_true] at h
  simp only [List.set_cons_succ,okAl,Bool.and_eq_true]
  exact ⟨h.1,okAl_put l _ i x h.2 (by simpa using hx) h1 h2 h3 h4⟩
theorem okAl_in {next : Int} : ∀ (l : List Alloc) (least : Int),okAl next least l=true → ∀ (i : Nat) (x : Alloc),l[i]? = some x→1≤x.cells.length∧x.cells.length≤2∧x.cells.all (cellIn x.live)=true
 | [],_,_,i,x,h=>by simp at h
 | a :: l,least,h,i,x,hx=>by
  simp only [okAl,Bool.and_eq_true,decide_eq_true_eq] at h
  cases i with
  | zero =>
   simp only [List.getElem?_cons_zero,Option.some.injEq] at hx
   subst hx
   exact ⟨h.1.1.1.2,h.1.1.2,h.1.2⟩
  | succ i=>exact okAl_in l _ h.2 i x (by simpa using hx)
theorem put_len {x : Alloc} {o : Nat} {l : List Cell} (h : o+l.length≤x.cells.length) : (putCells x o l).cells.length=x.cells.length:=by
 simp only [putCells,List.length_append,List.length_take,List.length_drop]
 omega
theorem put_all {x : Alloc} {o : Nat} {l : List Cell} (hx : x.cells.all (cellIn x.live)=true) (hl : l.all Cell.ok=true) (hv : x.live=true) : (putCells x o l).cells.all (cellIn (putCells x o l).live)=true:=by
 show (x.cells.take o ++ l ++ x.cells.drop (o+l.length)).all (cellIn x.live)=true
 rw [List.all_eq_true] at hx hl ⊢
 intro c hc
 rcases List.mem_append.1 hc with hc | hc
 ·rcases List.mem_append.1 hc with hc | hc
  ·exact hx c (List.mem_of_mem_take hc)
  ·simp [cellIn,hl c hc,hv]
 ·exact hx c (List.mem_of_mem_drop hc)
theorem ok_put {m : Mem} {i o : Nat} {x : Alloc} {l : List Cell} (h : m.ok=true) (hx : m.al[i]? = some x) (hv : x.live=true) (ho : o+l.length≤x.cells.length) (hl : l.all Cell.ok=true) : (⟨m.al.set i (putCells x o l),m.next⟩ : Mem).ok=true:=by
 unfold Mem.ok okM at h ⊢
 simp only [Bool.and_eq_true,decide_eq_true_eq] at h ⊢
 obtain ⟨h1,h2,h3⟩:=okAl_in _ _ h.2 i x hx
 exact ⟨⟨by simpa using h.1.1,h.1.2⟩,okAl_put _ _ i x h.2 hx rfl (by rw [put_len ho];exact h1) (by rw [put_len ho];exact h2) (put_all h3 hl hv)⟩
theorem storeR_err {m : Mem} {p : Ptr} {l : List Cell} {err : Int} (h : (askR m p l.length).2=err) (he : err≠0) : storeR m p l=(Mem.zero,0,err):=by
 subst h
 rw [storeR,if_neg he]
theorem storeR_bad {m : Mem} {p : Ptr} {l : List Cell} (h : (askR m p l.length).2=0) (hl : l.all Cell.ok=false) : storeR m p l=(Mem.zero,0,8):=by
 rw [storeR,if_pos h,hl]
 rfl
theorem storeR_none {m : Mem} {p : Ptr} {l : List Cell} (h : askR m p l.length=(none,0)) (hl : l.all Cell.ok=true) : storeR m p l=(Mem.zero,3,0):=by
 rw [storeR,h,if_pos rfl,if_pos hl]
theorem storeR_dead {m : Mem} {p : Ptr} {l : List Cell} {i : Nat} {x : Alloc} (h : askR m p l.length=(some i,0)) (hl : l.all Cell.ok=true) (hx : m.al[i]? = some x) (hv : x.live=false) : storeR m p l=(Mem.zero,3,0):=by
 have hg : m.al.getD i Alloc.zero=x:=by rw [List.getD_eq_getElem?_getD,hx];rfl
 rw [storeR,h,if_pos rfl,if_pos hl]
 show (if (m.al.getD i Alloc.zero).live=true then _ else _)=_
 rw [hg,hv]
 rfl
theorem storeR_yes {m : Mem} {p : Ptr} {l : List Cell} {i : Nat} {x : Alloc} (h : askR m p l.length=(some i,0)) (hl : l.all Cell.ok=true) (hx : m.al[i]? = some x) (hv : x.live=true) : storeR m p l=(⟨m.al.set i (putCells x p.o.toNat l),m.next⟩,0,0):=by
 have hg : m.al.getD i Alloc.zero=x:=by rw [List.getD_eq_getElem?_getD,hx];rfl
 rw [storeR,h,if_pos rfl,if_pos hl]
 show (if (m.al.getD i Alloc.zero).live=true then ((⟨storeAt m.al i p.o.toNat l,m.next⟩,0,0) : Mem × Int × Int) else _)=_
 rw [hg,hv,if_pos rfl]
 unfold storeAt
 rw [hx]
theorem storeR_cases (m : Mem) (p : Ptr) (l : List Cell) : (∃ e,storeR m p l=(Mem.zero,0,e)∧e≠0)∨(storeR m p l=(Mem.zero,3,0)∧l.all Cell.ok=true∧(askR m p l.length).2=0∧rangeR m p l.length=[]) ∨
  ∃ i x,askR m p l.length=(some i,0)∧m.al[i]? = some x∧x.live=true∧l.all Cell.ok=true∧storeR m p l=(⟨m.al.set i (putCells x p.o.toNat l),m.next⟩,0,0):=by
 obtain ⟨ix,err,hask⟩ : ∃ ix err,askR m p l.length=(ix,err):=⟨_,_,rfl⟩
 by_cases he : err=0
 ·subst he
  cases hl : l.all Cell.ok
  ·exact .inl ⟨8,storeR_bad (by rw [hask]) hl,by decide⟩
  ·cases ix with
   | none=>exact .inr (.inl ⟨storeR_none hask hl,rfl,by rw [hask],rangeR_none hask⟩)
   | some i =>
    obtain ⟨-,-,-,-,-,-,-,x,hx,-,-⟩:=askR_inv hask
    cases hv : x.live
    ·exact .inr (.inl ⟨storeR_dead hask hl hx hv,rfl,by rw [hask],rangeR_dead hask hx hv⟩)
    ·exact .inr (.inr ⟨i,x,hask,hx,hv,rfl,storeR_yes hask hl hx hv⟩)
 ·exact .inl ⟨err,storeR_err (by rw [hask]) he,he⟩
end Go.Proofs.YtoanoodfacmieaaGreatDoor

/- What the functions of layer 35 on a monitor's memory compute (Load, Store, Retag), and plain laws of it; no program in sight. -/
namespace Go.Proofs.YtoanoodfacmieaaGreatDoor
set_option maxRecDepth 100000
open Go.RowKit
def loadM (m : Mon) (p : Ptr) (n : Int) : Mon × List Cell × Int × Int :=
 if okMon m then
  if (loadR m.mem p n).2.2=0∧(loadR m.mem p n).2.1≠3 then
   match atNum m.mem.al p.a with
   | none=>(Mon.zero,[],3,0)
   | some i =>
    if (use33 (m.stks.getD i Stk.zero) p.o n p.t false m.run).2.1=0 then
     if (loadR m.mem p n).2.1=0 then (⟨m.mem,m.stks.set i (use33 (m.stks.getD i Stk.zero) p.o n p.t false m.run).1,m.run,m.tag,m.call⟩,(loadR m.mem p n).1,0,0)
     else (Mon.zero,[],(loadR m.mem p n).2.1,0)
    else (Mon.zero,[],(use33 (m.stks.getD i Stk.zero) p.o n p.t false m.run).2.1,0)
  else (Mon.zero,[],(loadR m.mem p n).2.1,(loadR m.mem p n).2.2)
 else (Mon.zero,[],0,8)
def storeM (m : Mon) (p : Ptr) (l : List Cell) : Mon × Int × Int :=
 if okMon m then
  if (storeR m.mem p l).2.2=0∧(storeR m.mem p l).2.1=0 then
   match atNum m.mem.al p.a with
   | none=>(Mon.zero,3,0)
   | some i =>
    if (use33 (m.stks.getD i Stk.zero) p.o l.length p.t true m.run).2.1=0 then (⟨(storeR m.mem p l).1,m.stks.set i (use33 (m.stks.getD i Stk.zero) p.o l.length p.t true m.run).1,m.run,m.tag,m.call⟩,0,0)
    else (Mon.zero,(use33 (m.stks.getD i Stk.zero) p.o l.length p.t true m.run).2.1,0)
  else (Mon.zero,(storeR m.mem p l).2.1,(storeR m.mem p l).2.2)
 else (Mon.zero,0,8)
def retagM (m : Mon) (p : Ptr) (n kind call : Int) : Mon × Ptr × Int × Int :=
 if okMon m then
  if kindOk kind=true∧(call=0∨hasR m.run call=true) then
   if (loadR m.mem p n).2.2=0 then
    if m.tag=1000000 then (Mon.zero,Ptr.zero,0,18)
    else if (loadR m.mem p n).2.1=3 then (Mon.zero,Ptr.zero,3,0)
    else match atNum m.mem.al p.a with
     | none=>(Mon.zero,Ptr.zero,3,0)
     | some i =>
      if (tag33 (m.stks.getD i Stk.zero) p.o n kind p.t ⟨0,m.tag,call⟩ m.run).2.2=0∧(tag33 (m.stks.getD i Stk.zero) p.o n kind p.t ⟨0,m.tag,call⟩ m.run).2.1=0 then
       (⟨m.mem,m.stks.set i (tag33 (m.stks.getD i Stk.zero) p.o n kind p.t ⟨0,m.tag,call⟩ m.run).1,m.run,m.tag+1,m.call⟩,⟨p.a,p.o,m.tag⟩,0,0)
      else (Mon.zero,Ptr.zero,(tag33 (m.stks.getD i Stk.zero) p.o n kind p.t ⟨0,m.tag,call⟩ m.run).2.1,(tag33 (m.stks.getD i Stk.zero) p.o n kind p.t ⟨0,m.tag,call⟩ m.run).2.2)
   else (Mon.zero,Ptr.zero,0,(loadR m.mem p n).2.2)
  else (Mon.zero,Ptr.zero,0,2)
 else (Mon.zero,Ptr.zero,0,8)
def whereM (m : Mem) (p : Ptr) (n : Int) : Int × Int × Int :=
 if (askR m p n).2=0 then match (askR m p n).1 with
  | none=>(-1,3,0)
  | some i=>if (m.al.getD i Alloc.zero).live then ((i : Int),0,0) else (-1,3,0)
 else (-1,0,(askR m p n).2)
theorem whereM_some {m : Mem} {p : Ptr} {n : Int} {i : Nat} {a : Alloc} (h : askR m p n=(some i,0)) (ha : m.al[i]? = some a) : whereM m p n=if a.live then ((i : Int),0,0) else (-1,3,0):=by
 have hg : m.al.getD i Alloc.zero=a:=by rw [List.getD_eq_getElem?_getD,ha];rfl
 rw [whereM,h]
 dsimp only
 rw [if_pos rfl,hg]
theorem whereM_none {m : Mem} {p : Ptr} {n : Int} (h : askR m p n=(none,0)) : whereM m p n=(-1,3,0):=by rw [whereM,h];rfl
theorem whereM_err {m : Mem} {p : Ptr} {n : Int} (h : (askR m p n).2≠0) : whereM m p n=(-1,0,(askR m p n).2):=by rw [whereM,if_neg h]
theorem load_ways {m : Mem} {p : Ptr} {n un er : Int} {l : List Cell} (h : loadR m p n=(l,un,er)) : (er≠0∧un=0∧whereM m p n=(-1,0,er))∨(er=0∧un=3∧whereM m p n=(-1,3,0)) ∨
  (er=0∧(un=0∨un=4) ∧ ∃ i a,atNum m.al p.a=some i∧m.al[i]? = some a∧a.live=true∧whereM m p n=((i : Int),0,0)∧askR m p n=(some i,0)):=by
 obtain ⟨ix,e,hask⟩ : ∃ ix e,askR m p n=(ix,e):=⟨_,_,rfl⟩
 by_cases he : e=0
 ·subst he
  have h2 : (askR m p n).2=0:=by rw [hask]
  cases ix with
  | none =>
   rw [loadR_gone h2 (rangeR_none hask)] at h
   cases h
   exact .inr (.inl ⟨rfl,rfl,whereM_none hask⟩)
  | some i =>
   obtain ⟨-,-,-,-,hn1,-,hat,x,hx,ho0,ho⟩:=askR_inv hask
   cases hv : x.live
   ·rw [loadR_gone h2 (rangeR_dead hask hx hv)] at h
    cases h
    exact .inr (.inl ⟨rfl,rfl,by rw [whereM_some hask hx,hv];rfl⟩)
   ·have hne : rangeR m p n≠[]:=by
     rw [rangeR_live hask hx hv]
     intro e
     have:=cutOf_len (x:=x) (o:=p.o.toNat) (n:=n.toNat) (by omega)
     rw [e] at this
     simp at this
     omega
    refine .inr (.inr ?_)
    have hw : whereM m p n=((i : Int),0,0):=by rw [whereM_some hask hx,hv];rfl
    by_cases hz : (rangeR m p n).any (· == Cell.zero)=true
    ·rw [loadR_unset h2 hne hz] at h
     cases h
     exact ⟨rfl,.inr rfl,i,x,hat,hx,hv,hw,hask⟩
    ·rw [loadR_yes h2 hne (Bool.eq_false_iff.2 hz)] at h
     cases h
     exact ⟨rfl,.inl rfl,i,x,hat,hx,hv,hw,hask⟩
 ·have h2 : (askR m p n).2=e:=by rw [hask]
  rw [loadR_err h2 he] at h
  cases h
  refine .inl ⟨he,rfl,?_⟩
  rw [whereM_err (by rw [h2];exact he),h2]
theorem store_ways {m x : Mem} {p : Ptr} {l : List Cell} (h : storeR m p l=(x,0,0)) : ∃ i a,atNum m.al p.a=some i∧m.al[i]? = some a∧a.live=true∧whereM m p l.length=((i : Int),0,0)∧askR m p l.length=(some i,0)∧l.all Cell.ok=true∧x=⟨m.al.set i (putCells a p.o.toNat l),m.next⟩:=by
 rcases storeR_cases m p l with ⟨e,h1,h2⟩ | ⟨h1,-⟩ | ⟨i,a,h1,h2,h3,h4,h5⟩
 ·rw [h1] at h;simp only [Prod.mk.injEq] at h;exact absurd h.2.2 h2
 ·rw [h1] at h;simp at h
 ·rw [h5] at h
  simp only [Prod.mk.injEq,and_true] at h
  exact ⟨i,a,(askR_inv h1).2.2.2.2.2.2.1,h2,h3,by rw [whereM_some h1 h2,h3];rfl,h1,h4,h.symm⟩
theorem loadM_bad {m : Mon} {p : Ptr} {n : Int} (h : okMon m=false) : loadM m p n=(Mon.zero,[],0,8):=by simp [loadM,h]
theorem loadM_err {m : Mon} {p : Ptr} {n un er : Int} {l : List Cell} (h : okMon m=true) (hl : loadR m.mem p n=(l,un,er)) (he : er≠0∨un=3) : loadM m p n=(Mon.zero,[],un,er):=by
 rw [loadM,if_pos h,hl]
 dsimp only
 rw [if_neg (by omega)]
theorem loadM_live {m : Mon} {p : Ptr} {n un why e4 : Int} {l : List Cell} {i : Nat} {st x : Stk} (h : okMon m=true) (hl : loadR m.mem p n=(l,un,0)) (hu : un≠3) (hat : atNum m.mem.al p.a=some i) (hst : m.stks[i]? = some st) (hd : use33 st p.o n p.t false m.run=(x,why,e4)) :
  loadM m p n=if why=0 then if un=0 then (⟨m.mem,m.stks.set i x,m.run,m.tag,m.call⟩,l,0,0) else (Mon.zero,[],un,0) else (Mon.zero,[],why,0):=by
 have hk : m.stks.getD i Stk.zero=st:=by rw [List.getD_eq_getElem?_getD,hst];rfl
 rw [loadM,if_pos h,hl]
 dsimp only
 rw [if_pos ⟨rfl,hu⟩,hat]
 dsimp only
 rw [hk,hd]
theorem storeM_bad {m : Mon} {p : Ptr} {l : List Cell} (h : okMon m=false) : storeM m p l=(Mon.zero,0,8):=by simp [storeM,h]
theorem storeM_err {m : Mon} {p : Ptr} {un er : Int} {l : List Cell} {x : Mem} (h : okMon m=true) (hl : storeR m.mem p l=(x,un,er)) (he : er≠0∨un≠0) : storeM m p l=(Mon.zero,un,er):=by
 rw [storeM,if_pos h,hl]
 dsimp only
 rw [if_neg (by omega)]
theorem storeM_live {m : Mon} {p : Ptr} {why e4 : Int} {l : List Cell} {y : Mem} {i : Nat} {st x : Stk} (h : okMon m=true) (hl : storeR m.mem p l=(y,0,0)) (hat : atNum m.mem.al p.a=some i) (hst : m.stks[i]? = some st) (hd : use33 st p.o l.length p.t true m.run=(x,why,e4)) :
  storeM m p l=if why=0 then (⟨y,m.stks.set i x,m.run,m.tag,m.call⟩,0,0) else (Mon.zero,why,0):=by
 have hk : m.stks.getD i Stk.zero=st:=by rw [List.getD_eq_getElem?_getD,hst];rfl
 rw [storeM,if_pos h,hl]
 dsimp only
 rw [if_pos ⟨rfl,rfl⟩,hat]
 dsimp only
 rw [hk,hd]
theorem retagM_bad {m : Mon} {p : Ptr} {n kind call : Int} (h : okMon m=false) : retagM m p n kind call=(Mon.zero,Ptr.zero,0,8):=by simp [retagM,h]
theorem retagM_arg {m : Mon} {p : Ptr} {n kind call : Int} (h : okMon m=true) (hk : ¬ (kindOk kind=true∧(call=0∨hasR m.run call=true))) : retagM m p n kind call=(Mon.zero,Ptr.zero,0,2):=by rw [retagM,if_pos h,if_neg hk]
theorem retagM_err {m : Mon} {p : Ptr} {n kind call un er : Int} {l : List Cell} (h : okMon m=true) (hk : kindOk kind=true∧(call=0∨hasR m.run call=true)) (hl : loadR m.mem p n=(l,un,er)) (he : er≠0) : retagM m p n kind call=(Mon.zero,Ptr.zero,0,er):=by
 rw [retagM,if_pos h,if_pos hk,hl]
 dsimp only
 rw [if_neg he]
theorem retagM_full {m : Mon} {p : Ptr} {n kind call un : Int} {l : List Cell} (h : okMon m=true) (hk : kindOk kind=true∧(call=0∨hasR m.run call=true)) (hl : loadR m.mem p n=(l,un,0)) (ht : m.tag=1000000) : retagM m p n kind call=(Mon.zero,Ptr.zero,0,18):=by
 rw [retagM,if_pos h,if_pos hk,hl]
 dsimp only
 rw [if_pos rfl,if_pos ht]
theorem retagM_gone {m : Mon} {p : Ptr} {n kind call : Int} {l : List Cell} (h : okMon m=true) (hk : kindOk kind=true∧(call=0∨hasR m.run call=true)) (hl : loadR m.mem p n=(l,3,0)) (ht : m.tag≠1000000) : retagM m p n kind call=(Mon.zero,Ptr.zero,3,0):=by
 rw [retagM,if_pos h,if_pos hk,hl]
 dsimp only
 rw [if_pos rfl,if_neg ht,if_pos rfl]
theorem retagM_live {m : Mon} {p : Ptr} {n kind call un why e4 : Int} {l : List Cell} {i : Nat} {st x : Stk} (h : okMon m=true) (hk : kindOk kind=true∧(call=0∨hasR m.run call=true)) (hl : loadR m.mem p n=(l,un,0)) (ht : m.tag≠1000000) (hu : un≠3) (hat : atNum m.mem.al p.a=some i) (hst : m.stks[i]? = some st)
  (hd : tag33 st p.o n kind p.t ⟨0,m.tag,call⟩ m.run=(x,why,e4)) :
  retagM m p n kind call=if e4=0∧why=0 then (⟨m.mem,m.stks.set i x,m.run,m.tag+1,m.call⟩,⟨p.a,p.o,m.tag⟩,0,0) else (Mon.zero,Ptr.zero,why,e4):=by
 have hs : m.stks.getD i Stk.zero=st:=by rw [List.getD_eq_getElem?_getD,hst];rfl
 rw [retagM,if_pos h,if_pos hk,hl]
 dsimp only
 rw [if_pos rfl,if_neg ht,if_neg hu,hat]
 dsimp only
 rw [hs,hd]
theorem trows_set2 {vs : List Value} {l : List Stk} {i : Nat} {s' : Value} {y : Stk} (hv : vs.length=l.length) (hi : i < l.length) : ((trows krow vs l).set (i * 2) (.int .i64 y.num)).set (i * 2+1) s'=trows krow (vs.set i s') (l.set i y):=by
 unfold trows
 induction l generalizing vs i with
 | nil=>simp at hi
 | cons a l ih =>
  cases vs with
  | nil=>simp at hv
  | cons v vs =>
   cases i with
   | zero=>simp [krow]
   | succ i =>
    have e : (i+1) * 2=i * 2+1+1:=by omega
    have h:=ih (vs:=vs) (i:=i) (by simpa using hv) (by simpa using hi)
    simp only [List.set_cons_succ,List.zip_cons_cons,List.flatMap_cons,krow,List.cons_append,List.nil_append,e] at h ⊢
    rw [h]
theorem OwnK.setS {S T : Nat→Prop} {wT w' : World} {N g cap : Nat} {s' : Value} {vs : List Value} {l : List Stk} {i : Nat} {y : Stk} (h : OwnK wT N (.slice (some ⟨g,0,none⟩) l.length cap) vs l) (hi : i < l.length) (hX : ExtBut T wT w') (hT : ∀ b,N≤b→b≠g→b < wT.heap.size → ¬ T b∧S b) (hg : S g)
  (hO : Own w' N 69 2 (.slice (some ⟨g,0,none⟩) l.length cap) l.length (((trows krow vs l).set (i * 2) (.int .i64 y.num)).set (i * 2+1) s')) (hR : Fq S w' (fun w=>Sts w s' y.cells)) :
  Fq S w' (fun w=>Kts w (.slice (some ⟨g,0,none⟩) l.length cap) (l.set i y)):=by
 rw [trows_set2 h.len hi] at hO
 intro w'' hw
 refine ⟨vs.set i s',All2.iff.2 ⟨by simp [h.len],fun j u z hu hz => ?_⟩,?_⟩
 ·by_cases e : j=i
  ·subst e
   rw [List.getElem?_set_self (by rw [h.len];exact hi)] at hu
   rw [List.getElem?_set_self hi] at hz
   cases hu;cases hz
   exact hR w'' hw
  ·rw [List.getElem?_set_ne (fun e'=>e e'.symm)] at hu hz
   exact ((h.inner j u z hu hz).to (S':=S) hX (fun b h1 hl=>(hT b h1.1 (fun e=>h1.2 (by rw [e];rfl)) hl).1) (fun b h1 hl=>(hT b h1.1 (fun e=>h1.2 (by rw [e];rfl)) hl).2)) w'' hw
 ·rw [List.length_set]
  exact hO.fs w'' fun b e hl=>hw b (by have e' : some g=some b:=e;cases e';exact hg) hl
end Go.Proofs.YtoanoodfacmieaaGreatDoor

/- Contracts: phases.read, phases.Many, the reference's Many (layer 32). (printed by gen/ph32.py) -/
namespace Go.Proofs.YtoanoodfacmieaaGreatDoor
set_option maxRecDepth 100000
open Go.RowKit
end Go.Proofs.YtoanoodfacmieaaGreatDoor

/- Contracts: Phase, Reserve, Activate (layer 32), the program's and the reference's; the helpers of its statements. (printed by gen/ph32.py) -/
namespace Go.Proofs.YtoanoodfacmieaaGreatDoor
set_option maxRecDepth 100000
open Go.RowKit
theorem phaseR_ok {l : List Item} {tag : Int} (h : okS l=true) : phaseR l tag=(phaseOf l tag,0):=by simp [phaseR,h]
theorem phaseOf_some {l : List Item} {tag : Int} {i : Nat} {x : Item} (h : findAt l tag true=some i) (hx : l[i]? = some x) : phaseOf l tag=if x.p=2 then 1 else 2:=by
 simp only [phaseOf,h,hx,Option.any_some]
 by_cases hp : x.p=2
 ·simp [hp]
 ·simp [hp]
end Go.Proofs.YtoanoodfacmieaaGreatDoor

/- How a statement is closed: a call that returns true and only makes memory leaves every argument aas it read. -/
namespace Go.Proofs.YtoanoodfacmieaaGreatDoor
set_option maxRecDepth 100000
open Go.ChangeShapes Go.WideShapes Go.ChangeAt Go.RowKit
theorem Tryzown : ownKnob Tryz.prog.godebug=none:=by kernel_rfl
theorem TryzlaidOut : laidOutB Tryz.prog=true:=by kernel_rfl
section
variable {H : Type} {enc : TypeId × Value→H} {P : Program}
theorem trodAll_stays (hl : laidOutB P=true) {W W' : World} (hb : Below W.heap.size W W') : ∀ (ts : List TypeId) (vs : List Value) (ds : List (DataW H)) (ps : List MemPlace),(∀ t ∈ ts,P.readableRec t=true∧t < P.types.size)→(∀ x ∈ ps,x.block < W.heap.size) →
  DataW.TrodAll enc P W 0 (fun _=>true) true ts vs ds ps→DataW.TrodAll enc P W' 0 (fun b=>decide (b < W.heap.size)) true ts vs ds ps
 | [],[],[],ps,_,_,h=>h
 | t :: ts,v :: vs,d :: ds,ps,hr,hlt,h=>by
  obtain ⟨p,q,h1,h2,rfl⟩:=h
  refine ⟨p,q,Below.trod hl (hr t (by simp)).1 (hr t (by simp)).2 h1 hb (fun x hx=>hlt x (by simp [hx])),trodAll_stays hl hb ts vs ds q (fun t ht=>hr t (by simp [ht])) (fun x hx=>hlt x (by simp [hx])) h2,rfl⟩
 | [],_ :: _,_,_,_,_,h=>h.elim
 | [],[],_ :: _,_,_,_,h=>h.elim
 | _ :: _,[],_,_,_,_,h=>h.elim
 | _ :: _,_ :: _,[],_,_,_,h=>h.elim
theorem trodAll_len {W : World} : ∀ (ts : List TypeId) (vs : List Value) (ds : List (DataW H)) (ps : List MemPlace),DataW.TrodAll enc P W 0 (fun _=>true) true ts vs ds ps→ds.length=ts.length
 | [],[],[],_,_=>rfl
 | _ :: ts,_ :: vs,_ :: ds,_,h=>by
  obtain ⟨p,q,_,h2,_⟩:=h
  simp [trodAll_len ts vs ds q h2]
 | [],_ :: _,_,_,h=>h.elim
 | [],[],_ :: _,_,h=>h.elim
 | _ :: _,[],_,_,h=>h.elim
 | _ :: _,_ :: _,[],_,h=>h.elim
theorem post_law (hl : laidOutB P=true) {f : Func} {s : ChangeSpec} {tb : TypeId} (hres : f.resultTypes=#[tb]) (htb : P.underlying tb=some .bool) (hrd : f.params.toList.all (fun t=>P.readableRec t && decide (t < P.types.size))=true) (hv : s.vars=[])
  (hs : ∀ ds : List (DataW H),ds.length=f.params.size→s.fn H ds = { results:=[.lit (.bool true)],args:=ds,vars:=[] }) {fresh handsOn : Bool} {W W' : World} {args : Array Value} {ds gs : List (DataW H)} {before : List MemPlace}
  (hW : DataW.Whole enc P f.params.toList s.vars false W args.toList ds gs before) (hb : Below W.heap.size W W') :
  s.post enc P f false fresh handsOn false W args (.bool true) W':=by
 have hW':=hW
 have hlt:=hW.lt
 obtain ⟨p,q,hA,hV,rfl,hz,hn⟩:=hW
 rw [hv] at hV
 have hgs : gs=[]:=by cases gs <;> simp_all [DataW.TrodVars]
 subst hgs
 have hq : q=[]:=hV
 subst hq
 have hlen:=trodAll_len _ _ _ _ hA
 have hfn:=hs ds (by simpa using hlen)
 refine ⟨ds,[],p ++ [],[],p,[],hW',?_,?_,?_,Below.frame hb _,fun h=>by cases h⟩
 ·rw [List.append_nil,hfn,hres]
  exact trodAll_mk1 (shut_bool htb true)
 ·rw [List.append_nil,hfn]
  refine trodAll_stays hl hb _ _ _ _ (fun t ht => ?_) (fun x hx=>hlt x (by simp [hx])) hA
  have:=List.all_eq_true.1 hrd t ht
  simpa using this
 ·rw [List.append_nil,hfn,hv]
  rfl
end
end Go.Proofs.YtoanoodfacmieaaGreatDoor

/- How a statement is closed whose row lists the variable perms: what it holds at the start. -/
namespace Go.Proofs.YtoanoodfacmieaaGreatDoor
set_option maxRecDepth 100000
open Go.ChangeShapes Go.WideShapes Go.ChangeAt Go.RowKit
theorem gPerms : Tryz.prog.globalNamed "pawnshop/grant.perms" = some 0 := by kernel_rfl
theorem gPermsType : (Tryz.prog.globals[0]?).map (·.type)=some 140:=by kernel_rfl
theorem cellsPerms : Tryz.prog.cellsOf 140=5:=by kernel_rfl
theorem cellsU8 : Tryz.prog.cellsOf 5=1:=by kernel_rfl
theorem perms_of_laid {W : World} (h : laidMetH Tryz.prog [("pawnshop/grant.perms", Rows.laid_pawnshop_grant_perms)] W) : Perms W := by
 have hT : Lib.TabIs Tryz.prog W "pawnshop/grant.perms" .u8 [0, 4, 1, 2, 3] := Lib.tabIs_of_head (rest := []) gPerms gPermsType Tryz.underlying140 Tryz.underlying5 cellsU8 cellsPerms h
 exact ⟨hT.cell gPerms 0 (by decide),hT.cell gPerms 1 (by decide),hT.cell gPerms 2 (by decide),hT.cell gPerms 3 (by decide),hT.cell gPerms 4 (by decide)⟩
noncomputable def doorWorld (os : Os) : World :=
 { World.holding Tryz.prog os ⟨#[],#[],[]⟩ with heap:=(World.holding Tryz.prog os ⟨#[],#[],[]⟩).heap.modify 0 fun
   | .cells _ t frozen => .cells #[.int .u8 0,.int .u8 4,.int .u8 1,.int .u8 2,.int .u8 3] t frozen
   | o=>o }
end Go.Proofs.YtoanoodfacmieaaGreatDoor

/- Contracts: the helpers of the statements of layer 30; the plain laws that they need. -/
namespace Go.Proofs.YtoanoodfacmieaaGreatDoor
set_option maxRecDepth 100000
open Go.ChangeShapes Go.WideShapes Go.ChangeAt Go.RowKit
theorem findAt_top {M : List Item} {n : Item} {tag : Int} {write : Bool} (h : grants tag write n=true) : findAt (M ++ [n]) tag write=some M.length:=by
 refine findAt_some (x:=n) (by simp) h ?_
 intro j y hj hy
 have:=(List.getElem?_eq_some_iff.1 hy).1
 simp at this
 omega
end Go.Proofs.YtoanoodfacmieaaGreatDoor

/- Plain laws of layer 29: how an access parts a stack, index by index. -/
namespace Go.Proofs.YtoanoodfacmieaaGreatDoor
set_option maxRecDepth 100000
open Go.RowKit
end Go.Proofs.YtoanoodfacmieaaGreatDoor

/- Plain laws of layer 32: what is reserved stays so through reads; reads one by one. No program in sight. -/
namespace Go.Proofs.YtoanoodfacmieaaGreatDoor
set_option maxRecDepth 100000
open Go.RowKit
theorem useR_valid {l : List Item} {tag : Int} {write : Bool} {run : List Int} (hr : okR run=true) (hok : okS l=true) :
  (findAt l tag write=none∧useR l tag write run=([],1,0)) ∨ ∃ i,findAt l tag write=some i∧((useR l tag write run=([],2,0))∨(useR l tag write run=(useLeft l i write,0,0)∧(firstR (useGone l i write) run).isSome=false)):=by
 unfold useR
 rw [if_pos hr]
 simp only [accL,accG,accW,hok,if_true,chk,usedL,usedG,usedW]
 cases hf : findAt l tag write with
 | none=>exact .inl ⟨rfl,toldR'_no (by simp)⟩
 | some i =>
  refine .inr ⟨i,rfl,?_⟩
  cases hh : (firstR (useGone l i write) run).isSome
  ·exact .inr ⟨toldR'_no (by simp [hh]),rfl⟩
  ·exact .inl (toldR'_yes ⟨rfl,rfl,hh⟩)
theorem findAt_cases (l : List Item) (tag : Int) (write : Bool) : (∃ i,findAt l tag write=some i)∨findAt l tag write=none:=by
 cases h : findAt l tag write with
 | none=>exact .inr rfl
 | some i=>exact .inl ⟨i,rfl⟩
theorem useR_err {l : List Item} {tag : Int} {write : Bool} {run : List Int} (hr : okR run=true) (hok : okS l=true) : (useR l tag write run).2.2=0∧((useR l tag write run).2.1=0∨((useR l tag write run).1=[]∧((useR l tag write run).2.1=1∨(useR l tag write run).2.1=2))):=by
 rcases useR_valid (tag:=tag) (write:=write) hr hok with ⟨-,h⟩ | ⟨i,-,h | ⟨h,-⟩⟩
 ·rw [h];exact ⟨rfl,.inr ⟨rfl,.inl rfl⟩⟩
 ·rw [h];exact ⟨rfl,.inr ⟨rfl,.inr rfl⟩⟩
 ·rw [h];exact ⟨rfl,.inl rfl⟩
structure Resv (l : List Item) (r : Item) : Prop where
 ok : okS l=true
 mem : r ∈ l
 only : ∀ x ∈ l,x.t=r.t→x=r
theorem Resv.find {l : List Item} {r : Item} {write : Bool} (h : Resv l r) (hr : r.p=2) : ∃ i,findAt l r.t write=some i∧l[i]? = some r:=by
 obtain ⟨j,hj⟩:=List.mem_iff_getElem?.1 h.mem
 have hg : grants r.t write r=true:=by simp [grants,hr]
 cases hf : findAt l r.t write with
 | none=>rw [findAt_no hf j r hj] at hg;cases hg
 | some i =>
  obtain ⟨x,hx,hgx,-⟩:=findAt_is hf
  have ht : x.t=r.t:=by
   unfold grants at hgx
   simp only [Bool.and_eq_true,beq_iff_eq] at hgx
   exact hgx.1
  have:=h.only x (List.mem_of_getElem? hx) ht
  subst this
  exact ⟨i,rfl,hx⟩
theorem Resv.left {l : List Item} {r : Item} {t : Int} {i : Nat} (h : Resv l r) (hr : r.p=2) (hf : findAt l t false=some i) : Resv (useLeft l i false) r:=by
 refine ⟨useLeft_ok h.ok,?_,fun x hx hxt => ?_⟩
 ·unfold useLeft
  rw [if_neg (by decide)]
  have hm:=h.mem
  rw [← List.take_append_drop (i+1) l] at hm
  rcases List.mem_append.1 hm with hm | hm
  ·exact List.mem_append_left _ hm
  ·exact List.mem_append_right _ (List.mem_filter.2 ⟨hm,by simp [hr]⟩)
 ·unfold useLeft at hx
  rw [if_neg (by decide)] at hx
  refine h.only x ?_ hxt
  rcases List.mem_append.1 hx with hx | hx
  ·exact List.mem_of_mem_take hx
  ·exact List.mem_of_mem_drop (List.mem_filter.1 hx).1
theorem Resv.read {l N : List Item} {r : Item} {t : Int} {run : List Int} (h : Resv l r) (hp : r.p=2) (hr : okR run=true) {e : Int} (hu : useR l t false run=(N,0,e)) : Resv N r:=by
 rcases useR_valid (tag:=t) (write:=false) hr h.ok with ⟨-,h1⟩ | ⟨i,hf,h1 | ⟨h1,-⟩⟩
 ·rw [h1] at hu;simp at hu
 ·rw [h1] at hu;simp at hu
 ·rw [h1] at hu
  simp only [Prod.mk.injEq] at hu
  rw [← hu.1]
  exact h.left hp hf
theorem Resv.reads {run : List Int} {r : Item} (hp : r.p=2) (hr : okR run=true) : ∀ (ts : List Int) (l : List Item),Resv l r→(readsR run l ts).2.2=0→Resv (readsR run l ts).1 r
 | [],l,h,_=>h
 | t :: ts,l,h,h0=>by
  unfold readsR at h0 ⊢
  by_cases hu : (useR l t false run).2.1=0
  ·rw [if_pos hu] at h0 ⊢
   exact Resv.reads hp hr ts _ (h.read hp hr (e:=(useR l t false run).2.2) (by rw [← hu])) h0
  ·rw [if_neg hu] at h0
   exact absurd h0 hu
theorem Resv.write {l N : List Item} {r : Item} {run : List Int} (h : Resv l r) (hp : r.p=2) (hr : okR run=true) {e : Int} (hu : useR l r.t true run=(N,0,e)) :
  (∃ M,N=M ++ [⟨1,r.t,r.c⟩])∧okS N=true∧phaseR N r.t=(2,0):=by
 obtain ⟨i,hf,hx⟩:=h.find (write:=true) hp
 have hil:=(List.getElem?_eq_some_iff.1 hx).1
 rcases useR_valid (tag:=r.t) (write:=true) hr h.ok with ⟨h0,-⟩ | ⟨j,hf',h1 | ⟨h1,-⟩⟩
 ·rw [hf] at h0;cases h0
 ·rw [h1] at hu;simp at hu
 ·rw [hf] at hf'
  cases hf'
  rw [h1] at hu
  simp only [Prod.mk.injEq] at hu
  have hok : okS N=true:=by rw [← hu.1];exact useLeft_ok h.ok
  have hN : N=l.take i ++ [⟨1,r.t,r.c⟩]:=by
   rw [← hu.1]
   unfold useLeft actAt
   rw [if_pos rfl,take_get hx]
   simp only [hp,if_true]
   rw [List.take_add_one,hx]
   have : (l.take i).length=i:=by rw [List.length_take];omega
   simp [List.set_append,this]
  refine ⟨⟨_,hN⟩,hok,?_⟩
  have hf2 : findAt N r.t true=some (l.take i).length:=by rw [hN];exact findAt_top (by simp [grants])
  rw [phaseR_ok hok,phaseOf_some (x:=⟨1,r.t,r.c⟩) hf2 (by rw [hN];simp)]
  simp
end Go.Proofs.YtoanoodfacmieaaGreatDoor

/- Plain laws of stacks that are accessed: what is left has the tags and calls that were there; the newest item grants; no program in sight. -/
namespace Go.Proofs.YtoanoodfacmieaaGreatDoor
set_option maxRecDepth 100000
open Go.RowKit
theorem eachGo_ne {f : List Item→List Item × Int × Int} {num : Int} {cells : List (List Item)} {y : Stk} : ∀ (m j : Nat) (out : List (List Item)) (why : Int),why≠0→eachGo f num cells m j out why=(y,0,0)→False
 | 0,_,_,why,h0,h=>by rw [eachGo_why h0] at h;simp only [Prod.mk.injEq] at h;exact h0 h.2.1
 | m+1,j,out,why,h0,h=>by
  unfold eachGo at h
  split at h
  ·(try rw [if_neg h0] at h);exact eachGo_ne m _ _ why h0 h
  ·rename_i hn;simp only [Prod.mk.injEq] at h;exact hn h.2.2
theorem eachGo_shape {f : List Item→List Item × Int × Int} {num : Int} {cells : List (List Item)} {y : Stk} : ∀ (m j : Nat) (out : List (List Item)),j+m≤cells.length→out.length=cells.length→eachGo f num cells m j out 0=(y,0,0) →
  y.num=num∧y.cells.length=cells.length ∧ ∀ (i : Nat) (p : List Item),cells[i]? = some p→(j≤i∧i < j+m → ∃ q,f p=(q,0,0)∧y.cells[i]? = some q)∧(¬ (j≤i∧i < j+m)→y.cells[i]? = out[i]?)
 | 0,j,out,_,hl,h=>by
  rw [eachGo_end] at h
  simp only [Prod.mk.injEq,and_true] at h
  subst h
  exact ⟨rfl,hl,fun i p _=>⟨fun h=>by omega,fun _=>rfl⟩⟩
 | m+1,j,out,hj,hl,h=>by
  obtain ⟨x,hx⟩ : ∃ x,cells[j]? = some x:=⟨cells[j]'(by omega),by simp⟩
  obtain ⟨⟨s,v,e⟩,hf⟩ : ∃ z,f x=z:=⟨_,rfl⟩
  by_cases he : e=0
  ·subst he
   rw [eachGo_ok hx hf,if_pos rfl] at h
   by_cases hv : v=0
   ·subst hv
    obtain ⟨h1,h2,h3⟩:=eachGo_shape m (j+1) (out.set j s) (by omega) (by simpa using hl) h
    refine ⟨h1,h2,fun i p hp => ?_⟩
    obtain ⟨k1,k2⟩:=h3 i p hp
    refine ⟨fun hi => ?_,fun hi => ?_⟩
    ·by_cases e : i=j
     ·subst e
      rw [hx] at hp
      cases hp
      refine ⟨s,hf,?_⟩
      rw [k2 (by omega),List.getElem?_set_self (by omega)]
     ·exact k1 (by omega)
    ·rw [k2 (by omega),List.getElem?_set_ne (by omega)]
   ·exact absurd h (fun h=>eachGo_ne _ _ _ _ hv h)
  ·rw [eachGo_bad hx hf he] at h
   simp only [Prod.mk.injEq] at h
   exact absurd h.2.2 he
theorem eachGo_all {f : List Item→List Item × Int × Int} {num : Int} {cells : List (List Item)} : ∀ (m j : Nat) (out : List (List Item)),j+m≤cells.length→(∀ (i : Nat) (p : List Item),j≤i→i < j+m→cells[i]? = some p → ∃ q,f p=(q,0,0)) → ∃ y,eachGo f num cells m j out 0=(y,0,0)
 | 0,_,_,_,_=>⟨_,eachGo_end⟩
 | m+1,j,out,hj,h=>by
  obtain ⟨x,hx⟩ : ∃ x,cells[j]? = some x:=⟨cells[j]'(by omega),by simp⟩
  obtain ⟨q,hq⟩:=h j x (Nat.le_refl _) (by omega) hx
  rw [eachGo_ok hx hq,if_pos rfl]
  exact eachGo_all m (j+1) _ (by omega) fun i p h1 h2 hp=>h i p (by omega) (by omega) hp
theorem okK_item {x : Stk} (h : okK x=true) {i : Nat} {p : List Item} (hp : x.cells[i]? = some p) : okS p=true:=by
 unfold okK at h
 simp only [Bool.and_eq_true] at h
 exact List.all_eq_true.1 h.2 p (List.mem_of_getElem? hp)
theorem ask33_in {x : Stk} {a n : Int} {run : List Int} (h : ask33 x a n run=0) : okR run=true∧okK x=true∧0≤a∧1≤n∧a+n≤x.cells.length:=by
 unfold ask33 at h
 split at h
 ·split at h
  ·split at h
   ·rename_i h1 h2 h3;unfold inR33 at h3;exact ⟨h1,h2,by omega,by omega,by omega⟩
   ·omega
  ·omega
 ·omega
theorem ask33_of {x : Stk} {a n : Int} {run : List Int} (hr : okR run=true) (hk : okK x=true) (h0 : 0≤a) (h1 : 1≤n) (h2 : a+n≤x.cells.length) : ask33 x a n run=0:=by
 rw [ask33,if_pos hr,if_pos hk,if_pos (by unfold inR33;omega)]
def itsB (P : Int→Int→Prop) (s : List Item) : Prop := ∀ it ∈ s,P it.t it.c
theorem useR_in {l s : List Item} {tag : Int} {b : Bool} {run : List Int} {P : Int→Int→Prop} (hok : okS l=true) (hP : itsB P l) (h : useR l tag b run=(s,0,0)) : okS s=true∧itsB P s:=by
 by_cases hr : okR run=true
 ·rcases useR_valid (tag:=tag) (write:=b) hr hok with ⟨-,h1⟩ | ⟨i,hf,h1 | ⟨h1,-⟩⟩
  ·rw [h1] at h;simp at h
  ·rw [h1] at h;simp at h
  ·rw [h1] at h
   simp only [Prod.mk.injEq,and_true] at h
   subst h
   refine ⟨useLeft_ok hok,fun y hy => ?_⟩
   rcases useLeft_mem hy with h2 | ⟨x,h2,-,rfl⟩
   ·exact hP y h2
   ·exact hP x h2
 ·rw [useR,if_neg hr] at h;simp at h
theorem retagR_zero {l s g : List Item} {k old : Int} {x : Item} (h : retagR l k old x=(s,g,0,0)) : okS l=true∧kindOk k=true∧argOk x=true ∧ ∃ i,findAt l old (writesOf k)=some i∧(useLeft l i (writesOf k)).length < 600∧s=useLeft l i (writesOf k) ++ [⟨permOf k,x.t,x.c⟩]:=by
 cases hok : okS l
 ·rw [retagR_bad hok] at h;simp at h
 by_cases ha : (kindOk k && argOk x)=true
 ·have hk:=ha
  simp only [Bool.and_eq_true] at hk
  rcases findAt_cases l old (writesOf k) with ⟨i,hf⟩ | hf
  ·have hw : usedW l old (writesOf k)=0:=by rw [usedW,hf]
   have hu : usedL l old (writesOf k)=useLeft l i (writesOf k):=by rw [usedL,hf]
   by_cases hl : (usedL l old (writesOf k)).length=600
   ·rw [retagR_full hok ha hw hl] at h;simp at h
   ·rw [retagR_yes hok ha hw hl] at h
    simp only [Prod.mk.injEq,and_true] at h
    have h9:=useLeft_ok (i:=i) (write:=writesOf k) hok
    unfold okS at h9
    simp only [Bool.and_eq_true,decide_eq_true_eq] at h9
    rw [hu] at hl h
    exact ⟨rfl,hk.1,hk.2,i,hf,by omega,h.1.symm⟩
  ·have hw : usedW l old (writesOf k)=1:=by rw [usedW,hf]
   rw [retagR_no hok ha (by rw [hw];decide),hw] at h
   simp at h
 ·rw [retagR_arg hok (by simpa using ha)] at h;simp at h
theorem tagR_in {l s : List Item} {k old : Int} {it : Item} {run : List Int} {P : Int→Int→Prop} (hP : itsB P l) (hi : P it.t it.c) (h : tagR l k old it run=(s,0,0)) : okS s=true∧itsB P s∧kindOk k=true ∧ ∃ U,s=U ++ [⟨permOf k,it.t,it.c⟩]:=by
 by_cases hr : okR run=true
 ·rw [tagR,if_pos hr] at h
  obtain ⟨⟨s',g',w',e'⟩,hq⟩ : ∃ z,retagR l k old it=z:=⟨_,rfl⟩
  rw [hq] at h
  dsimp only at h
  unfold toldR' at h
  split at h
  ·simp at h
  ·simp only [Prod.mk.injEq] at h
   obtain ⟨rfl,rfl,rfl⟩:=h
   obtain ⟨h1,h2,h3,i,hf,h4,rfl⟩:=retagR_zero hq
   have hu:=useLeft_ok (i:=i) (write:=writesOf k) h1
   refine ⟨?_,fun y hy => ?_,h2,_,rfl⟩
   ·unfold okS at hu ⊢
    simp only [Bool.and_eq_true,decide_eq_true_eq,List.all_append,List.all_cons,List.all_nil,Bool.and_true,List.length_append,List.length_cons,List.length_nil] at hu ⊢
    refine ⟨by omega,hu.2,?_⟩
    have hp:=permOf_ok k
    unfold argOk at h3
    simp only [Bool.and_eq_true] at h3
    unfold Item.ok
    simp only [Bool.and_eq_true,Bool.or_eq_true,beq_iff_eq]
    exact ⟨⟨by omega,h3.1.2⟩,h3.2⟩
   ·rcases List.mem_append.1 hy with h5 | h5
    ·rcases useLeft_mem h5 with h6 | ⟨x,h6,-,rfl⟩
     ·exact hP y h6
     ·exact hP x h6
    ·obtain rfl:=List.mem_singleton.1 h5
     exact hi
 ·rw [tagR,if_neg hr] at h;simp at h
theorem useR_top {U : List Item} {it : Item} {b : Bool} {run : List Int} (hr : okR run=true) (hok : okS (U ++ [it])=true) (hg : b=false∨it.p≠4) : ∃ s,useR (U ++ [it]) it.t b run=(s,0,0):=by
 have hl : (U ++ [it])[U.length]? = some it:=by simp
 have hf : findAt (U ++ [it]) it.t b=some U.length:=findAt_some hl (by unfold grants;rcases hg with rfl | hg <;> simp [*]) fun j y hj hy=>by
  have:=(List.getElem?_eq_some_iff.1 hy).1
  simp at this
  omega
 have hgone : useGone (U ++ [it]) U.length b=[]:=by
  unfold useGone
  rw [List.drop_of_length_le (by simp)]
  cases b <;> rfl
 rcases useR_valid (tag:=it.t) (write:=b) hr hok with ⟨h0,-⟩ | ⟨i,hf',h1 | ⟨h1,-⟩⟩
 ·rw [hf] at h0;cases h0
 ·exfalso
  unfold useR at h1
  rw [if_pos hr] at h1
  simp only [accL,accG,accW,hok,if_true,chk,usedL,usedG,usedW,hf,hgone] at h1
  rw [toldR'_no (by simp [firstR])] at h1
  simp at h1
 ·exact ⟨_,h1⟩
theorem use33_in {x y : Stk} {a n tag : Int} {b : Bool} {run : List Int} {P : Int→Int→Prop} (hP : ∀ s ∈ x.cells,itsB P s) (h : use33 x a n tag b run=(y,0,0)) : y.num=x.num∧y.cells.length=x.cells.length∧okK y=true ∧ ∀ s ∈ y.cells,itsB P s:=by
 unfold use33 at h
 split at h
 ·rename_i h0
  obtain ⟨h1,h2,h3,h4,h5⟩:=ask33_in h0
  obtain ⟨k1,k2,k3⟩:=eachGo_shape n.toNat a.toNat x.cells (by omega) rfl h
  have key : ∀ s ∈ y.cells,okS s=true∧itsB P s:=by
   intro s hs
   obtain ⟨i,hi⟩:=List.mem_iff_getElem?.1 hs
   have hlt:=(List.getElem?_eq_some_iff.1 hi).1
   obtain ⟨p,hp⟩ : ∃ p,x.cells[i]? = some p:=⟨x.cells[i]'(by omega),by simp⟩
   have hokp:=okK_item h2 hp
   have hPp:=hP p (List.mem_of_getElem? hp)
   obtain ⟨j1,j2⟩:=k3 i p hp
   by_cases hin : a.toNat≤i∧i < a.toNat+n.toNat
   ·obtain ⟨q,hq,hy⟩:=j1 hin
    rw [hi] at hy
    cases hy
    exact useR_in hokp hPp hq
   ·rw [j2 hin,hp] at hi
    cases hi
    exact ⟨hokp,hPp⟩
  refine ⟨k1,k2,?_,fun s hs=>(key s hs).2⟩
  unfold okK at h2 ⊢
  simp only [Bool.and_eq_true,decide_eq_true_eq] at h2 ⊢
  rw [k1,k2]
  exact ⟨h2.1,List.all_eq_true.2 fun s hs=>(key s hs).1⟩
 ·rename_i hn;simp only [Prod.mk.injEq] at h;exact absurd h.2.2 hn
theorem tag33_in {x y : Stk} {a n k old : Int} {it : Item} {run : List Int} {P P' : Int→Int→Prop} (hPP : ∀ t c,P t c→P' t c) (hP : ∀ s ∈ x.cells,itsB P s) (hi : P' it.t it.c) (h : tag33 x a n k old it run=(y,0,0)) :
  y.num=x.num∧y.cells.length=x.cells.length∧okK y=true∧(∀ s ∈ y.cells,itsB P' s)∧kindOk k=true∧okR run=true∧0≤a∧1≤n∧a+n≤x.cells.length ∧ ∀ (i : Nat) (s : List Item),a.toNat≤i→i < a.toNat+n.toNat→y.cells[i]? = some s → ∃ U,s=U ++ [⟨permOf k,it.t,it.c⟩]:=by
 unfold tag33 at h
 split at h
 ·rename_i h0
  obtain ⟨h1,h2,h3,h4,h5⟩:=ask33_in h0
  split at h
  ·rename_i hk
   obtain ⟨k1,k2,k3⟩:=eachGo_shape n.toNat a.toNat x.cells (by omega) rfl h
   have hP' : ∀ s ∈ x.cells,itsB P' s:=fun s hs it hit=>hPP _ _ (hP s hs it hit)
   have key : ∀ (i : Nat) (s : List Item),y.cells[i]? = some s→(okS s=true∧itsB P' s)∧(a.toNat≤i→i < a.toNat+n.toNat → ∃ U,s=U ++ [⟨permOf k,it.t,it.c⟩]):=by
    intro i s hs
    have hlt:=(List.getElem?_eq_some_iff.1 hs).1
    obtain ⟨p,hp⟩ : ∃ p,x.cells[i]? = some p:=⟨x.cells[i]'(by omega),by simp⟩
    have hokp:=okK_item h2 hp
    have hPp:=hP' p (List.mem_of_getElem? hp)
    obtain ⟨j1,j2⟩:=k3 i p hp
    by_cases hin : a.toNat≤i∧i < a.toNat+n.toNat
    ·obtain ⟨q,hq,hy⟩:=j1 hin
     rw [hs] at hy
     cases hy
     obtain ⟨q1,q2,-,q4⟩:=tagR_in hPp hi hq
     exact ⟨⟨q1,q2⟩,fun _ _=>q4⟩
    ·rw [j2 hin,hp] at hs
     cases hs
     exact ⟨⟨hokp,hPp⟩,fun h1 h2=>absurd ⟨h1,h2⟩ hin⟩
   refine ⟨k1,k2,?_,fun s hs => ?_,hk,h1,h3,h4,h5,fun i s h6 h7 h8=>(key i s h8).2 h6 h7⟩
   ·unfold okK at h2 ⊢
    simp only [Bool.and_eq_true,decide_eq_true_eq] at h2 ⊢
    rw [k1,k2]
    refine ⟨h2.1,List.all_eq_true.2 fun s hs => ?_⟩
    obtain ⟨i,hi⟩:=List.mem_iff_getElem?.1 hs
    exact (key i s hi).1.1
   ·obtain ⟨i,hi⟩:=List.mem_iff_getElem?.1 hs
    exact (key i s hi).1.2
  ·simp at h
 ·rename_i hn;simp only [Prod.mk.injEq] at h;exact absurd h.2.2 hn
theorem use33_top {y : Stk} {a n : Int} {b : Bool} {it : Item} {run : List Int} (hr : okR run=true) (hk : okK y=true) (h0 : 0≤a) (h1 : 1≤n) (h2 : a+n≤y.cells.length)
  (ht : ∀ (i : Nat) (s : List Item),a.toNat≤i→i < a.toNat+n.toNat→y.cells[i]? = some s → ∃ U,s=U ++ [it]) (hg : b=false∨it.p≠4) : ∃ z,use33 y a n it.t b run=(z,0,0):=by
 rw [use33,if_pos (ask33_of hr hk h0 h1 h2)]
 refine eachGo_all _ _ _ (by omega) fun i p h3 h4 hp => ?_
 obtain ⟨U,rfl⟩:=ht i p h3 h4 hp
 exact useR_top hr (okK_item hk hp) hg
end Go.Proofs.YtoanoodfacmieaaGreatDoor

/- Contracts: slices.Grow of nil and slices.Concat at stacks of items. -/
namespace Go.Proofs.YtoanoodfacmieaaGreatDoor
set_option maxRecDepth 100000
open Go.RowKit
theorem wpList_append_zeros {P : Program} {w : World} {ops : Array Oper} {rest : List Oper} {o : Oper} {a : Act} {Q : Exit→Act→World→Prop} (hgd : o.guard=none) (s x : Operand) (t tn : TypeId)
  (ho : o.op = .call { callee := .builtin .append,args:=#[s,x],argTypes:=#[t,tn] }) {n : Nat} {kq kn : IntKind} (hs : a.eval s = .slice none 0 0) (hu : a.eval x = .int kq n) {e : TypeId} {i : TypeInfo} {z : Value} {k : Nat}
  (ht : P.underlying t=some (.slice e)) (htn : P.underlying tn=some (.int kn)) (hi : P.info? e=some i) (hz : i.zero=some z) (hik : i.size=k) (hzk : z.cells.size=k) (h0 : 0 < n) (hk : 0 < k) (h63 : n≤maxLen) (hbytes : n * i.bytes≤140737488355328)
  (h : ∀ v' w',(∃ g cap cur,v' = .slice (some ⟨g,0,none⟩) n cap∧w.heap.size≤g∧w'.heap[g]? = some (.cells cur e (0,0))∧n≤cap∧cap≤maxLen∧cur.size=cap * k)→Ext w w'→wpList P ops Q rest (a.put o.dst v') w') : wpList P ops Q (o :: rest) a w:=by
 refine wpList_plain hgd fun _ hK => ?_
 subst hik
 have hr:=Go.Lib.run_append_nil_zeros (P:=P) w t tn o.type e i z kq kn ht htn hi hz n h0 hk (by simp only [maxLen] at h63;omega) (by omega)
 have hge : n≤grownCap w n 0 e:=grownCap_ge w n 0 e
 have hcm : grownCap w n 0 e≤maxLen:=grownCap_le_maxLen w n 0 e h63
 unfold Oper.wp execOp
 simp only [ho,resolve,invoke,builtin,Sem.run_bind,Sem.run_pure,Result.andThen_ok,List.map_toArray,List.map_cons,List.map_nil,hs,hu,hr]
 refine hK _ _ (h _ _ ⟨w.heap.size,_,_,rfl,Nat.le_refl _,heap_alloc_new w.drew _,hge,hcm,?_⟩ ((Ext.refl w).drew.alloc _))
 rw [Array.size_append,size_zeroCells,size_zeroCells,hzk,← Nat.add_mul]
 congr 1
 omega
set_option maxHeartbeats 800000 in
theorem grow_Items {n : Nat} (hn : n≤2000) (w : World) : Calls Tryz.prog 76 #[.slice none 0 0,.int .i64 (n : Int)] w fun e w' => ∃ v,e = .returned v∧OwnI w' w.heap.size v []∧Ext w w':=by
 obtain ⟨ii,iz,hi,hz,hi3,hz3,hby⟩:=Item.infoE
 have hs0 : ∀ w,(Instr.slice 104 (.slice none 0 0) none (some (.int .i64 0)) none).run Tryz.prog w = .ok (.slice none 0 0) w:=slice_upto_Stack none [] 0 0 0 rfl (by decide)
 by_cases h0 : n=0
 ·subst h0
  go_enter Tryz.func76,Tryz.ntmps76
  go_wp2
  go_ret
  exact ⟨_,rfl,OwnI.nil _ _,Ext.refl _⟩
 ·have q0 : decide ((n : Int) < 0)=false:=decide_eq_false (by omega)
  have q1 : decide (0 < (n : Int))=true:=decide_eq_true (by omega)
  have q1' : decide (0 < n)=true:=decide_eq_true (by omega)
  have w1 : IntKind.i64.wrap (n : Int)=(n : Int):=IntWalk.i64_in _ (by omega)
  have hs1 : ∀ (g cap : Nat) (w : World),(Instr.slice 104 (.slice (some ⟨g,0,none⟩) n cap) none (some (.int .i64 0)) none).run Tryz.prog w = .ok (.slice (some ⟨g,0,none⟩) 0 cap) w:=fun g cap w=>run_slice_upto Tryz.underlying104 hi (some ⟨g,0,none⟩) n cap 0 0 rfl (Nat.zero_le _) w
  have hi:=Lib.hid hi;have hz:=Lib.hid hz;have hi3:=Lib.hid hi3;have hz3:=Lib.hid hz3;have hby:=Lib.hid hby;have h0:=Lib.hid h0;have hn:=Lib.hid hn
  go_enter Tryz.func76,Tryz.ntmps76
  go_wp2_with (at_builtin;refine Hid.out ?_)
  refine Hid.mk ?_
  refine wpList_append_zeros rfl _ _ 104 3 rfl rfl rfl Tryz.underlying104 Tryz.underlying3 hi.out hz.out hi3.out hz3.out (by have:=h0.out;omega) (by decide) (by have:=hn.out;simp [maxLen];omega) (by rw [hby.out];have:=hn.out;omega) ?_
  rintro v' w' ⟨g,cap,cur,rfl,hg,hh,hnc,hcm,hcs⟩ hE
  have hH:=Lib.hid (And.intro hg (And.intro hh (And.intro hcm (And.intro hcs hE))))
  have hnc' : n≤cap:=hnc
  clear hg hh hcm hcs hE
  go_wp2
  go_ret
  exact ⟨_,rfl,⟨rfl,.inr ⟨g,cap,cur,rfl,hH.out.1,hH.out.2.1,Nat.zero_le _,hH.out.2.2.1,hH.out.2.2.2.1,by simp⟩⟩,hH.out.2.2.2.2⟩
theorem flatten_take_succ {l : List (List Item)} {k : Nat} {x : List Item} (hx : l[k]? = some x) : (l.take (k+1)).flatten=(l.take k).flatten ++ x:=by
 rw [List.take_add_one,hx]
 simp
theorem flatten_len {l : List (List Item)} (hb : ∀ s ∈ l,s.length≤600) : ∀ k,((l.take k).flatten).length≤k * 600:=by
 intro k
 induction k with
 | zero=>simp
 | succ k ih =>
  cases hx : l[k]? with
  | none=>rw [List.take_of_length_le (by have:=List.getElem?_eq_none_iff.1 hx;omega)];rw [List.take_of_length_le (by have:=List.getElem?_eq_none_iff.1 hx;omega)] at ih;omega
  | some x=>rw [flatten_take_succ hx,List.length_append];have:=hb x (List.mem_of_getElem? hx);omega
set_option maxHeartbeats 1600000 in
theorem concat_Items {l : List (List Item)} {v : Value} {w : World} (hl : Sts w v l) (h2 : l.length≤2) (hb : ∀ s ∈ l,s.length≤600) : Calls Tryz.prog 48 #[v] w fun e w' => ∃ u,e = .returned u∧OwnI w' w.heap.size u l.flatten∧Ext w w':=by
 obtain ⟨ii,iz,hi,hz,hi3,hz3,hby⟩:=Item.infoE
 have hi:=Lib.hid hi;have hz:=Lib.hid hz;have hi3:=Lib.hid hi3;have hz3:=Lib.hid hz3;have hby:=Lib.hid hby
 obtain ⟨a,cp,rfl,hlc,hcm,-⟩:=hl.form
 unfold maxLen at hcm
 have hlen:=Lib.hid (flatten_len hb)
 have hb:=Lib.hid hb
 go_enter Tryz.func48,Tryz.ntmps48
 go_wp2
 go_loopw [3,11] (fun sv iv wr => ∃ k : Nat,k≤l.length∧iv = .int .i64 k∧sv = .int .i64 (((l.take k).flatten).length : Nat)∧w=wr) (fun _ iv _=>l.length - (intOf iv).toNat)
 case atStart=>exact ⟨0,Nat.zero_le _,rfl,rfl,rfl⟩
 case round =>
  obtain ⟨k,hk,rfl,rfl,rfl⟩:=hrel
  by_cases hlt : k < l.length
  ·have hlt' : decide (k < l.length)=true:=decide_eq_true hlt
   obtain ⟨x,hx⟩ : ∃ x,l[k]? = some x:=⟨l[k],by simp [hlt]⟩
   obtain ⟨b,off,s,rfl,hbb,hc,hs⟩:=hl.cell hx
   obtain ⟨as',cs',rfl,-⟩:=hs.form
   have hxl:=hb.out x (List.mem_of_getElem? hx)
   have hfl:=hlen.out k
   have hsum : (((l.take k).flatten).length : Int)+(x.length : Int)=(((l.take (k+1)).flatten).length : Nat):=by rw [flatten_take_succ hx,List.length_append];omega
   have hfl2:=hlen.out (k+1)
   have hw1 : IntKind.i64.wrap ((((l.take k).flatten).length : Int)+(x.length : Int))=(((l.take (k+1)).flatten).length : Nat):=by rw [hsum];exact IntWalk.i64_in _ (by omega)
   have hi0 : (0 : Int)≤(k : Int):=by omega
   have hi1 : (k : Int) < (l.length : Int):=by omega
   have hneg : decide ((((l.take (k+1)).flatten).length : Int) < 0)=false:=decide_eq_false (by omega)
   replace hsum:=Lib.hid hsum
   replace hx:=Lib.hid hx
   replace hs:=Lib.hid hs
   generalize hA1 : ((l.take k).flatten).length=A1 at *
   generalize hA2 : ((l.take (k+1)).flatten).length=A2 at *
   replace hA1:=Lib.hid hA1
   replace hA2:=Lib.hid hA2
   go_wp2
   go_roundw
   case rel=>exact ⟨k+1,by omega,by go_num,by rw [hA2.out],by first | rfl | trivial⟩
   case measure=>simp [intOf];omega
  ·have hke : k=l.length:=by omega
   subst hke
   have hlt' : decide (l.length < l.length)=false:=decide_eq_false (by omega)
   rw [List.take_length]
   have hfl:=hlen.out l.length
   rw [List.take_length] at hfl
   obtain ⟨N,hN⟩ : ∃ N,l.flatten.length=N:=⟨_,rfl⟩
   rw [hN] at hfl ⊢
   replace hN:=Lib.hid hN
   clear hlt hk
   go_wp2_with fail
   refine (grow_Items (n:=N) (by omega) _).mono ?_
   rintro e w1 ⟨u,rfl,hO,hE⟩
   obtain ⟨ua,uc,rfl,-⟩:=(OwnI.its hO).form
   have hO0 : OwnI w1 w.heap.size (.slice ua ([] : List Item).length uc) ((l.take 0).flatten):=hO
   go_wp2
   go_loopw [6,27] (fun sv iv wr => ∃ k n : Nat,k≤l.length∧iv = .int .i64 k∧Hid (((l.take k).flatten).length=n)∧(∃ a c,sv = .slice a n c)∧Hid (OwnI wr w.heap.size sv ((l.take k).flatten))∧Ext w wr) (fun _ iv _=>l.length - (intOf iv).toNat)
   case atStart=>exact ⟨0,0,Nat.zero_le _,rfl,Hid.mk rfl,⟨_,_,rfl⟩,Hid.mk hO0,hE⟩
   case round =>
    obtain ⟨k,n,hk,rfl,hn,⟨sa,sc,rfl⟩,hW,hX⟩:=hrel
    by_cases hlt : k < l.length
    ·have hlt' : decide (k < l.length)=true:=decide_eq_true hlt
     obtain ⟨x,hx⟩ : ∃ x,l[k]? = some x:=⟨l[k],by simp [hlt]⟩
     obtain ⟨b,off,s,rfl,hbb,hc,hs⟩:=(hl.ext hX).cell hx
     obtain ⟨as',cs',rfl,-⟩:=hs.form
     have hxl:=hb.out x (List.mem_of_getElem? hx)
     have hfl:=hlen.out k
     rw [hn.out] at hfl
     have hi0 : (0 : Int)≤(k : Int):=by omega
     have hi1 : (k : Int) < (l.length : Int):=by omega
     have hbd : Hid (n+x.length≤2000):=Hid.mk (by omega)
     have hWn : Hid (Own wr w.heap.size 89 3 (.slice sa n sc) n (((l.take k).flatten).flatMap Item.row)):=Hid.mk (by have h:=hW.out;unfold OwnI at h;rwa [hn.out] at h)
     have hH:=Lib.hid (And.intro hWn.out (And.intro hs (And.intro hX hx)))
     have hsz : Hid (w.heap.size≤wr.heap.size):=Hid.mk hX.size
     clear hs hX hx hxl hfl hWn hW
     go_wp2_with (at_builtin;refine Hid.out ?_)
     refine Hid.mk ?_
     refine wpList_append_any rfl _ _ 104 104 rfl rfl rfl Tryz.underlying104 Tryz.underlying104 hi.out hz.out hi3.out hz3.out hH.out.1 hH.out.2.1 ?_ (Nat.le_trans hbd.out (by simp [maxLen])) (by rw [hby.out];have:=hbd.out;omega) hsz.out ?_
     ·intro u hu
      obtain ⟨y,hy,hu⟩:=List.mem_flatMap.1 hu
      simp only [Item.row,List.mem_cons,List.not_mem_nil,or_false] at hu
      rcases hu with rfl | rfl | rfl <;> rfl
     intro v' w' hO' hK' _ _
     have hn' : Hid (((l.take (k+1)).flatten).length=n+x.length):=Hid.mk (by rw [flatten_take_succ hH.out.2.2.2,List.length_append,hn.out])
     have hN' : Hid (OwnI w' w.heap.size v' ((l.take (k+1)).flatten)):=Hid.mk (by
      unfold OwnI
      rw [hn'.out,flatten_take_succ hH.out.2.2.2,List.flatMap_append]
      exact hO')
     obtain ⟨a',c',rfl,-⟩:=(Own.sl hO').slice_form
     have hXn : Hid (Ext w w'):=Hid.mk (Below.trans hH.out.2.2.1 hK'.below)
     clear hO' hK'
     go_wp2
     go_roundw
     case rel=>exact ⟨k+1,_,by omega,by go_num,hn',⟨_,_,rfl⟩,hN',hXn.out⟩
     case measure=>simp [intOf];omega
    ·have hke : k=l.length:=by omega
     subst hke
     have hlt' : decide (l.length < l.length)=false:=decide_eq_false (by omega)
     have hW2 : Hid (OwnI wr w.heap.size (.slice sa n sc) l.flatten):=Hid.mk (by have h:=hW.out;rwa [List.take_length] at h)
     clear hlt hk hW hn
     go_wp2
     go_ret
     exact ⟨_,rfl,hW2.out,hX⟩
end Go.Proofs.YtoanoodfacmieaaGreatDoor
