/- Several texts in one: MonQ, RegInr, BoxR. -/
import Derived.Test.YtepdbdckjmkbhaaGreatDoorQ08
import Derived.Test.YtepdbdckjmkbhaaGreatDoorQ12
import Derived.Test.YtepdbdckjmkbhaaGreatDoorQ13
import Derived.Test.YtepdbdckjmkbhaaGreatDoorQ01
/- What the functions of layer 35 on a monitor's memory compute (Load, Store, Retag), and plain laws of it; no program in sight. -/
namespace Go.Proofs.YtepdbdckjmkbhaaGreatDoor
set_option maxRecDepth 100000
open Go.RowKit
def loadM (m : Mon) (p : Ptr) (n : Int) : Mon × List Cell × Int × Int :=
 if okMon m then
  if (loadR m.mem p n).2.2=0∧(loadR m.mem p n).2.1≠3 then
   match atNum m.mem.al p.a with
   | none=>(Mon.zero,[],3,0)
   | some i =>
    if (use33 (m.stks.getD i Stk.zero) p.o n p.t false m.run).2.1=0 then
     if (loadR m.mem p n).2.1=0 then (⟨m.mem,m.stks.set i (use33 (m.stks.getD i Stk.zero) p.o n p.t false m.run).1,m.run,m.tag,m.call⟩,(loadR m.mem p n).1,0,0)
     else (Mon.zero,[],(loadR m.mem p n).2.1,0)
    else (Mon.zero,[],(use33 (m.stks.getD i Stk.zero) p.o n p.t false m.run).2.1,0)
  else (Mon.zero,[],(loadR m.mem p n).2.1,(loadR m.mem p n).2.2)
 else (Mon.zero,[],0,8)
def storeM (m : Mon) (p : Ptr) (l : List Cell) : Mon × Int × Int :=
 if okMon m then
  if (storeR m.mem p l).2.2=0∧(storeR m.mem p l).2.1=0 then
   match atNum m.mem.al p.a with
   | none=>(Mon.zero,3,0)
   | some i =>
    if (use33 (m.stks.getD i Stk.zero) p.o l.length p.t true m.run).2.1=0 then (⟨(storeR m.mem p l).1,m.stks.set i (use33 (m.stks.getD i Stk.zero) p.o l.length p.t true m.run).1,m.run,m.tag,m.call⟩,0,0)
    else (Mon.zero,(use33 (m.stks.getD i Stk.zero) p.o l.length p.t true m.run).2.1,0)
  else (Mon.zero,(storeR m.mem p l).2.1,(storeR m.mem p l).2.2)
 else (Mon.zero,0,8)
def retagM (m : Mon) (p : Ptr) (n kind call : Int) : Mon × Ptr × Int × Int :=
 if okMon m then
  if kindOk kind=true∧(call=0∨hasR m.run call=true) then
   if (loadR m.mem p n).2.2=0 then
    if m.tag=1000000 then (Mon.zero,Ptr.zero,0,18)
    else if (loadR m.mem p n).2.1=3 then (Mon.zero,Ptr.zero,3,0)
    else match atNum m.mem.al p.a with
     | none=>(Mon.zero,Ptr.zero,3,0)
     | some i =>
      if (tag33 (m.stks.getD i Stk.zero) p.o n kind p.t ⟨0,m.tag,call⟩ m.run).2.2=0∧(tag33 (m.stks.getD i Stk.zero) p.o n kind p.t ⟨0,m.tag,call⟩ m.run).2.1=0 then
       (⟨m.mem,m.stks.set i (tag33 (m.stks.getD i Stk.zero) p.o n kind p.t ⟨0,m.tag,call⟩ m.run).1,m.run,m.tag+1,m.call⟩,⟨p.a,p.o,m.tag⟩,0,0)
      else (Mon.zero,Ptr.zero,(tag33 (m.stks.getD i Stk.zero) p.o n kind p.t ⟨0,m.tag,call⟩ m.run).2.1,(tag33 (m.stks.getD i Stk.zero) p.o n kind p.t ⟨0,m.tag,call⟩ m.run).2.2)
   else (Mon.zero,Ptr.zero,0,(loadR m.mem p n).2.2)
  else (Mon.zero,Ptr.zero,0,2)
 else (Mon.zero,Ptr.zero,0,8)
def whereM (m : Mem) (p : Ptr) (n : Int) : Int × Int × Int :=
 if (askR m p n).2=0 then match (askR m p n).1 with
  | none=>(-1,3,0)
  | some i=>if (m.al.getD i Alloc.zero).live then ((i : Int),0,0) else (-1,3,0)
 else (-1,0,(askR m p n).2)
theorem whereM_some {m : Mem} {p : Ptr} {n : Int} {i : Nat} {a : Alloc} (h : askR m p n=(some i,0)) (ha : m.al[i]? = some a) : whereM m p n=if a.live then ((i : Int),0,0) else (-1,3,0):=by
 have hg : m.al.getD i Alloc.zero=a:=by rw [List.getD_eq_getElem?_getD,ha];rfl
 rw [whereM,h]
 dsimp only
 rw [if_pos rfl,hg]
theorem whereM_none {m : Mem} {p : Ptr} {n : Int} (h : askR m p n=(none,0)) : whereM m p n=(-1,3,0):=by rw [whereM,h];rfl
theorem whereM_err {m : Mem} {p : Ptr} {n : Int} (h : (askR m p n).2≠0) : whereM m p n=(-1,0,(askR m p n).2):=by rw [whereM,if_neg h]
theorem load_ways {m : Mem} {p : Ptr} {n un er : Int} {l : List Cell} (h : loadR m p n=(l,un,er)) : (er≠0∧un=0∧whereM m p n=(-1,0,er))∨(er=0∧un=3∧whereM m p n=(-1,3,0)) ∨
  (er=0∧(un=0∨un=4) ∧ ∃ i a,atNum m.al p.a=some i∧m.al[i]? = some a∧a.live=true∧whereM m p n=((i : Int),0,0)∧askR m p n=(some i,0)):=by
 obtain ⟨ix,e,hask⟩ : ∃ ix e,askR m p n=(ix,e):=⟨_,_,rfl⟩
 by_cases he : e=0
 ·subst he
  have h2 : (askR m p n).2=0:=by rw [hask]
  cases ix with
  | none =>
   rw [loadR_gone h2 (rangeR_none hask)] at h
   cases h
   exact .inr (.inl ⟨rfl,rfl,whereM_none hask⟩)
  | some i =>
   obtain ⟨-,-,-,-,hn1,-,hat,x,hx,ho0,ho⟩:=askR_inv hask
   cases hv : x.live
   ·rw [loadR_gone h2 (rangeR_dead hask hx hv)] at h
    cases h
    exact .inr (.inl ⟨rfl,rfl,by rw [whereM_some hask hx,hv];rfl⟩)
   ·have hne : rangeR m p n≠[]:=by
     rw [rangeR_live hask hx hv]
     intro e
     have:=cutOf_len (x:=x) (o:=p.o.toNat) (n:=n.toNat) (by omega)
     rw [e] at this
     simp at this
     omega
    refine .inr (.inr ?_)
    have hw : whereM m p n=((i : Int),0,0):=by rw [whereM_some hask hx,hv];rfl
    by_cases hz : (rangeR m p n).any (· == Cell.zero)=true
    ·rw [loadR_unset h2 hne hz] at h
     cases h
     exact ⟨rfl,.inr rfl,i,x,hat,hx,hv,hw,hask⟩
    ·rw [loadR_yes h2 hne (Bool.eq_false_iff.2 hz)] at h
     cases h
     exact ⟨rfl,.inl rfl,i,x,hat,hx,hv,hw,hask⟩
 ·have h2 : (askR m p n).2=e:=by rw [hask]
  rw [loadR_err h2 he] at h
  cases h
  refine .inl ⟨he,rfl,?_⟩
  rw [whereM_err (by rw [h2];exact he),h2]
theorem store_ways {m x : Mem} {p : Ptr} {l : List Cell} (h : storeR m p l=(x,0,0)) : ∃ i a,atNum m.al p.a=some i∧m.al[i]? = some a∧a.live=true∧whereM m p l.length=((i : Int),0,0)∧askR m p l.length=(some i,0)∧l.all Cell.ok=true∧x=⟨m.al.set i (putCells a p.o.toNat l),m.next⟩:=by
 rcases storeR_cases m p l with ⟨e,h1,h2⟩ | ⟨h1,-⟩ | ⟨i,a,h1,h2,h3,h4,h5⟩
 ·rw [h1] at h;simp only [Prod.mk.injEq] at h;exact absurd h.2.2 h2
 ·rw [h1] at h;simp at h
 ·rw [h5] at h
  simp only [Prod.mk.injEq,and_true] at h
  exact ⟨i,a,(askR_inv h1).2.2.2.2.2.2.1,h2,h3,by rw [whereM_some h1 h2,h3];rfl,h1,h4,h.symm⟩
theorem loadM_bad {m : Mon} {p : Ptr} {n : Int} (h : okMon m=false) : loadM m p n=(Mon.zero,[],0,8):=by simp [loadM,h]
theorem loadM_err {m : Mon} {p : Ptr} {n un er : Int} {l : List Cell} (h : okMon m=true) (hl : loadR m.mem p n=(l,un,er)) (he : er≠0∨un=3) : loadM m p n=(Mon.zero,[],un,er):=by
 rw [loadM,if_pos h,hl]
 dsimp only
 rw [if_neg (by omega)]
theorem loadM_live {m : Mon} {p : Ptr} {n un why e4 : Int} {l : List Cell} {i : Nat} {st x : Stk} (h : okMon m=true) (hl : loadR m.mem p n=(l,un,0)) (hu : un≠3) (hat : atNum m.mem.al p.a=some i) (hst : m.stks[i]? = some st) (hd : use33 st p.o n p.t false m.run=(x,why,e4)) :
  loadM m p n=if why=0 then if un=0 then (⟨m.mem,m.stks.set i x,m.run,m.tag,m.call⟩,l,0,0) else (Mon.zero,[],un,0) else (Mon.zero,[],why,0):=by
 have hk : m.stks.getD i Stk.zero=st:=by rw [List.getD_eq_getElem?_getD,hst];rfl
 rw [loadM,if_pos h,hl]
 dsimp only
 rw [if_pos ⟨rfl,hu⟩,hat]
 dsimp only
 rw [hk,hd]
theorem storeM_bad {m : Mon} {p : Ptr} {l : List Cell} (h : okMon m=false) : storeM m p l=(Mon.zero,0,8):=by simp [storeM,h]
theorem storeM_err {m : Mon} {p : Ptr} {un er : Int} {l : List Cell} {x : Mem} (h : okMon m=true) (hl : storeR m.mem p l=(x,un,er)) (he : er≠0∨un≠0) : storeM m p l=(Mon.zero,un,er):=by
 rw [storeM,if_pos h,hl]
 dsimp only
 rw [if_neg (by omega)]
theorem storeM_live {m : Mon} {p : Ptr} {why e4 : Int} {l : List Cell} {y : Mem} {i : Nat} {st x : Stk} (h : okMon m=true) (hl : storeR m.mem p l=(y,0,0)) (hat : atNum m.mem.al p.a=some i) (hst : m.stks[i]? = some st) (hd : use33 st p.o l.length p.t true m.run=(x,why,e4)) :
  storeM m p l=if why=0 then (⟨y,m.stks.set i x,m.run,m.tag,m.call⟩,0,0) else (Mon.zero,why,0):=by
 have hk : m.stks.getD i Stk.zero=st:=by rw [List.getD_eq_getElem?_getD,hst];rfl
 rw [storeM,if_pos h,hl]
 dsimp only
 rw [if_pos ⟨rfl,rfl⟩,hat]
 dsimp only
 rw [hk,hd]
theorem retagM_bad {m : Mon} {p : Ptr} {n kind call : Int} (h : okMon m=false) : retagM m p n kind call=(Mon.zero,Ptr.zero,0,8):=by simp [retagM,h]
theorem retagM_arg {m : Mon} {p : Ptr} {n kind call : Int} (h : okMon m=true) (hk : ¬ (kindOk kind=true∧(call=0∨hasR m.run call=true))) : retagM m p n kind call=(Mon.zero,Ptr.zero,0,2):=by rw [retagM,if_pos h,if_neg hk]
theorem retagM_err {m : Mon} {p : Ptr} {n kind call un er : Int} {l : List Cell} (h : okMon m=true) (hk : kindOk kind=true∧(call=0∨hasR m.run call=true)) (hl : loadR m.mem p n=(l,un,er)) (he : er≠0) : retagM m p n kind call=(Mon.zero,Ptr.zero,0,er):=by
 rw [retagM,if_pos h,if_pos hk,hl]
 dsimp only
 rw [if_neg he]
theorem retagM_full {m : Mon} {p : Ptr} {n kind call un : Int} {l : List Cell} (h : okMon m=true) (hk : kindOk kind=true∧(call=0∨hasR m.run call=true)) (hl : loadR m.mem p n=(l,un,0)) (ht : m.tag=1000000) : retagM m p n kind call=(Mon.zero,Ptr.zero,0,18):=by
 rw [retagM,if_pos h,if_pos hk,hl]
 dsimp only
 rw [if_pos rfl,if_pos ht]
theorem retagM_gone {m : Mon} {p : Ptr} {n kind call : Int} {l : List Cell} (h : okMon m=true) (hk : kindOk kind=true∧(call=0∨hasR m.run call=true)) (hl : loadR m.mem p n=(l,3,0)) (ht : m.tag≠1000000) : retagM m p n kind call=(Mon.zero,Ptr.zero,3,0):=by
 rw [retagM,if_pos h,if_pos hk,hl]
 dsimp only
 rw [if_pos rfl,if_neg ht,if_pos rfl]
theorem retagM_live {m : Mon} {p : Ptr} {n kind call un why e4 : Int} {l : List Cell} {i : Nat} {st x : Stk} (h : okMon m=true) (hk : kindOk kind=true∧(call=0∨hasR m.run call=true)) (hl : loadR m.mem p n=(l,un,0)) (ht : m.tag≠1000000) (hu : un≠3) (hat : atNum m.mem.al p.a=some i) (hst : m.stks[i]? = some st)
  (hd : tag33 st p.o n kind p.t ⟨0,m.tag,call⟩ m.run=(x,why,e4)) :
  retagM m p n kind call=if e4=0∧why=0 then (⟨m.mem,m.stks.set i x,m.run,m.tag+1,m.call⟩,⟨p.a,p.o,m.tag⟩,0,0) else (Mon.zero,Ptr.zero,why,e4):=by
 have hs : m.stks.getD i Stk.zero=st:=by rw [List.getD_eq_getElem?_getD,hst];rfl
 rw [retagM,if_pos h,if_pos hk,hl]
 dsimp only
 rw [if_pos rfl,if_neg ht,if_neg hu,hat]
 dsimp only
 rw [hs,hd]
theorem trows_set2 {vs : List Value} {l : List Stk} {i : Nat} {s' : Value} {y : Stk} (hv : vs.length=l.length) (hi : i < l.length) : ((trows krow vs l).set (i * 2) (.int .i64 y.num)).set (i * 2+1) s'=trows krow (vs.set i s') (l.set i y):=by
 unfold trows
 induction l generalizing vs i with
 | nil=>simp at hi
 | cons a l ih =>
  cases vs with
  | nil=>simp at hv
  | cons v vs =>
   cases i with
   | zero=>simp [krow]
   | succ i =>
    have e : (i+1) * 2=i * 2+1+1:=by omega
    have h:=ih (vs:=vs) (i:=i) (by simpa using hv) (by simpa using hi)
    simp only [List.set_cons_succ,List.zip_cons_cons,List.flatMap_cons,krow,List.cons_append,List.nil_append,e] at h ⊢
    rw [h]
theorem OwnK.setS {S T : Nat→Prop} {wT w' : World} {N g cap : Nat} {s' : Value} {vs : List Value} {l : List Stk} {i : Nat} {y : Stk} (h : OwnK wT N (.slice (some ⟨g,0,none⟩) l.length cap) vs l) (hi : i < l.length) (hX : ExtBut T wT w') (hT : ∀ b,N≤b→b≠g→b < wT.heap.size → ¬ T b∧S b) (hg : S g)
  (hO : Own w' N 33 2 (.slice (some ⟨g,0,none⟩) l.length cap) l.length (((trows krow vs l).set (i * 2) (.int .i64 y.num)).set (i * 2+1) s')) (hR : Fq S w' (fun w=>Sts w s' y.cells)) :
  Fq S w' (fun w=>Kts w (.slice (some ⟨g,0,none⟩) l.length cap) (l.set i y)):=by
 rw [trows_set2 h.len hi] at hO
 intro w'' hw
 refine ⟨vs.set i s',All2.iff.2 ⟨by simp [h.len],fun j u z hu hz => ?_⟩,?_⟩
 ·by_cases e : j=i
  ·subst e
   rw [List.getElem?_set_self (by rw [h.len];exact hi)] at hu
   rw [List.getElem?_set_self hi] at hz
   cases hu;cases hz
   exact hR w'' hw
  ·rw [List.getElem?_set_ne (fun e'=>e e'.symm)] at hu hz
   exact ((h.inner j u z hu hz).to (S':=S) hX (fun b h1 hl=>(hT b h1.1 (fun e=>h1.2 (by rw [e];rfl)) hl).1) (fun b h1 hl=>(hT b h1.1 (fun e=>h1.2 (by rw [e];rfl)) hl).2)) w'' hw
 ·rw [List.length_set]
  exact hO.fs w'' fun b e hl=>hw b (by have e' : some g=some b:=e;cases e';exact hg) hl
end Go.Proofs.YtepdbdckjmkbhaaGreatDoor

/- A region that draws its order, by what each operation leaves, under a relation of one's own between worlds (stores into fresh boxes too). -/
namespace Go.Proofs.YtepdbdckjmkbhaaGreatDoor
set_option maxRecDepth 100000
open Go
section
variable {P : Program} {ops : Array Oper} {Q : Exit→Act→World→Prop} {md : Region.Mode} {R : World→World→Prop}
structure PrR (R : World→World→Prop) where
 p : Value→World→Prop
 m : ∀ v w w',p v w→R w w'→p v w'
def PrR.eq (R : World→World→Prop) (u : Value) : PrR R:=⟨fun v _=>v=u,fun _ _ _ h _=>h⟩
def PrR.any (R : World→World→Prop) : PrR R:=⟨fun _ _=>True,fun _ _ _ h _=>h⟩
def prR (L : List (PrR R)) (i : Nat) (v : Value) (w : World) : Prop:=match L[i]? with
 | some q=>q.p v w
 | none=>True
theorem prR_ext {L : List (PrR R)} {i : Nat} {v : Value} {w w' : World} (h : prR L i v w) (he : R w w') : prR L i v w':=by
 unfold prR at *
 cases hq : L[i]? with
 | none=>trivial
 | some q=>rw [hq] at h;exact q.m _ _ _ h he
def addrV (o : Oper) (a : Act) : Value:=match o.op with
 | .store _ (.tmp t) _=>a.eval (.tmp t)
 | _=>undef
def slotV (ops : Array Oper) (a : Act) (i : Nat) : Value:=match ops[i]? with
 | some o=>(match o.dst with
  | some d=>a.eval (.tmp d)
  | none=>addrV o a)
 | none=>undef
theorem fm_inj : ∀ (l : List Oper),(l.filterMap (·.dst)).Nodup → ∀ (i j : Nat) (o u : Oper) (d : Nat),l[i]? = some o→l[j]? = some u→o.dst=some d→u.dst=some d→i=j
 | [],_,i,j,o,u,d,hi,_,_,_=>by simp at hi
 | x :: l,hn,i,j,o,u,d,hi,hj,ho,hu=>by
  have htl : (l.filterMap (·.dst)).Nodup:=by
   cases hx : x.dst with
   | none=>rwa [List.filterMap_cons_none hx] at hn
   | some e=>rw [List.filterMap_cons_some hx] at hn;exact (List.nodup_cons.1 hn).2
  cases i with
  | zero =>
   cases j with
   | zero=>rfl
   | succ j =>
    exfalso
    simp at hi;subst hi
    rw [List.filterMap_cons_some ho] at hn
    exact (List.nodup_cons.1 hn).1 (List.mem_filterMap.2 ⟨u,List.mem_of_getElem? (by simpa using hj),hu⟩)
  | succ i =>
   cases j with
   | zero =>
    exfalso
    simp at hj;subst hj
    rw [List.filterMap_cons_some hu] at hn
    exact (List.nodup_cons.1 hn).1 (List.mem_filterMap.2 ⟨o,List.mem_of_getElem? (by simpa using hi),ho⟩)
   | succ j=>exact congrArg (· + 1) (fm_inj l htl i j o u d (by simpa using hi) (by simpa using hj) ho hu)
theorem putAll_fm (vals : Nat→Value) {t : Nat} : ∀ (l : List Oper) (k : Nat) (a : Act) (i : Nat) (o : Oper),(l.filterMap (·.dst)).Nodup→l[i]? = some o→o.dst=some t→t < a.tmps.size→(putAll vals l k a).tmps[t]? = some (vals (k+i))
 | [],_,_,_,_,_,h,_,_=>by simp at h
 | x :: l,k,a,0,o,hn,ho,hd,ht=>by
  simp at ho;subst ho
  rw [List.filterMap_cons_some hd] at hn
  rw [putAll,putAll_ne vals l _ _ (fun y hy e=>(List.nodup_cons.1 hn).1 (List.mem_filterMap.2 ⟨y,hy,e⟩)),hd,put_eq _ _ ht]
  rfl
 | x :: l,k,a,i+1,o,hn,ho,hd,ht=>by
  have htl : (l.filterMap (·.dst)).Nodup:=by
   cases hx : x.dst with
   | none=>rwa [List.filterMap_cons_none hx] at hn
   | some e=>rw [List.filterMap_cons_some hx] at hn;exact (List.nodup_cons.1 hn).2
  rw [putAll,putAll_fm vals l (k+1) _ i o htl (by simpa using ho) hd (by rw [put_size];exact ht),show k+1+i=k+(i+1) by omega]
def pv (o : Oper) (a : Act) (v : Value) : Value:=match o.dst with
 | some _=>v
 | none=>addrV o a
def RR (ops : Array Oper) (R : World→World→Prop) (L : List (PrR R)) (a0 : Act) (w0 : World) (listed : Array Bool) (a : Act) (w : World) : Prop :=
 listed.size=ops.size∧a.defers=a0.defers∧a.tmps.size=a0.tmps.size∧(∀ t,(∀ o ∈ ops.toList,o.dst≠some t)→a.tmps[t]? = a0.tmps[t]?)∧(∀ i,listed.getD i false=true→prR L i (slotV ops a i) w)∧R w0 w∧(∀ (i : Nat) (o : Oper),ops[i]? = some o→listed.getD i false=true → ∀ e ∈ o.after,Region.binds .any e=true→listed.getD e.on false=true)
def regOR (md : Region.Mode) (ops : Array Oper) (n : Nat) : Bool :=
 (ops.toList.all fun o=>match o.dst with | some d=>decide (d < n) | none=>true) && decide ((ops.toList.filterMap (·.dst)).Nodup)
 && ((List.range ops.size).all fun i=>((ops[i]?).map fun o=>o.after.all fun e => !Region.binds md e || decide (e.on < i)).getD true)
 && (ops.toList.all fun o=>match o.op with
  | .store _ (.tmp t) _=>(List.range ops.size).all fun k=>(((ops[k]?).map fun u=>u.dst != some t).getD true) || (o.after.any fun e=>Region.binds md e && e.on == k)
  | _=>true)
def StepR (P : Program) (md : Region.Mode) (ops : Array Oper) (Q : Exit→Act→World→Prop) (R : World→World→Prop) (L : List (PrR R)) (a0 : Act) (w0 : World) (i : Nat) (o : Oper) : Prop :=
 ∀ (a : Act) (w : World),R w0 w→(∀ j,(o.after.any fun e=>Region.binds md e && e.on == j)=true→prR L j (slotV ops a j) w) →
  (∀ t,ops.toList.all (fun o=>o.dst != some t)=true→a.eval (.tmp t)=a0.eval (.tmp t)) →
  (Region.wanted o (yielded ops a.tmps)=true ∧ ∀ K : Act→World→Prop,(∀ v w',prR L i (pv o a v) w'→R w w'→K (a.put o.dst v) w')→o.wp P a w K Q)∨(Region.wanted o (yielded ops a.tmps)=false∧prR L i (pv o a undef) w)
theorem wp_region_rel {id : Nat} {a0 : Act} {w0 : World} (hr : ∀ w,R w w) (ht : ∀ a b c,R a b→R b c→R a c) (L : List (PrR R)) (hm : P.follows .mixedOrders=true) (hok : regOR .any ops a0.tmps.size=true)
  (hs : AllSteps (StepR P .any ops Q R L a0 w0.drew) ops.toList 0)
  (he : ∀ (vals : Nat→Value) (A : Act) (w : World),A=putAll vals ops.toList 0 a0→R w0.drew w→(∀ i,i < ops.size→prR L i (vals i) w)→(∀ i,vals i=slotV ops A i)→Q .normal A w) :
  (Code.region id ops true).wp P Q a0 w0:=by
 unfold regOR at hok
 simp only [Bool.and_eq_true,decide_eq_true_eq] at hok
 obtain ⟨⟨⟨h1,h2⟩,h3⟩,h4⟩:=hok
 have hdst : ∀ (i : Nat) (o : Oper) (d : Nat),ops[i]? = some o→o.dst=some d→d < a0.tmps.size:=by
  intro i o d ho hd
  have hm' : o ∈ ops.toList:=by rw [Array.mem_toList_iff];exact Array.mem_of_getElem? ho
  have:=List.all_eq_true.1 h1 o hm'
  rw [hd] at this
  simpa using this
 have hafter : ∀ (i : Nat) (o : Oper),ops[i]? = some o → ∀ e ∈ o.after,Region.binds .any e=true→e.on < i:=by
  intro i o ho e hea hb
  have hi:=(Array.getElem?_eq_some_iff.1 ho).1
  have:=List.all_eq_true.1 h3 i (List.mem_range.2 hi)
  rw [ho] at this
  simp only [Option.map_some,Option.getD_some,Array.all_eq_true_iff_forall_mem] at this
  have:=this e hea
  simpa [hb] using this
 have hinj : ∀ (i j : Nat) (o u : Oper) (d : Nat),ops[i]? = some o→ops[j]? = some u→o.dst=some d→u.dst=some d→i=j:=fun i j o u d hi hj ho hu =>
  fm_inj ops.toList h2 i j o u d (by rw [Array.getElem?_toList];exact hi) (by rw [Array.getElem?_toList];exact hj) ho hu
 refine wp_region_any hm (wpAny_inv (I:=RR ops R L a0 w0.drew) ?_ ?_ _ _ _ _ (by unfold unl;refine Nat.le_trans (List.length_filter_le _ _) (by simp)) ?_)
 ·intro listed a w i ⟨r1,r2,r3,r4,r5,r6,r7⟩ hi
  obtain ⟨g1,o,ho,g2⟩:=mem_ready.1 hi
  have hst:=AllSteps.get (i:=i) hs (by rw [Array.getElem?_toList];exact ho)
  rw [Nat.zero_add] at hst
  have hput : ∀ v w',prR L i (pv o a v) w'→R w w'→RR ops R L a0 w0.drew (listed.setIfInBounds i true) (a.put o.dst v) w':=by
   intro v w' hv hE
   refine ⟨by simpa using r1,by rw [put_def];exact r2,by rw [put_size];exact r3,fun t ht => ?_,fun j hj => ?_,ht _ _ _ r6 hE,fun j u hu hj e he1 he2 => ?_⟩
   ·rw [put_ne _ _ (ht o (by rw [Array.mem_toList_iff];exact Array.mem_of_getElem? ho))]
    exact r4 t ht
   ·by_cases e : j=i
    ·subst e
     unfold slotV
     unfold pv at hv
     rw [ho]
     cases hd : o.dst with
     | none=>rw [hd] at hv;simp only [hd];exact hv
     | some d =>
      rw [hd] at hv
      simp only [hd]
      show prR L j ((a.put (some d) v).eval (.tmp d)) w'
      rw [eval_tmp,put_eq _ _ (by rw [r3];exact hdst j o d ho hd)]
      exact hv
    ·rw [getD_set_ne false (fun e'=>e e'.symm)] at hj
     have h5:=prR_ext (r5 j hj) hE
     have : slotV ops (a.put o.dst v) j=slotV ops a j:=by
      unfold slotV
      cases hu : ops[j]? with
      | none=>rfl
      | some u =>
       cases hd' : u.dst with
       | none =>
        simp only [hd']
        unfold addrV
        split
        ·rename_i t x hop
         have hne : o.dst≠some t:=by
          intro ho2
          have hmu : u ∈ ops.toList:=by rw [Array.mem_toList_iff];exact Array.mem_of_getElem? hu
          have h6:=List.all_eq_true.1 h4 u hmu
          rw [hop] at h6
          have h7:=List.all_eq_true.1 h6 i (List.mem_range.2 (Array.getElem?_eq_some_iff.1 ho).1)
          rw [ho] at h7
          simp only [Option.map_some,Option.getD_some,Bool.or_eq_true,bne_iff_ne,ne_eq,ho2,not_true_eq_false,false_or] at h7
          obtain ⟨e3,he3,he4⟩:=Array.any_eq_true'.1 h7
          simp only [Bool.and_eq_true,beq_iff_eq] at he4
          have h8:=r7 j u hu hj e3 he3 he4.1
          rw [he4.2] at h8
          have hsz : i < listed.size:=by rw [r1];exact (Array.getElem?_eq_some_iff.1 ho).1
          simp [hsz] at h8 g1
          rw [g1] at h8
          cases h8
         show (a.put o.dst v).eval (.tmp t)=a.eval (.tmp t)
         rw [eval_tmp,eval_tmp,put_ne _ _ hne]
        ·rfl
       | some d' =>
        simp only [hd']
        show (a.put o.dst v).eval (.tmp d')=a.eval (.tmp d')
        rw [eval_tmp,eval_tmp,put_ne _ _ (fun e'=>e (hinj j i u o d' hu ho hd' e'))]
     rw [this]
     exact h5
   ·have hsz : i < listed.size:=by rw [r1];exact (Array.getElem?_eq_some_iff.1 ho).1
    have key : listed.getD e.on false=true:=by
     by_cases e' : j=i
     ·subst e'
      rw [ho] at hu
      cases hu
      exact g2 e he1 he2
     ·rw [getD_set_ne false (fun h=>e' h.symm)] at hj
      exact r7 j u hu hj e he1 he2
    by_cases e2 : e.on=i
    ·rw [e2];simp [hsz]
    ·rw [getD_set_ne false (fun h=>e2 h.symm)]
     exact key
  have hdep:=hst a w r6 (fun j hj=>by
   obtain ⟨e,he1,he2⟩:=Array.any_eq_true'.1 hj
   simp only [Bool.and_eq_true,beq_iff_eq] at he2
   have:=g2 e he1 he2.1
   rw [he2.2] at this
   exact r5 j this) (fun t ht=>by
   have:=r4 t (fun o ho'=>by simpa using List.all_eq_true.1 ht o ho')
   rw [eval_tmp,eval_tmp,this])
  unfold wpOp
  simp only [ho]
  rcases hdep with ⟨hw,h⟩ | ⟨hw,h⟩
  ·rw [if_pos hw]
   exact .inl (h _ hput)
  ·rw [if_neg (by rw [hw];simp)]
   exact hput _ _ h (hr _)
 ·intro listed a w ⟨r1,r2,r3,r4,r5,r6,_r7⟩ hrd
  have hall : ∀ n i,i < n→i < ops.size→listed.getD i false=true:=by
   intro n
   induction n with
   | zero=>intro i h;omega
   | succ n ih =>
    intro i hi his
    cases hli : listed.getD i true
    ·exfalso
     obtain ⟨o,ho⟩ : ∃ o,ops[i]? = some o:=⟨ops[i],by simp [his]⟩
     have : i ∈ Region.ready .any ops listed:=mem_ready.2 ⟨hli,o,ho,fun e he1 he2=>by
      have:=hafter i o ho e he1 he2
      exact ih _ (by omega) (by omega)⟩
     rw [hrd] at this
     cases this
    ·have hsz : i < listed.size:=by rw [r1];exact his
     simpa [hsz] using hli
  have : putAll (fun i=>slotV ops a i) ops.toList 0 a0=a:=by
   have e1 : (putAll (fun i=>slotV ops a i) ops.toList 0 a0).tmps=a.tmps:=by
    apply Array.ext_getElem?
    intro t
    by_cases hx : ∃ o ∈ ops.toList,o.dst=some t
    ·obtain ⟨o,hom,hd⟩:=hx
     obtain ⟨i,hi⟩:=List.mem_iff_getElem?.1 hom
     have ho : ops[i]? = some o:=by rw [← Array.getElem?_toList];exact hi
     have hdn:=hdst i o t ho hd
     rw [putAll_fm _ ops.toList 0 a0 i o h2 hi hd hdn,Nat.zero_add]
     unfold slotV
     rw [ho]
     simp only [hd]
     show some (a.eval (.tmp t))=_
     rw [eval_tmp,Array.getElem?_eq_getElem (by rw [r3];exact hdn)]
     rfl
    ·have hx' : ∀ o ∈ ops.toList,o.dst≠some t:=fun o h1 h2=>hx ⟨o,h1,h2⟩
     rw [putAll_ne _ _ _ _ hx',r4 t hx']
   have e2:=putAll_def (fun i=>slotV ops a i) ops.toList 0 a0
   rw [← r2] at e2
   cases a
   cases hp : putAll (fun i=>_) ops.toList 0 a0
   simp_all
  exact he (fun i=>slotV ops a i) a w this.symm r6 (fun i hi=>r5 i (hall _ i (Nat.lt_succ_self i) hi)) (fun i=>rfl)
 ·refine ⟨by simp,rfl,rfl,fun _ _=>rfl,fun i hi => ?_,hr _,fun i o _ hi => ?_⟩ <;> (exfalso;by_cases h : i < ops.size <;> simp [h] at hi)
end
end Go.Proofs.YtepdbdckjmkbhaaGreatDoor

/- Worlds that differ in new blocks and in the contents of fresh variables of one type. -/
namespace Go.Proofs.YtepdbdckjmkbhaaGreatDoor
set_option maxRecDepth 100000
open Go.RowKit
def BoxT (T : TypeId) (n : Nat) (w : World) (b : Nat) : Prop := ∃ vs : Array Value,vs.size=n∧Box w b T vs
structure BxR (N : Nat) (T : TypeId) (n : Nat) (w w' : World) : Prop where
 os : w'.os=w.os
 tape : w'.tape=w.tape
 output : w'.output=w.output
 size : w.heap.size≤w'.heap.size
 block : ∀ b,b < w.heap.size→w'.heap[b]? = w.heap[b]? ∨ (N≤b∧BoxT T n w b∧BoxT T n w' b)
section
variable {N n : Nat} {T : TypeId} {w w' w'' : World}
theorem BxR.refl (w : World) : BxR N T n w w:=⟨rfl,rfl,rfl,Nat.le_refl _,fun _ _ => .inl rfl⟩
theorem BoxT.lt {b : Nat} (h : BoxT T n w b) : b < w.heap.size:=by
 obtain ⟨vs,-,h⟩:=h
 exact h.lt
theorem BxR.boxT {b : Nat} (h : BxR N T n w w') (hb : BoxT T n w b) : BoxT T n w' b:=by
 rcases h.block b hb.lt with h1 | ⟨-,-,h1⟩
 ·obtain ⟨vs,h2,h3⟩:=hb
  exact ⟨vs,h2,h1.trans h3⟩
 ·exact h1
theorem BxR.trans (h : BxR N T n w w') (k : BxR N T n w' w'') : BxR N T n w w'':=by
 refine ⟨k.os.trans h.os,k.tape.trans h.tape,k.output.trans h.output,Nat.le_trans h.size k.size,fun b hb => ?_⟩
 rcases k.block b (Nat.lt_of_lt_of_le hb h.size) with k1 | ⟨k1,k2,k3⟩
 ·rcases h.block b hb with h1 | ⟨h1,h2,h3⟩
  ·exact .inl (k1.trans h1)
  ·refine .inr ⟨h1,h2,?_⟩
   obtain ⟨vs,e1,e2⟩:=h3
   exact ⟨vs,e1,k1.trans e2⟩
 ·rcases h.block b hb with h1 | ⟨h1,h2,h3⟩
  ·refine .inr ⟨k1,?_,k3⟩
   obtain ⟨vs,e1,e2⟩:=k2
   exact ⟨vs,e1,h1.symm.trans e2⟩
  ·exact .inr ⟨h1,h2,k3⟩
theorem BxR.of_ext (h : Ext w w') : BxR N T n w w':=⟨h.os,h.tape,h.output,h.size,fun _ hb => .inl (h.blk hb)⟩
theorem BxR.to_ext (h : BxR N T n w w') (hN : w.heap.size≤N) : Ext w w':=⟨h.os,h.tape,h.output,h.size,fun b hb=>by rcases h.block b hb with h1 | ⟨h1,-,-⟩;exact h1;omega⟩
theorem BxR.set {b : Nat} (hb : BoxT T n w b) (hN : N≤b) (j : Nat) (u : Value) : BxR N T n w (w.setCell ⟨b,j,none⟩ u):=by
 have hE:=ExtBut.setCell w ⟨b,j,none⟩ u
 refine ⟨hE.os,hE.tape,hE.output,hE.size,fun c hc => ?_⟩
 by_cases e : c=b
 ·subst e
  obtain ⟨vs,h1,h2⟩:=hb
  exact .inr ⟨hN,⟨vs,h1,h2⟩,⟨_,by simpa using h1,h2.set j u⟩⟩
 ·exact .inl (hE.block c hc e)
theorem Sl.bxr {k m : Nat} {v : Value} {xs : List Value} (h : Sl w k v m xs) (hx : n < xs.length) (hR : BxR N T n w w') : Sl w' k v m xs:=by
 obtain ⟨h1,a,cap,h2,h3,h4,h5,h6⟩:=h
 obtain ⟨b,off,rfl,hc0⟩:=h6 n _ (List.getElem?_eq_getElem hx)
 have hb:=World.block_lt_of_cell? _ _ hc0
 have hsame : w'.heap[b]? = w.heap[b]? := by
  rcases hR.block b hb with h7 | ⟨-,⟨vs,e1,e2⟩,-⟩
  ·exact h7
  ·exfalso
   rw [e2.cell,Array.getElem?_eq_none (by omega)] at hc0
   cases hc0
 refine ⟨h1,_,cap,h2,h3,h4,h5,fun j u hj => ?_⟩
 obtain ⟨b',off',e,hc⟩:=h6 j u hj
 cases e
 exact ⟨b,off,rfl,by rw [← hc];exact World.cell?_of_block hsame⟩
end
structure BxX (N : Nat) (T : TypeId) (n : Nat) (X : World→Array Value→Prop) (w w' : World) : Prop where
 os : w'.os=w.os
 tape : w'.tape=w.tape
 output : w'.output=w.output
 size : w.heap.size≤w'.heap.size
 block : ∀ b,b < w.heap.size→w'.heap[b]? = w.heap[b]? ∨ (N≤b∧BoxT T n w b ∧ ∃ vs,vs.size=n∧Box w' b T vs∧X w' vs)
section
variable {N n : Nat} {T : TypeId} {X : World→Array Value→Prop} {w w' w'' : World}
theorem BxX.refl (w : World) : BxX N T n X w w:=⟨rfl,rfl,rfl,Nat.le_refl _,fun _ _ => .inl rfl⟩
theorem BxX.rel (h : BxX N T n X w w') : BxR N T n w w':=⟨h.os,h.tape,h.output,h.size,fun b hb=>(h.block b hb).imp id fun ⟨h1,h2,vs,h3,h4,_⟩=>⟨h1,h2,vs,h3,h4⟩⟩
theorem BxX.trans (hX : ∀ w w' vs,X w vs→BxR N T n w w'→X w' vs) (h : BxX N T n X w w') (k : BxX N T n X w' w'') : BxX N T n X w w'':=by
 refine ⟨k.os.trans h.os,k.tape.trans h.tape,k.output.trans h.output,Nat.le_trans h.size k.size,fun b hb => ?_⟩
 rcases k.block b (Nat.lt_of_lt_of_le hb h.size) with k1 | ⟨k1,k2,k3⟩
 ·rcases h.block b hb with h1 | ⟨h1,h2,vs,h3,h4,h5⟩
  ·exact .inl (k1.trans h1)
  ·exact .inr ⟨h1,h2,vs,h3,k1.trans h4,hX _ _ _ h5 k.rel⟩
 ·rcases h.block b hb with h1 | ⟨h1,h2,-⟩
  ·refine .inr ⟨k1,?_,k3⟩
   obtain ⟨vs,e1,e2⟩:=k2
   exact ⟨vs,e1,h1.symm.trans e2⟩
  ·exact .inr ⟨h1,h2,k3⟩
theorem BxX.of_ext (h : Ext w w') : BxX N T n X w w':=⟨h.os,h.tape,h.output,h.size,fun _ hb => .inl (h.blk hb)⟩
theorem BxX.to_ext (h : BxX N T n X w w') (hN : w.heap.size≤N) : Ext w w':=h.rel.to_ext hN
theorem BxX.but {b : Nat} (hE : ExtBut (· = b) w w') (hb : BoxT T n w b) (hN : N≤b) {vs : Array Value} (hs : vs.size=n) (hB : Box w' b T vs) (hX : X w' vs) : BxX N T n X w w' :=
 ⟨hE.os,hE.tape,hE.output,hE.size,fun c hc=>by
  by_cases e : c=b
  ·subst e;exact .inr ⟨hN,hb,vs,hs,hB,hX⟩
  ·exact .inl (hE.block c hc e)⟩
def PrR.up {N n : Nat} {T : TypeId} {X : World→Array Value→Prop} (q : PrR (BxR N T n)) : PrR (BxX N T n X):=⟨q.p,fun v w w' h hR=>q.m v w w' h hR.rel⟩
end
def PrRB (N : Nat) (T : TypeId) (n : Nat) : PrR (BxR N T n):=⟨fun v w => ∃ b,v = .pointer (some ⟨b,0,none⟩)∧N≤b∧BoxT T n w b,fun _ _ _ ⟨b,h1,h2,h3⟩ hR=>⟨b,h1,h2,hR.boxT h3⟩⟩
end Go.Proofs.YtepdbdckjmkbhaaGreatDoor
