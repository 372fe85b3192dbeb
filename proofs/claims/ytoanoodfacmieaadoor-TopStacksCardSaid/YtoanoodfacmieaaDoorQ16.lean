/- Several texts in one: TopC, TopD, RfD, TwA, ReadI, ReadO, Law35A, RegInr, BoxR. -/
import Derived.Test.YtoanoodfacmieaaDoorQ15
import Derived.Test.YtoanoodfacmieaaDoorQ14
import Derived.Test.YtoanoodfacmieaaDoorQ06
import Derived.Test.YtoanoodfacmieaaDoorQ07
import Derived.Test.YtoanoodfacmieaaDoorQ02
import Derived.Test.YtoanoodfacmieaaDoorQ11
import Derived.Test.YtoanoodfacmieaaDoorQ13
import Derived.Test.YtoanoodfacmieaaDoorQ01
import Derived.Test.YtoanoodfacmieaaDoorQ04
import Derived.Test.YtoanoodfacmieaaDoorQ09
/- Plain laws for TopStacks: the monitor along the retags, and with a call; no program in sight. -/
namespace Go.Proofs.YtoanoodfacmieaaDoor
set_option maxRecDepth 100000
open Go.RowKit
theorem freeT_nil (l : List (List Item)) : freeB l []=true:=by
 unfold freeB
 rw [Bool.not_eq_true',List.any_eq_false]
 intro s _
 simp [heldBy,hasR]
theorem endT_ok {x : Stk} {run : List Int} (hr : okR run=true) (hk : okK x=true) : endR34 x run=(if freeB x.cells run then 0 else 2,0):=endR34_ok (by rw [askErr,if_pos hr,stkErr_ok hk])
theorem protT_ok {x : Stk} {run : List Int} (hr : okR run=true) (hk : okK x=true) : protR x run=(keptL x.cells run,0):=protR_ok (by rw [askErr,if_pos hr,stkErr_ok hk])
theorem endT_nil {x : Stk} (hk : okK x=true) : endR34 x []=(0,0):=by rw [endT_ok (by decide) hk,freeT_nil];rfl
def oneM (l : List Cell) (S : List Item) (run : List Int) (t c : Int) : Mon:=⟨⟨[⟨0,true,l⟩],1⟩,[⟨0,List.replicate l.length S⟩],run,t,c⟩
theorem oneM_ok {l : List Cell} {S : List Item} {run : List Int} {t c : Int} (hn : l.length=1∨l.length=2) (hl : l.all Cell.ok=true) (hS : okS S=true) (hlt : ∀ y ∈ S,y.t < t∧y.c < c)
  (ht : 1≤t∧t≤1000000) (hc : 1≤c∧c≤1000000) (hr : okR run=true) (hrl : run.length=0∨lastR run < c) : okMon (oneM l S run t c)=true:=by
 refine MonOk.ok ⟨?_,rfl,ht,hc,hr,hrl,fun i x a hx ha => ?_⟩
 ·have:=one_ok hn hl
  unfold Mem.ok at this
  exact this
 ·match i with
  | 0 =>
   simp only [oneM,List.getElem?_cons_zero,Option.some.injEq] at hx ha
   subst hx ha
   unfold rowM
   rw [okK_same hn (by decide) hS]
   simp only [Bool.and_eq_true,beq_self_eq_true,List.length_replicate,List.all_eq_true,true_and]
   intro y hy
   obtain ⟨s,hs,hys⟩:=List.mem_flatten.1 hy
   rw [List.eq_of_mem_replicate hs] at hys
   have:=hlt y hys
   simp [itM]
   exact this
  | i+1=>simp [oneM] at hx
structure TopInv (k : Nat) (U : List Item) (it : Item) (t last : Int) : Prop where
 ok : okS (U ++ [it])=true
 len : U.length≤k
 tag : t≤k+2
 two : 2≤t
 lt : ∀ y ∈ U ++ [it],y.t < t∧y.c=0
 own : ∀ y ∈ U,y.t≠it.t
 base : ∃ V,U ++ [it]=⟨1,1,0⟩ :: V ∧ ∀ y ∈ V,y.t≠1
 last : it.t≠1→kindOk last=true∧it.p=permOf last
theorem TopInv.new : TopInv 0 [] ⟨1,1,0⟩ 2 2:=⟨by decide,Nat.le_refl _,by decide,by decide,fun y hy=>(by obtain rfl:=List.mem_singleton.1 hy;decide),fun y hy=>(by cases hy),⟨[],rfl,fun y hy=>(by cases hy)⟩,fun h=>absurd rfl h⟩
theorem TopInv.mono {k k' : Nat} {U : List Item} {it : Item} {t last : Int} (h : TopInv k U it t last) (hk : k≤k') : TopInv k' U it t last :=
 ⟨h.ok,Nat.le_trans h.len hk,by have:=h.tag;omega,h.two,h.lt,h.own,h.base,h.last⟩
theorem actI_c (b : Bool) (it : Item) : (actI b it).c=it.c:=by unfold actI;split <;> rfl
theorem TopInv.inT {k : Nat} {U : List Item} {it : Item} {t last : Int} (h : TopInv k U it t last) (hk : k≤12) : inB t=true:=by
 have:=h.tag;have:=h.two
 unfold inB
 simp only [Bool.and_eq_true,decide_eq_true_eq]
 omega
theorem TopInv.step {k : Nat} {U : List Item} {it : Item} {t last kd : Int} (h : TopInv k U it t last) (hk : k < 12) (hkd : kindOk kd=true) (hno : ¬ (writesOf kd=true∧it.p=4)) :
  TopInv (k+1) (U ++ [actI (writesOf kd) it]) ⟨permOf kd,t,0⟩ (t+1) kd:=by
 have h2:=h.two
 have h3:=h.tag
 have h4:=h.len
 have ht:=tagR_top (k:=kd) (run:=[]) (c:=0) (by decide) h.ok (by simp;omega) hkd (h.inT (by omega)) (by decide) h.own
 rw [if_neg hno] at ht
 have hin:=tagR_in (P:=fun _ _=>True) (fun _ _=>trivial) trivial ht
 refine ⟨hin.1,by simp;omega,by omega,by omega,fun y hy => ?_,fun y hy => ?_,?_,fun _=>⟨hkd,rfl⟩⟩
 ·rcases List.mem_append.1 hy with hy | hy
  ·rcases List.mem_append.1 hy with hy | hy
   ·have:=h.lt y (List.mem_append.2 (.inl hy));omega
   ·obtain rfl:=List.mem_singleton.1 hy
    rw [actI_t,actI_c]
    have:=h.lt it (by simp);omega
  ·obtain rfl:=List.mem_singleton.1 hy
   exact ⟨by dsimp only;omega,rfl⟩
 ·rcases List.mem_append.1 hy with hy | hy
  ·have:=h.lt y (List.mem_append.2 (.inl hy));dsimp only;omega
  ·obtain rfl:=List.mem_singleton.1 hy
   rw [actI_t]
   have:=h.lt it (by simp);dsimp only;omega
 ·obtain ⟨V,hV,hne⟩:=h.base
  cases U with
  | nil =>
   simp only [List.nil_append,List.cons.injEq] at hV
   obtain ⟨rfl,rfl⟩:=hV
   refine ⟨[⟨permOf kd,t,0⟩],?_,fun y hy => ?_⟩
   ·have : actI (writesOf kd) ⟨1,1,0⟩=⟨1,1,0⟩:=by unfold actI;rw [if_neg (by simp)]
    rw [this]
    rfl
   ·obtain rfl:=List.mem_singleton.1 hy
    dsimp only;omega
  | cons u U =>
   simp only [List.cons_append,List.cons.injEq] at hV
   obtain ⟨rfl,rfl⟩:=hV
   refine ⟨U ++ [actI (writesOf kd) it] ++ [⟨permOf kd,t,0⟩],by simp,fun y hy => ?_⟩
   rcases List.mem_append.1 hy with hy | hy
   ·rcases List.mem_append.1 hy with hy | hy
    ·exact hne y (List.mem_append.2 (.inl hy))
    ·obtain rfl:=List.mem_singleton.1 hy
     rw [actI_t]
     exact hne it (by simp)
   ·obtain rfl:=List.mem_singleton.1 hy
    dsimp only;omega
theorem TopInv.mon {k : Nat} {U : List Item} {it : Item} {t last : Int} {l : List Cell} (h : TopInv k U it t last) (hk : k≤12) (hn : l.length=1∨l.length=2) (hl : l.all Cell.ok=true) : okMon (oneM l (U ++ [it]) [] t 1)=true:=by
 have h2:=h.two
 have h3:=h.tag
 exact oneM_ok hn hl h.ok (fun y hy=>by have:=h.lt y hy;omega) (by omega) (by decide) (by decide) (.inl rfl)
theorem top_retag {k : Nat} {U : List Item} {it : Item} {t last kd v e w j : Int} {l : List Cell} {x : Mon} {q : Ptr} {y : Stk} (h : TopInv k U it t last) (hk : k < 12) (hn : l.length=1∨l.length=2) (hl : l.all Cell.ok=true) (hz : l.any (· == Cell.zero)=false)
  (h1 : retagM (oneM l (U ++ [it]) [] t 1) ⟨0,0,it.t⟩ l.length kd 0=(x,q,v,e)) (h2 : tag33 ⟨0,List.replicate l.length (U ++ [it])⟩ 0 l.length kd it.t ⟨0,t,0⟩ []=(y,w,j)) :
  e=j∧v=w∧(e=0→v=0 → ∃ U' it',x=oneM l (U' ++ [it']) [] (t+1) 1∧y=⟨0,List.replicate l.length (U' ++ [it'])⟩∧q=⟨0,0,t⟩∧it'.t=t∧TopInv (k+1) U' it' (t+1) kd):=by
 have hok:=h.mon (l:=l) (by omega) hn hl
 have g2:=h.two
 have g3:=h.tag
 have g4:=h.len
 have hask : ask33 ⟨0,List.replicate l.length (U ++ [it])⟩ 0 l.length []=0:=ask33_of (by decide) (okK_same hn (by decide) h.ok) (Int.le_refl _) (by omega) (by simp)
 cases hkd : kindOk kd
 ·rw [retagM_arg hok (by simp [hkd])] at h1
  rw [tag33_arg hask hkd] at h2
  simp only [Prod.mk.injEq] at h1 h2
  obtain ⟨rfl,rfl,rfl,rfl⟩:=h1
  obtain ⟨rfl,rfl,rfl⟩:=h2
  exact ⟨rfl,rfl,fun h=>absurd h (by decide)⟩
 ·have ht:=tagR_top (k:=kd) (run:=[]) (c:=0) (by decide) h.ok (by simp;omega) hkd (h.inT (by omega)) (by decide) h.own
  have hld:=one_load (t:=it.t) hn hl hz
  have hte : (tagR (U ++ [it]) kd it.t ⟨0,t,0⟩ []).2.2=0:=by rw [ht];split <;> rfl
  have hts:=tag33_same (num:=0) hn (by decide) (by decide) h.ok hkd hte
  have hlive:=retagM_live (m:=oneM l (U ++ [it]) [] t 1) (p:=⟨0,0,it.t⟩) (call:=0) (i:=0) hok ⟨hkd,.inl rfl⟩ hld (by show t≠1000000;omega) (by decide) (by simp [oneM,atNum,List.findIdx?_cons]) rfl h2
  rw [h1] at hlive
  rw [h2] at hts
  rw [ht] at hts
  by_cases hno : writesOf kd=true∧it.p=4
  ·rw [if_pos hno] at hts
   dsimp only at hts
   rw [if_neg (by decide)] at hts
   simp only [Prod.mk.injEq] at hts
   obtain ⟨rfl,rfl,rfl⟩:=hts
   rw [if_neg (by decide)] at hlive
   simp only [Prod.mk.injEq] at hlive
   obtain ⟨-,-,rfl,rfl⟩:=hlive
   exact ⟨rfl,rfl,fun _ h=>absurd h (by decide)⟩
  ·rw [if_neg hno] at hts
   dsimp only at hts
   rw [if_pos rfl] at hts
   simp only [Prod.mk.injEq] at hts
   obtain ⟨rfl,rfl,rfl⟩:=hts
   rw [if_pos ⟨rfl,rfl⟩] at hlive
   simp only [Prod.mk.injEq] at hlive
   obtain ⟨rfl,rfl,rfl,rfl⟩:=hlive
   exact ⟨rfl,rfl,fun _ _=>⟨_,_,rfl,rfl,rfl,rfl,h.step hk hkd hno⟩⟩
theorem top_phase {k : Nat} {U : List Item} {it : Item} {t last : Int} (h : TopInv k U it t last) : ∃ ph,phaseR (U ++ [it]) it.t=(ph,0)∧(it.t≠1→((ph == 1)=(last == 3))):=by
 refine ⟨_,phaseR_ok h.ok,fun hne => ?_⟩
 obtain ⟨hkd,hp⟩:=h.last hne
 by_cases h4 : it.p=4
 ·have hf : findAt (U ++ [it]) it.t true=none:=findAt_not fun y hy=>by
   unfold grants
   rcases List.mem_append.1 hy with hy | hy
   ·simp [h.own y hy]
   ·obtain rfl:=List.mem_singleton.1 hy
    simp [h4]
  rw [phaseOf_none hf]
  rw [h4] at hp
  rcases kind_yes hkd with rfl | rfl | rfl | rfl <;> first | rfl | (revert hp;decide)
 ·have hf:=findAt_tip (U:=U) (it:=it) (b:=true) (.inr h4)
  rw [phaseOf_some (x:=it) hf (by simp),hp]
  rcases kind_yes hkd with rfl | rfl | rfl | rfl <;> rfl
theorem top_load {k : Nat} {U : List Item} {it : Item} {t last : Int} {l : List Cell} (h : TopInv k U it t last) (hk : k≤12) (hn : l.length=1∨l.length=2) (hl : l.all Cell.ok=true) (hz : l.any (· == Cell.zero)=false) :
  ∃ x,loadM (oneM l (U ++ [it]) [] t 1) ⟨0,0,it.t⟩ l.length=(x,l,0,0):=by
 have hok:=h.mon (l:=l) hk hn hl
 have hu:=useR_own (U:=U) (it:=it) (b:=false) (run:=[]) (by decide) h.ok (.inl rfl)
 have hs:=use33_same (num:=0) (t:=it.t) (S:=U ++ [it]) (b:=false) (run:=[]) hn (by decide) (by decide) h.ok
 rw [hu] at hs
 dsimp only at hs
 rw [if_pos rfl] at hs
 have:=loadM_live (m:=oneM l (U ++ [it]) [] t 1) (p:=⟨0,0,it.t⟩) (i:=0) hok (one_load hn hl hz) (by decide) (by simp [oneM,atNum,List.findIdx?_cons]) rfl hs
 rw [if_pos rfl,if_pos rfl] at this
 exact ⟨_,this⟩
end Go.Proofs.YtoanoodfacmieaaDoor

/- Plain laws for TopStacks: its beginning, and what a running call protects; no program in sight. -/
namespace Go.Proofs.YtoanoodfacmieaaDoor
set_option maxRecDepth 100000
open Go.RowKit
theorem one_store {l l' : List Cell} {t : Int} (hn : l.length=1∨l.length=2) (hl : l.all Cell.ok=true) (he : l'.length=l.length) (hl' : l'.all Cell.ok=true) : storeR ⟨[⟨0,true,l⟩],1⟩ ⟨0,0,t⟩ l'=(⟨[⟨0,true,l'⟩],1⟩,0,0):=by
 have hask:=one_ask (t:=t) hn hl
 rw [← he] at hask
 rcases storeR_cases ⟨[⟨0,true,l⟩],1⟩ ⟨0,0,t⟩ l' with ⟨e',h1,h2⟩ | ⟨h1,h2⟩ | ⟨i,a,h1,h2,h3,h4,h5⟩
 ·exfalso
  have:=storeR_yes hask hl' rfl rfl
  rw [h1] at this
  simp only [Prod.mk.injEq] at this
  exact h2 this.2.2
 ·exfalso
  have:=storeR_yes hask hl' rfl rfl
  rw [h1] at this
  simp at this
 ·rw [storeR_yes hask hl' rfl rfl]
  simp [putCells,he]
theorem oneM_use {l : List Cell} {S s : List Item} {run : List Int} {tag v : Int} {b : Bool} (hn : l.length=1∨l.length=2) (hr : okR run=true) (hS : okS S=true) (h : useR S tag b run=(s,v,0)) :
  use33 ⟨0,List.replicate l.length S⟩ 0 l.length tag b run=if v=0 then (⟨0,List.replicate l.length s⟩,0,0) else (Stk.zero,v,0):=by
 have hs:=use33_same (num:=0) (t:=tag) (S:=S) (b:=b) (run:=run) hn hr (by decide) hS
 rw [h] at hs
 exact hs
theorem oneM_load {l : List Cell} {S s : List Item} {run : List Int} {t c tag v : Int} (hok : okMon (oneM l S run t c)=true) (hn : l.length=1∨l.length=2) (hl : l.all Cell.ok=true) (hz : l.any (· == Cell.zero)=false) (hr : okR run=true) (hS : okS S=true) (h : useR S tag false run=(s,v,0)) :
  loadM (oneM l S run t c) ⟨0,0,tag⟩ l.length=if v=0 then (oneM l s run t c,l,0,0) else (Mon.zero,[],v,0):=by
 have hs:=oneM_use (l:=l) hn hr hS h
 by_cases hv : v=0
 ·rw [if_pos hv] at hs
  have:=loadM_live (m:=oneM l S run t c) (p:=⟨0,0,tag⟩) (i:=0) hok (one_load hn hl hz) (by decide) (by simp [oneM,atNum,List.findIdx?_cons]) rfl hs
  rw [this,if_pos rfl,if_pos rfl,if_pos hv]
  rfl
 ·rw [if_neg hv] at hs
  have:=loadM_live (m:=oneM l S run t c) (p:=⟨0,0,tag⟩) (i:=0) hok (one_load hn hl hz) (by decide) (by simp [oneM,atNum,List.findIdx?_cons]) rfl hs
  rw [this,if_neg hv,if_neg hv]
theorem oneM_store {l l' : List Cell} {S s : List Item} {run : List Int} {t c tag v : Int} (hok : okMon (oneM l S run t c)=true) (hn : l.length=1∨l.length=2) (hl : l.all Cell.ok=true) (he : l'.length=l.length) (hl' : l'.all Cell.ok=true) (hr : okR run=true) (hS : okS S=true) (h : useR S tag true run=(s,v,0)) :
  storeM (oneM l S run t c) ⟨0,0,tag⟩ l'=if v=0 then (oneM l' s run t c,0,0) else (Mon.zero,v,0):=by
 have hs:=oneM_use (l:=l) hn hr hS h
 rw [← he] at hs
 by_cases hv : v=0
 ·rw [if_pos hv] at hs
  have:=storeM_live (m:=oneM l S run t c) (p:=⟨0,0,tag⟩) (i:=0) hok (one_store hn hl he hl') (by simp [oneM,atNum,List.findIdx?_cons]) (by rw [he];rfl) hs
  rw [this,if_pos rfl,if_pos hv]
  rfl
 ·rw [if_neg hv] at hs
  have:=storeM_live (m:=oneM l S run t c) (p:=⟨0,0,tag⟩) (i:=0) hok (one_store hn hl he hl') (by simp [oneM,atNum,List.findIdx?_cons]) (by rw [he];rfl) hs
  rw [this,if_neg hv,if_neg hv]
theorem top_start {l : List Cell} (hn : l.length=1∨l.length=2) (hl : l.all Cell.ok=true) :
  allocM ⟨Mem.zero,[],[],1,1⟩ l.length=(oneM (List.replicate l.length Cell.zero) [⟨1,1,0⟩] [] 2 1,⟨0,0,1⟩,0)∧storeM (oneM (List.replicate l.length Cell.zero) [⟨1,1,0⟩] [] 2 1) ⟨0,0,1⟩ l=(oneM l [⟨1,1,0⟩] [] 2 1,0,0):=by
 constructor
 ·rcases hn with h | h <;> rw [h] <;> decide +kernel
 ·have hn' : (List.replicate l.length Cell.zero).length=1∨(List.replicate l.length Cell.zero).length=2:=by simpa using hn
  have hz : (List.replicate l.length Cell.zero).all Cell.ok=true:=by rcases hn with h | h <;> rw [h] <;> decide
  have hok : okMon (oneM (List.replicate l.length Cell.zero) [⟨1,1,0⟩] [] 2 1)=true:=TopInv.new.mon (by decide) hn' hz
  have hu : useR [⟨1,1,0⟩] 1 true []=([⟨1,1,0⟩],0,0):=by decide +kernel
  have:=oneM_store hok hn' hz (by simp) hl (by decide) (by decide) hu
  rw [this,if_pos rfl]
structure TopCalled (l : List Cell) (S S' : List Item) (tn t : Int) : Prop where
 enter : enterM (oneM l S [] t 1)=(oneM l S [1] t 2,1,0)
 tag : retagM (oneM l S [1] t 2) ⟨0,0,tn⟩ l.length 1 1=(oneM l S' [1] (t+1) 2,⟨0,0,t⟩,0,0)
 kept : ∃ L,protR ⟨0,List.replicate l.length S'⟩ [1]=(L,0)∧L.length=l.length
 held : endM (oneM l S' [1] (t+1) 2) 0=(Mon.zero,2,0)
 prot : storeM (oneM l S' [1] (t+1) 2) ⟨0,0,1⟩ l=(Mon.zero,2,0)
 leave : leaveM (oneM l S' [1] (t+1) 2)=(oneM l S' [] (t+1) 2,0)
 store : storeM (oneM l S' [] (t+1) 2) ⟨0,0,1⟩ l=(oneM l [⟨1,1,0⟩] [] (t+1) 2,0,0)
 load : loadM (oneM l [⟨1,1,0⟩] [] (t+1) 2) ⟨0,0,1⟩ l.length=(oneM l [⟨1,1,0⟩] [] (t+1) 2,l,0,0)
 own : loadM (oneM l [⟨1,1,0⟩] [] (t+1) 2) ⟨0,0,t⟩ l.length=(Mon.zero,[],1,0)
 newest : tn≠1→loadM (oneM l [⟨1,1,0⟩] [] (t+1) 2) ⟨0,0,tn⟩ l.length=(Mon.zero,[],1,0)
 gone : ∃ md,endM (oneM l [⟨1,1,0⟩] [] (t+1) 2) 0=(md,0,0)∧okMon md=true∧loadM md ⟨0,0,1⟩ l.length=(Mon.zero,[],3,0)
 ok1 : okMon (oneM l S [1] t 2)=true
 ok2 : okMon (oneM l S' [1] (t+1) 2)=true
 ok3 : okMon (oneM l S' [] (t+1) 2)=true
 ok4 : okMon (oneM l [⟨1,1,0⟩] [] (t+1) 2)=true
theorem kept_same {S : List Item} {run : List Int} {n : Nat} : (keptL (List.replicate n S) run).length=n * (S.filter (heldBy run)).length:=by
 unfold keptL
 induction n with
 | zero=>simp
 | succ n ih=>rw [List.replicate_succ,List.flatMap_cons,List.length_append,ih,Nat.succ_mul,Nat.add_comm]
set_option maxHeartbeats 3200000 in
theorem top_called {k : Nat} {U : List Item} {it : Item} {t last : Int} {l : List Cell} (h : TopInv k U it t last) (hk : k≤12) (hn : l.length=1∨l.length=2) (hl : l.all Cell.ok=true) (hz : l.any (· == Cell.zero)=false) :
  ∃ S',TopCalled l (U ++ [it]) S' it.t t:=by
 have g2:=h.two
 have g3:=h.tag
 have g4:=h.len
 have hr1 : okR [1]=true:=by decide
 have hok0:=h.mon (l:=l) hk hn hl
 have hok1 : okMon (oneM l (U ++ [it]) [1] t 2)=true:=oneM_ok hn hl h.ok (fun y hy=>by have:=h.lt y hy;omega) (by omega) (by decide) hr1 (.inr (by decide))
 have ht:=tagR_top (k:=1) (t:=t) (c:=1) (run:=[1]) hr1 h.ok (by simp;omega) (by decide) (h.inT hk) (by decide) h.own
 rw [if_neg (fun h=>absurd h.1 (by decide)),show actI (writesOf 1) it=it from by unfold actI;rw [if_neg (fun h=>absurd h.1 (by decide))],show permOf 1=4 from rfl] at ht
 have hS' : okS (U ++ [it] ++ [⟨4,t,1⟩])=true:=(tagR_in (P:=fun _ _=>True) (fun _ _=>trivial) trivial ht).1
 obtain ⟨V,hV,hne⟩:=h.base
 have hlt' : ∀ y ∈ U ++ [it] ++ [⟨4,t,1⟩],y.t < t+1∧y.c < 2:=fun y hy=>by
  rcases List.mem_append.1 hy with hy | hy
  ·have:=h.lt y hy;omega
  ·obtain rfl:=List.mem_singleton.1 hy
   dsimp only;omega
 have hok2 : okMon (oneM l (U ++ [it] ++ [⟨4,t,1⟩]) [1] (t+1) 2)=true:=oneM_ok hn hl hS' hlt' (by omega) (by decide) hr1 (.inr (by decide))
 have hok3 : okMon (oneM l (U ++ [it] ++ [⟨4,t,1⟩]) [] (t+1) 2)=true:=oneM_ok hn hl hS' hlt' (by omega) (by decide) (by decide) (.inl rfl)
 have hok4 : okMon (oneM l [⟨1,1,0⟩] [] (t+1) 2)=true:=oneM_ok hn hl (by decide) (fun y hy=>by obtain rfl:=List.mem_singleton.1 hy;dsimp only;omega) (by omega) (by decide) (by decide) (.inl rfl)
 have hat : atNum [⟨0,true,l⟩] 0=some 0:=by simp [atNum,List.findIdx?_cons]
 have hcons : U ++ [it] ++ [⟨4,t,1⟩]=⟨1,1,0⟩ :: (V ++ [⟨4,t,1⟩]):=by rw [hV];rfl
 have hfi : findAt (U ++ [it] ++ [⟨4,t,1⟩]) 1 true=some 0:=by
  rw [hcons]
  refine findAt_some (x:=⟨1,1,0⟩) rfl rfl fun j y hj hy => ?_
  have hy2 : y ∈ V ++ [⟨4,t,1⟩]:=by
   match j,hj with
   | j+1,_=>exact List.mem_of_getElem? (by simpa using hy)
  have : y.t≠1:=by
   rcases List.mem_append.1 hy2 with h5 | h5
   ·exact hne y h5
   ·obtain rfl:=List.mem_singleton.1 h5
    dsimp only;omega
  simp [grants,this]
 have hgone : useGone (U ++ [it] ++ [⟨4,t,1⟩]) 0 true=V ++ [⟨4,t,1⟩]:=by rw [hcons];simp [useGone]
 have hleft : useLeft (U ++ [it] ++ [⟨4,t,1⟩]) 0 true=[⟨1,1,0⟩]:=by rw [hcons];simp [useLeft,actAt]
 have hheld : heldBy [1] ⟨4,t,1⟩=true:=by simp [heldBy,hasR]
 have hany : (U ++ [it] ++ [(⟨4,t,1⟩ : Item)]).any (heldBy [1])=true:=by rw [List.any_append];simp [hheld]
 have hfil : (U ++ [it] ++ [(⟨4,t,1⟩ : Item)]).filter (heldBy [1])=[(⟨4,t,1⟩ : Item)]:=by
  rw [List.filter_append,List.filter_eq_nil_iff.2 (fun y hy=>by have:=(h.lt y hy).2;simp [heldBy,hasR,this])]
  simp [hheld]
 have hu1 : useR (U ++ [it] ++ [⟨4,t,1⟩]) 1 true [1]=([],2,0):=by
  rw [useR_at hr1 hS' hfi,hgone,if_pos]
  unfold firstR
  rw [List.findIdx?_isSome,List.any_append]
  simp [hheld]
 have hu2 : useR (U ++ [it] ++ [⟨4,t,1⟩]) 1 true []=([⟨1,1,0⟩],0,0):=by
  rw [useR_at (by decide) hS' hfi,hleft,if_neg]
  unfold firstR
  rw [List.findIdx?_isSome]
  simp [heldBy,hasR]
 have hu3 : useR [⟨1,1,0⟩] 1 false []=([⟨1,1,0⟩],0,0):=by decide +kernel
 have hu4 : ∀ tag : Int,tag≠1→useR [⟨1,1,0⟩] tag false []=([],1,0):=fun tag htag=>useR_none (by decide) (by decide) (findAt_not fun y hy=>by
  obtain rfl:=List.mem_singleton.1 hy
  simp [grants,Ne.symm htag])
 have hkS : okK ⟨0,List.replicate l.length (U ++ [it] ++ [⟨4,t,1⟩])⟩=true:=okK_same hn (by decide) hS'
 refine ⟨U ++ [it] ++ [⟨4,t,1⟩],?_,?_,?_,?_,?_,?_,?_,?_,?_,?_,?_,hok1,hok2,hok3,hok4⟩
 ·exact enterM_ok hok0 (by show ¬ (0=32);decide) (by show ¬ ((1 : Int)=1000000);decide)
 ·have hte : (tagR (U ++ [it]) 1 it.t ⟨0,t,1⟩ [1]).2.2=0:=by rw [ht]
  have hts:=tag33_same (num:=0) hn hr1 (by decide) h.ok (by decide) hte
  rw [ht] at hts
  dsimp only at hts
  rw [if_pos rfl] at hts
  have:=retagM_live (m:=oneM l (U ++ [it]) [1] t 2) (p:=⟨0,0,it.t⟩) (kind:=1) (call:=1) (i:=0) hok1 ⟨by decide,.inr (by simp [oneM,hasR])⟩ (one_load hn hl hz) (by show t≠1000000;omega) (by decide) hat rfl hts
  rw [this,if_pos ⟨rfl,rfl⟩]
  rfl
 ·exact ⟨_,protT_ok hr1 hkS,by rw [kept_same,hfil];simp⟩
 ·have hfree : freeB (List.replicate l.length (U ++ [it] ++ [⟨4,t,1⟩])) [1]=false:=by
   unfold freeB
   rw [Bool.not_eq_false',List.any_eq_true]
   refine ⟨_,List.mem_replicate.2 ⟨by omega,rfl⟩,hany⟩
  have he : endR34 ⟨0,List.replicate l.length (U ++ [it] ++ [(⟨4,t,1⟩ : Item)])⟩ [1]=(2,0):=by rw [endT_ok hr1 hkS,hfree];rfl
  have hd:=endM_live (m:=oneM l (U ++ [it] ++ [(⟨4,t,1⟩ : Item)]) [1] (t+1) 2) hok2 hat rfl rfl rfl he
  rw [if_neg (by decide)] at hd
  exact hd
 ·have:=oneM_store (l':=l) hok2 hn hl rfl hl hr1 hS' hu1
  rw [this,if_neg (by decide)]
 ·exact leaveM_ok hok2 (by show ¬ (1=0);decide)
 ·have:=oneM_store (l':=l) hok3 hn hl rfl hl (by decide) hS' hu2
  rw [this,if_pos rfl]
 ·have:=oneM_load hok4 hn hl hz (by decide) (by decide) hu3
  rw [this,if_pos rfl]
 ·have:=oneM_load hok4 hn hl hz (by decide) (by decide) (hu4 t (by omega))
  rw [this,if_neg (by decide)]
 ·intro hne1
  have:=oneM_load hok4 hn hl hz (by decide) (by decide) (hu4 it.t hne1)
  rw [this,if_neg (by decide)]
 ·have hk4 : okK ⟨0,List.replicate l.length [⟨1,1,0⟩]⟩=true:=okK_same hn (by decide) (by decide)
  have he:=endT_nil hk4
  have hend:=endM_live (m:=oneM l [⟨1,1,0⟩] [] (t+1) 2) hok4 hat rfl rfl rfl he
  rw [if_pos rfl] at hend
  have hinv:=endM_inv hend
  refine ⟨_,hend,hinv.2.1,?_⟩
  have hld : loadR (⟨endAt [⟨0,true,l⟩] 0,1⟩ : Mem) ⟨0,0,1⟩ l.length=([],3,0):=by
   show loadR (⟨[⟨0,false,List.replicate l.length Cell.zero⟩],1⟩ : Mem) ⟨0,0,1⟩ l.length=([],3,0)
   rcases hn with h5 | h5 <;> rw [h5] <;> decide +kernel
  exact loadM_err hinv.2.1 hld (.inr rfl)
end Go.Proofs.YtoanoodfacmieaaDoor

/- Contracts: the reference's Same and Great of layer 35. (printed by gen/ref35d.py) -/
namespace Go.Proofs.YtoanoodfacmieaaDoor
set_option maxRecDepth 100000
open Go.RowKit
def notGreat (m : Mon) : Prop:=greatM m.mem.al=false∧m.stks.length≤410∧m.run.length≤50 ∧ ∀ x ∈ m.stks,greatK x.cells=false
theorem greatK_small {l : List (List Item)} (h : greatK l=false) : l.length≤4 ∧ ∀ s ∈ l,s.length≤2000:=by
 unfold greatK at h
 simp only [Bool.or_eq_false_iff,decide_eq_false_iff_not] at h
 refine ⟨by omega,fun s hs => ?_⟩
 have h1:=List.any_eq_false.1 h.1 s (by rw [List.take_of_length_le (by omega)];exact hs)
 simp [wideS] at h1
 omega
end Go.Proofs.YtoanoodfacmieaaDoor

/- What the reference's copy of a monitor is: tables that the call owns, running calls that it owns; no program in sight. -/
namespace Go.Proofs.YtoanoodfacmieaaDoor
set_option maxRecDepth 100000
open Go.RowKit
def tyB (w : World) (b : Nat) : Option TypeId:=match w.heap[b]? with
 | some (.cells _ e _)=>some e
 | _=>none
theorem Own.ty {w : World} {B : Nat} {e k n : Nat} {v : Value} {xs : List Value} (h : Own w B e k v n xs) {g : Nat} (hg : v.ownBlock=some g) : tyB w g=some e:=by
 rcases h.2 with ⟨rfl,-⟩ | ⟨g',cap,cur,rfl,-,hh,-⟩
 ·cases hg
 ·have e' : some g'=some g:=hg
  cases e'
  simp only [tyB,hh]
theorem Own.apart {w : World} {B B2 : Nat} {e e2 k k2 n n2 : Nat} {v u : Value} {xs ys : List Value} (h : Own w B e k v n xs) (h2 : Own w B2 e2 k2 u n2 ys) (he : e≠e2) {g : Nat} (hg : v.ownBlock=some g) : u.ownBlock≠some g:=fun hg2=>by
 have:=(h.ty hg).symm.trans (h2.ty hg2)
 exact he (by simpa using this)
theorem OM.ty {w : World} {B : Nat} {v : Value} {vs : List Value} {l : List Alloc} (h : OM w B v vs l) {s : Value} (hs : s ∈ vs) {g : Nat} (hg : s.ownBlock=some g) : tyB w g=some 28:=by
 obtain ⟨i,hi⟩:=List.mem_iff_getElem?.1 hs
 have hil:=(List.getElem?_eq_some_iff.1 hi).1
 rw [(All2.iff.1 h.inner).1] at hil
 have hal : l[i]? = some l[i]:=by simp [hil]
 exact Own.ty ((All2.iff.1 h.inner).2 i s _ hi hal) hg
structure Tw (w : World) (B N : Nat) (sa ss sr : Value) (vsA vs : List Value) (m : Mon) : Prop where
 al : OM w B sa vsA m.mem.al
 run : Own w B 3 1 sr m.run.length (m.run.flatMap irow)
 stk : OwnK w N ss vs m.stks
 low : B≤N∧N≤w.heap.size
 loA : (∀ g,sa.ownBlock=some g→g < N) ∧ ∀ s ∈ vsA,∀ g,s.ownBlock=some g→g < N
 loR : ∀ g,sr.ownBlock=some g→g < N
def RetTw (w : World) (m : Mon) (en : Ending) (w' : World) : Prop := ∃ N sa ss sr vsA vs,en = .returned (.agg #[sa,.int .i64 m.mem.next,ss,sr,.int .i64 m.tag,.int .i64 m.call])∧Tw w' w.heap.size N sa ss sr vsA vs m∧Ext w w'
section
variable {w w' : World} {B N : Nat} {sa ss sr : Value} {vsA vs : List Value} {m : Mon}
theorem Tw.but {S : Nat→Prop} (h : Tw w B N sa ss sr vsA vs m) (hE : ExtBut S w w') (hS : ∀ b,B≤b → ¬ S b) : Tw w' B N sa ss sr vsA vs m :=
 ⟨OM.but h.al hE (fun g e=>hS g (h.al.outer.lt e).1) (fun s hs g e=>hS g (OM.inner_lt h.al s hs g e).1),ExtBut.own h.run hE (fun g e=>hS g (h.run.lt e).1),h.stk.but hE (fun b hb=>hS b (Nat.le_trans h.low.1 hb)),⟨h.low.1,Nat.le_trans h.low.2 hE.size⟩,h.loA,h.loR⟩
theorem Tw.ext (h : Tw w B N sa ss sr vsA vs m) (hE : Ext w w') : Tw w' B N sa ss sr vsA vs m:=h.but (ExtBut.of_ext (S:=fun _=>False) hE) (fun _ _ h=>h)
theorem Tw.mono {B' : Nat} (h : Tw w B N sa ss sr vsA vs m) (hB : B'≤B) : Tw w B' N sa ss sr vsA vs m:=⟨OM.mono h.al hB,h.run.mono hB,h.stk,⟨Nat.le_trans hB h.low.1,h.low.2⟩,h.loA,h.loR⟩
theorem Tw.alF (h : Tw w B N sa ss sr vsA vs m) : Fq (fun b=>B≤b∧b < N∧sr.ownBlock≠some b) w (fun w=>Als w sa m.mem.al) :=
 (OM.fsx h.al).mono fun b hb _=>by
  rcases hb with hb | ⟨s,hs,hb⟩
  ·exact ⟨(h.al.outer.lt hb).1,h.loA.1 b hb,fun e=>Own.apart h.al.outer h.run (by decide) hb e⟩
  ·refine ⟨(OM.inner_lt h.al s hs b hb).1,h.loA.2 s hs b hb,fun e => ?_⟩
   have:=(OM.ty h.al hs hb).symm.trans (h.run.ty e)
   simp at this
theorem Tw.runF (h : Tw w B N sa ss sr vsA vs m) : Fq (fun b=>sr.ownBlock=some b) w (fun w=>Nts w sr m.run):=h.run.fs
theorem Tw.read (h : Tw w B N sa ss sr vsA vs m) : RdMon w (.agg #[sa,.int .i64 m.mem.next,ss,sr,.int .i64 m.tag,.int .i64 m.call]) m:=⟨_,_,_,rfl,OM.read h.al,h.stk.read,h.run.sl⟩
end
theorem RetTw.mon {w w' : World} {m : Mon} {en : Ending} (h : RetTw w m en w') : RetF w (fun v=>v) m en w':=by
 obtain ⟨N,sa,ss,sr,vsA,vs,rfl,hT,hE⟩:=h
 exact ⟨_,rfl,FrMon.of_fs (hT.alF.mono fun b h1 _=>h1.1) (hT.stk.fs.mono fun b h1 _=>Nat.le_trans hT.low.1 h1) (hT.runF.mono fun b h1 _=>(hT.run.lt h1).1),hE⟩
end Go.Proofs.YtoanoodfacmieaaDoor

/- How a list of numbers among the arguments reads. -/
namespace Go.Proofs.YtoanoodfacmieaaDoor
set_option maxRecDepth 100000
open Go.ChangeShapes Go.WideShapes Go.ChangeAt Go.RowKit
section
variable {H : Type} {enc : TypeId × Value→H} {w : World} {base : Nat} {spare : Nat→Bool} {held : Bool}
end
end Go.Proofs.YtoanoodfacmieaaDoor

/- How the arguments of a statement read: monitors. -/
namespace Go.Proofs.YtoanoodfacmieaaDoor
set_option maxRecDepth 100000
open Go.ChangeShapes Go.WideShapes Go.ChangeAt Go.RowKit
section
variable {H : Type} {enc : TypeId × Value→H} {w : World} {base : Nat} {spare : Nat→Bool} {held : Bool}
end
end Go.Proofs.YtoanoodfacmieaaDoor

/- What the statements of layer 35 share. (printed by gen/law35a.py) -/
namespace Go.Proofs.YtoanoodfacmieaaDoor
set_option maxRecDepth 100000
open Go.RowKit
theorem notGreat.small {m : Mon} (h : notGreat m) : small m.mem.al∧(m.stks.length≤1000000 ∧ ∀ x ∈ m.stks,x.cells.length≤1000000 ∧ ∀ s ∈ x.cells,s.length≤1000000)∧m.run.length≤1000000:=by
 obtain ⟨h1,h2,h3,h4⟩:=h
 refine ⟨?_,⟨by omega,fun x hx => ?_⟩,by omega⟩
 ·unfold greatM at h1
  simp only [Bool.or_eq_false_iff,decide_eq_false_iff_not] at h1
  refine ⟨by omega,fun a ha => ?_⟩
  have h5:=List.any_eq_false.1 h1.1 a (by rw [List.take_of_length_le (by omega)];exact ha)
  simp at h5
  omega
 ·have h5:=greatK_small (h4 x hx)
  exact ⟨by omega,fun s hs=>by have:=h5.2 s hs;omega⟩
theorem rd_parts {w : World} {m : Mon} {sa ss sr : Value} (h : Als w sa m.mem.al∧Kts w ss m.stks∧Nts w sr m.run) : RdMon w (.agg #[sa,.int .i64 m.mem.next,ss,sr,.int .i64 m.tag,.int .i64 m.call]) m:=⟨_,_,_,rfl,h.1,h.2.1,h.2.2⟩
end Go.Proofs.YtoanoodfacmieaaDoor

/- A region that draws its order, by what each operation leaves, under a relation of one's own between worlds (stores into fresh boxes too). -/
namespace Go.Proofs.YtoanoodfacmieaaDoor
set_option maxRecDepth 100000
open Go
section
variable {P : Program} {ops : Array Oper} {Q : Exit→Act→World→Prop} {md : Region.Mode} {R : World→World→Prop}
structure PrR (R : World→World→Prop) where
 p : Value→World→Prop
 m : ∀ v w w',p v w→R w w'→p v w'
def PrR.eq (R : World→World→Prop) (u : Value) : PrR R:=⟨fun v _=>v=u,fun _ _ _ h _=>h⟩
def PrR.any (R : World→World→Prop) : PrR R:=⟨fun _ _=>True,fun _ _ _ h _=>h⟩
def prR (L : List (PrR R)) (i : Nat) (v : Value) (w : World) : Prop:=match L[i]? with
 | some q=>q.p v w
 | none=>True
theorem prR_ext {L : List (PrR R)} {i : Nat} {v : Value} {w w' : World} (h : prR L i v w) (he : R w w') : prR L i v w':=by
 unfold prR at *
 cases hq : L[i]? with
 | none=>trivial
 | some q=>rw [hq] at h;exact q.m _ _ _ h he
def addrV (o : Oper) (a : Act) : Value:=match o.op with
 | .store _ (.tmp t) _=>a.eval (.tmp t)
 | _=>undef
def slotV (ops : Array Oper) (a : Act) (i : Nat) : Value:=match ops[i]? with
 | some o=>(match o.dst with
  | some d=>a.eval (.tmp d)
  | none=>addrV o a)
 | none=>undef
theorem fm_inj : ∀ (l : List Oper),(l.filterMap (·.dst)).Nodup → ∀ (i j : Nat) (o u : Oper) (d : Nat),l[i]? = some o→l[j]? = some u→o.dst=some d→u.dst=some d→i=j
 | [],_,i,j,o,u,d,hi,_,_,_=>by simp at hi
 | x :: l,hn,i,j,o,u,d,hi,hj,ho,hu=>by
  have htl : (l.filterMap (·.dst)).Nodup:=by
   cases hx : x.dst with
   | none=>rwa [List.filterMap_cons_none hx] at hn
   | some e=>rw [List.filterMap_cons_some hx] at hn;exact (List.nodup_cons.1 hn).2
  cases i with
  | zero =>
   cases j with
   | zero=>rfl
   | succ j =>
    exfalso
    simp at hi;subst hi
    rw [List.filterMap_cons_some ho] at hn
    exact (List.nodup_cons.1 hn).1 (List.mem_filterMap.2 ⟨u,List.mem_of_getElem? (by simpa using hj),hu⟩)
  | succ i =>
   cases j with
   | zero =>
    exfalso
    simp at hj;subst hj
    rw [List.filterMap_cons_some hu] at hn
    exact (List.nodup_cons.1 hn).1 (List.mem_filterMap.2 ⟨o,List.mem_of_getElem? (by simpa using hi),ho⟩)
   | succ j=>exact congrArg (· + 1) (fm_inj l htl i j o u d (by simpa using hi) (by simpa using hj) ho hu)
theorem putAll_fm (vals : Nat→Value) {t : Nat} : ∀ (l : List Oper) (k : Nat) (a : Act) (i : Nat) (o : Oper),(l.filterMap (·.dst)).Nodup→l[i]? = some o→o.dst=some t→t < a.tmps.size→(putAll vals l k a).tmps[t]? = some (vals (k+i))
 | [],_,_,_,_,_,h,_,_=>by simp at h
 | x :: l,k,a,0,o,hn,ho,hd,ht=>by
  simp at ho;subst ho
  rw [List.filterMap_cons_some hd] at hn
  rw [putAll,putAll_ne vals l _ _ (fun y hy e=>(List.nodup_cons.1 hn).1 (List.mem_filterMap.2 ⟨y,hy,e⟩)),hd,put_eq _ _ ht]
  rfl
 | x :: l,k,a,i+1,o,hn,ho,hd,ht=>by
  have htl : (l.filterMap (·.dst)).Nodup:=by
   cases hx : x.dst with
   | none=>rwa [List.filterMap_cons_none hx] at hn
   | some e=>rw [List.filterMap_cons_some hx] at hn;exact (List.nodup_cons.1 hn).2
  rw [putAll,putAll_fm vals l (k+1) _ i o htl (by simpa using ho) hd (by rw [put_size];exact ht),show k+1+i=k+(i+1) by omega]
def pv (o : Oper) (a : Act) (v : Value) : Value:=match o.dst with
 | some _=>v
 | none=>addrV o a
def RR (ops : Array Oper) (R : World→World→Prop) (L : List (PrR R)) (a0 : Act) (w0 : World) (listed : Array Bool) (a : Act) (w : World) : Prop :=
 listed.size=ops.size∧a.defers=a0.defers∧a.tmps.size=a0.tmps.size∧(∀ t,(∀ o ∈ ops.toList,o.dst≠some t)→a.tmps[t]? = a0.tmps[t]?)∧(∀ i,listed.getD i false=true→prR L i (slotV ops a i) w)∧R w0 w∧(∀ (i : Nat) (o : Oper),ops[i]? = some o→listed.getD i false=true → ∀ e ∈ o.after,Region.binds .any e=true→listed.getD e.on false=true)
def regOR (md : Region.Mode) (ops : Array Oper) (n : Nat) : Bool :=
 (ops.toList.all fun o=>match o.dst with | some d=>decide (d < n) | none=>true) && decide ((ops.toList.filterMap (·.dst)).Nodup)
 && ((List.range ops.size).all fun i=>((ops[i]?).map fun o=>o.after.all fun e => !Region.binds md e || decide (e.on < i)).getD true)
 && (ops.toList.all fun o=>match o.op with
  | .store _ (.tmp t) _=>(List.range ops.size).all fun k=>(((ops[k]?).map fun u=>u.dst != some t).getD true) || (o.after.any fun e=>Region.binds md e && e.on == k)
  | _=>true)
def StepR (P : Program) (md : Region.Mode) (ops : Array Oper) (Q : Exit→Act→World→Prop) (R : World→World→Prop) (L : List (PrR R)) (a0 : Act) (w0 : World) (i : Nat) (o : Oper) : Prop :=
 ∀ (a : Act) (w : World),R w0 w→(∀ j,(o.after.any fun e=>Region.binds md e && e.on == j)=true→prR L j (slotV ops a j) w) →
  (∀ t,ops.toList.all (fun o=>o.dst != some t)=true→a.eval (.tmp t)=a0.eval (.tmp t)) →
  (Region.wanted o (yielded ops a.tmps)=true ∧ ∀ K : Act→World→Prop,(∀ v w',prR L i (pv o a v) w'→R w w'→K (a.put o.dst v) w')→o.wp P a w K Q)∨(Region.wanted o (yielded ops a.tmps)=false∧prR L i (pv o a undef) w)
theorem wp_region_rel {id : Nat} {a0 : Act} {w0 : World} (hr : ∀ w,R w w) (ht : ∀ a b c,R a b→R b c→R a c) (L : List (PrR R)) (hm : P.follows .mixedOrders=true) (hok : regOR .any ops a0.tmps.size=true)
  (hs : AllSteps (StepR P .any ops Q R L a0 w0.drew) ops.toList 0)
  (he : ∀ (vals : Nat→Value) (A : Act) (w : World),A=putAll vals ops.toList 0 a0→R w0.drew w→(∀ i,i < ops.size→prR L i (vals i) w)→(∀ i,vals i=slotV ops A i)→Q .normal A w) :
  (Code.region id ops true).wp P Q a0 w0:=by
 unfold regOR at hok
 simp only [Bool.and_eq_true,decide_eq_true_eq] at hok
 obtain ⟨⟨⟨h1,h2⟩,h3⟩,h4⟩:=hok
 have hdst : ∀ (i : Nat) (o : Oper) (d : Nat),ops[i]? = some o→o.dst=some d→d < a0.tmps.size:=by
  intro i o d ho hd
  have hm' : o ∈ ops.toList:=by rw [Array.mem_toList_iff];exact Array.mem_of_getElem? ho
  have:=List.all_eq_true.1 h1 o hm'
  rw [hd] at this
  simpa using this
 have hafter : ∀ (i : Nat) (o : Oper),ops[i]? = some o → ∀ e ∈ o.after,Region.binds .any e=true→e.on < i:=by
  intro i o ho e hea hb
  have hi:=(Array.getElem?_eq_some_iff.1 ho).1
  have:=List.all_eq_true.1 h3 i (List.mem_range.2 hi)
  rw [ho] at this
  simp only [Option.map_some,Option.getD_some,Array.all_eq_true_iff_forall_mem] at this
  have:=this e hea
  simpa [hb] using this
 have hinj : ∀ (i j : Nat) (o u : Oper) (d : Nat),ops[i]? = some o→ops[j]? = some u→o.dst=some d→u.dst=some d→i=j:=fun i j o u d hi hj ho hu =>
  fm_inj ops.toList h2 i j o u d (by rw [Array.getElem?_toList];exact hi) (by rw [Array.getElem?_toList];exact hj) ho hu
 refine wp_region_any hm (wpAny_inv (I:=RR ops R L a0 w0.drew) ?_ ?_ _ _ _ _ (by unfold unl;refine Nat.le_trans (List.length_filter_le _ _) (by simp)) ?_)
 ·intro listed a w i ⟨r1,r2,r3,r4,r5,r6,r7⟩ hi
  obtain ⟨g1,o,ho,g2⟩:=mem_ready.1 hi
  have hst:=AllSteps.get (i:=i) hs (by rw [Array.getElem?_toList];exact ho)
  rw [Nat.zero_add] at hst
  have hput : ∀ v w',prR L i (pv o a v) w'→R w w'→RR ops R L a0 w0.drew (listed.setIfInBounds i true) (a.put o.dst v) w':=by
   intro v w' hv hE
   refine ⟨by simpa using r1,by rw [put_def];exact r2,by rw [put_size];exact r3,fun t ht => ?_,fun j hj => ?_,ht _ _ _ r6 hE,fun j u hu hj e he1 he2 => ?_⟩
   ·rw [put_ne _ _ (ht o (by rw [Array.mem_toList_iff];exact Array.mem_of_getElem? ho))]
    exact r4 t ht
   ·by_cases e : j=i
    ·subst e
     unfold slotV
     unfold pv at hv
     rw [ho]
     cases hd : o.dst with
     | none=>rw [hd] at hv;simp only [hd];exact hv
     | some d =>
      rw [hd] at hv
      simp only [hd]
      show prR L j ((a.put (some d) v).eval (.tmp d)) w'
      rw [eval_tmp,put_eq _ _ (by rw [r3];exact hdst j o d ho hd)]
      exact hv
    ·rw [getD_set_ne false (fun e'=>e e'.symm)] at hj
     have h5:=prR_ext (r5 j hj) hE
     have : slotV ops (a.put o.dst v) j=slotV ops a j:=by
      unfold slotV
      cases hu : ops[j]? with
      | none=>rfl
      | some u =>
       cases hd' : u.dst with
       | none =>
        simp only [hd']
        unfold addrV
        split
        ·rename_i t x hop
         have hne : o.dst≠some t:=by
          intro ho2
          have hmu : u ∈ ops.toList:=by rw [Array.mem_toList_iff];exact Array.mem_of_getElem? hu
          have h6:=List.all_eq_true.1 h4 u hmu
          rw [hop] at h6
          have h7:=List.all_eq_true.1 h6 i (List.mem_range.2 (Array.getElem?_eq_some_iff.1 ho).1)
          rw [ho] at h7
          simp only [Option.map_some,Option.getD_some,Bool.or_eq_true,bne_iff_ne,ne_eq,ho2,not_true_eq_false,false_or] at h7
          obtain ⟨e3,he3,he4⟩:=Array.any_eq_true'.1 h7
          simp only [Bool.and_eq_true,beq_iff_eq] at he4
          have h8:=r7 j u hu hj e3 he3 he4.1
          rw [he4.2] at h8
          have hsz : i < listed.size:=by rw [r1];exact (Array.getElem?_eq_some_iff.1 ho).1
          simp [hsz] at h8 g1
          rw [g1] at h8
          cases h8
         show (a.put o.dst v).eval (.tmp t)=a.eval (.tmp t)
         rw [eval_tmp,eval_tmp,put_ne _ _ hne]
        ·rfl
       | some d' =>
        simp only [hd']
        show (a.put o.dst v).eval (.tmp d')=a.eval (.tmp d')
        rw [eval_tmp,eval_tmp,put_ne _ _ (fun e'=>e (hinj j i u o d' hu ho hd' e'))]
     rw [this]
     exact h5
   ·have hsz : i < listed.size:=by rw [r1];exact (Array.getElem?_eq_some_iff.1 ho).1
    have key : listed.getD e.on false=true:=by
     by_cases e' : j=i
     ·subst e'
      rw [ho] at hu
      cases hu
      exact g2 e he1 he2
     ·rw [getD_set_ne false (fun h=>e' h.symm)] at hj
      exact r7 j u hu hj e he1 he2
    by_cases e2 : e.on=i
    ·rw [e2];simp [hsz]
    ·rw [getD_set_ne false (fun h=>e2 h.symm)]
     exact key
  have hdep:=hst a w r6 (fun j hj=>by
   obtain ⟨e,he1,he2⟩:=Array.any_eq_true'.1 hj
   simp only [Bool.and_eq_true,beq_iff_eq] at he2
   have:=g2 e he1 he2.1
   rw [he2.2] at this
   exact r5 j this) (fun t ht=>by
   have:=r4 t (fun o ho'=>by simpa using List.all_eq_true.1 ht o ho')
   rw [eval_tmp,eval_tmp,this])
  unfold wpOp
  simp only [ho]
  rcases hdep with ⟨hw,h⟩ | ⟨hw,h⟩
  ·rw [if_pos hw]
   exact .inl (h _ hput)
  ·rw [if_neg (by rw [hw];simp)]
   exact hput _ _ h (hr _)
 ·intro listed a w ⟨r1,r2,r3,r4,r5,r6,_r7⟩ hrd
  have hall : ∀ n i,i < n→i < ops.size→listed.getD i false=true:=by
   intro n
   induction n with
   | zero=>intro i h;omega
   | succ n ih =>
    intro i hi his
    cases hli : listed.getD i true
    ·exfalso
     obtain ⟨o,ho⟩ : ∃ o,ops[i]? = some o:=⟨ops[i],by simp [his]⟩
     have : i ∈ Region.ready .any ops listed:=mem_ready.2 ⟨hli,o,ho,fun e he1 he2=>by
      have:=hafter i o ho e he1 he2
      exact ih _ (by omega) (by omega)⟩
     rw [hrd] at this
     cases this
    ·have hsz : i < listed.size:=by rw [r1];exact his
     simpa [hsz] using hli
  have : putAll (fun i=>slotV ops a i) ops.toList 0 a0=a:=by
   have e1 : (putAll (fun i=>slotV ops a i) ops.toList 0 a0).tmps=a.tmps:=by
    apply Array.ext_getElem?
    intro t
    by_cases hx : ∃ o ∈ ops.toList,o.dst=some t
    ·obtain ⟨o,hom,hd⟩:=hx
     obtain ⟨i,hi⟩:=List.mem_iff_getElem?.1 hom
     have ho : ops[i]? = some o:=by rw [← Array.getElem?_toList];exact hi
     have hdn:=hdst i o t ho hd
     rw [putAll_fm _ ops.toList 0 a0 i o h2 hi hd hdn,Nat.zero_add]
     unfold slotV
     rw [ho]
     simp only [hd]
     show some (a.eval (.tmp t))=_
     rw [eval_tmp,Array.getElem?_eq_getElem (by rw [r3];exact hdn)]
     rfl
    ·have hx' : ∀ o ∈ ops.toList,o.dst≠some t:=fun o h1 h2=>hx ⟨o,h1,h2⟩
     rw [putAll_ne _ _ _ _ hx',r4 t hx']
   have e2:=putAll_def (fun i=>slotV ops a i) ops.toList 0 a0
   rw [← r2] at e2
   cases a
   cases hp : putAll (fun i=>_) ops.toList 0 a0
   simp_all
  exact he (fun i=>slotV ops a i) a w this.symm r6 (fun i hi=>r5 i (hall _ i (Nat.lt_succ_self i) hi)) (fun i=>rfl)
 ·refine ⟨by simp,rfl,rfl,fun _ _=>rfl,fun i hi => ?_,hr _,fun i o _ hi => ?_⟩ <;> (exfalso;by_cases h : i < ops.size <;> simp [h] at hi)
end
end Go.Proofs.YtoanoodfacmieaaDoor

/- Worlds that differ in new blocks and in the contents of fresh variables of one type. -/
namespace Go.Proofs.YtoanoodfacmieaaDoor
set_option maxRecDepth 100000
open Go.RowKit
def BoxT (T : TypeId) (n : Nat) (w : World) (b : Nat) : Prop := ∃ vs : Array Value,vs.size=n∧Box w b T vs
structure BxR (N : Nat) (T : TypeId) (n : Nat) (w w' : World) : Prop where
 os : w'.os=w.os
 tape : w'.tape=w.tape
 output : w'.output=w.output
 size : w.heap.size≤w'.heap.size
 block : ∀ b,b < w.heap.size→w'.heap[b]? = w.heap[b]? ∨ (N≤b∧BoxT T n w b∧BoxT T n w' b)
section
variable {N n : Nat} {T : TypeId} {w w' w'' : World}
theorem BxR.refl (w : World) : BxR N T n w w:=⟨rfl,rfl,rfl,Nat.le_refl _,fun _ _ => .inl rfl⟩
theorem BoxT.lt {b : Nat} (h : BoxT T n w b) : b < w.heap.size:=by
 obtain ⟨vs,-,h⟩:=h
 exact h.lt
theorem BxR.boxT {b : Nat} (h : BxR N T n w w') (hb : BoxT T n w b) : BoxT T n w' b:=by
 rcases h.block b hb.lt with h1 | ⟨-,-,h1⟩
 ·obtain ⟨vs,h2,h3⟩:=hb
  exact ⟨vs,h2,h1.trans h3⟩
 ·exact h1
theorem BxR.trans (h : BxR N T n w w') (k : BxR N T n w' w'') : BxR N T n w w'':=by
 refine ⟨k.os.trans h.os,k.tape.trans h.tape,k.output.trans h.output,Nat.le_trans h.size k.size,fun b hb => ?_⟩
 rcases k.block b (Nat.lt_of_lt_of_le hb h.size) with k1 | ⟨k1,k2,k3⟩
 ·rcases h.block b hb with h1 | ⟨h1,h2,h3⟩
  ·exact .inl (k1.trans h1)
  ·refine .inr ⟨h1,h2,?_⟩
   obtain ⟨vs,e1,e2⟩:=h3
   exact ⟨vs,e1,k1.trans e2⟩
 ·rcases h.block b hb with h1 | ⟨h1,h2,h3⟩
  ·refine .inr ⟨k1,?_,k3⟩
   obtain ⟨vs,e1,e2⟩:=k2
   exact ⟨vs,e1,h1.symm.trans e2⟩
  ·exact .inr ⟨h1,h2,k3⟩
theorem BxR.of_ext (h : Ext w w') : BxR N T n w w':=⟨h.os,h.tape,h.output,h.size,fun _ hb => .inl (h.blk hb)⟩
theorem BxR.to_ext (h : BxR N T n w w') (hN : w.heap.size≤N) : Ext w w':=⟨h.os,h.tape,h.output,h.size,fun b hb=>by rcases h.block b hb with h1 | ⟨h1,-,-⟩;exact h1;omega⟩
theorem BxR.set {b : Nat} (hb : BoxT T n w b) (hN : N≤b) (j : Nat) (u : Value) : BxR N T n w (w.setCell ⟨b,j,none⟩ u):=by
 have hE:=ExtBut.setCell w ⟨b,j,none⟩ u
 refine ⟨hE.os,hE.tape,hE.output,hE.size,fun c hc => ?_⟩
 by_cases e : c=b
 ·subst e
  obtain ⟨vs,h1,h2⟩:=hb
  exact .inr ⟨hN,⟨vs,h1,h2⟩,⟨_,by simpa using h1,h2.set j u⟩⟩
 ·exact .inl (hE.block c hc e)
theorem Sl.bxr {k m : Nat} {v : Value} {xs : List Value} (h : Sl w k v m xs) (hx : n < xs.length) (hR : BxR N T n w w') : Sl w' k v m xs:=by
 obtain ⟨h1,a,cap,h2,h3,h4,h5,h6⟩:=h
 obtain ⟨b,off,rfl,hc0⟩:=h6 n _ (List.getElem?_eq_getElem hx)
 have hb:=World.block_lt_of_cell? _ _ hc0
 have hsame : w'.heap[b]? = w.heap[b]? := by
  rcases hR.block b hb with h7 | ⟨-,⟨vs,e1,e2⟩,-⟩
  ·exact h7
  ·exfalso
   rw [e2.cell,Array.getElem?_eq_none (by omega)] at hc0
   cases hc0
 refine ⟨h1,_,cap,h2,h3,h4,h5,fun j u hj => ?_⟩
 obtain ⟨b',off',e,hc⟩:=h6 j u hj
 cases e
 exact ⟨b,off,rfl,by rw [← hc];exact World.cell?_of_block hsame⟩
end
structure BxX (N : Nat) (T : TypeId) (n : Nat) (X : World→Array Value→Prop) (w w' : World) : Prop where
 os : w'.os=w.os
 tape : w'.tape=w.tape
 output : w'.output=w.output
 size : w.heap.size≤w'.heap.size
 block : ∀ b,b < w.heap.size→w'.heap[b]? = w.heap[b]? ∨ (N≤b∧BoxT T n w b ∧ ∃ vs,vs.size=n∧Box w' b T vs∧X w' vs)
section
variable {N n : Nat} {T : TypeId} {X : World→Array Value→Prop} {w w' w'' : World}
theorem BxX.refl (w : World) : BxX N T n X w w:=⟨rfl,rfl,rfl,Nat.le_refl _,fun _ _ => .inl rfl⟩
theorem BxX.rel (h : BxX N T n X w w') : BxR N T n w w':=⟨h.os,h.tape,h.output,h.size,fun b hb=>(h.block b hb).imp id fun ⟨h1,h2,vs,h3,h4,_⟩=>⟨h1,h2,vs,h3,h4⟩⟩
theorem BxX.trans (hX : ∀ w w' vs,X w vs→BxR N T n w w'→X w' vs) (h : BxX N T n X w w') (k : BxX N T n X w' w'') : BxX N T n X w w'':=by
 refine ⟨k.os.trans h.os,k.tape.trans h.tape,k.output.trans h.output,Nat.le_trans h.size k.size,fun b hb => ?_⟩
 rcases k.block b (Nat.lt_of_lt_of_le hb h.size) with k1 | ⟨k1,k2,k3⟩
 ·rcases h.block b hb with h1 | ⟨h1,h2,vs,h3,h4,h5⟩
  ·exact .inl (k1.trans h1)
  ·exact .inr ⟨h1,h2,vs,h3,k1.trans h4,hX _ _ _ h5 k.rel⟩
 ·rcases h.block b hb with h1 | ⟨h1,h2,-⟩
  ·refine .inr ⟨k1,?_,k3⟩
   obtain ⟨vs,e1,e2⟩:=k2
   exact ⟨vs,e1,h1.symm.trans e2⟩
  ·exact .inr ⟨h1,h2,k3⟩
theorem BxX.of_ext (h : Ext w w') : BxX N T n X w w':=⟨h.os,h.tape,h.output,h.size,fun _ hb => .inl (h.blk hb)⟩
theorem BxX.to_ext (h : BxX N T n X w w') (hN : w.heap.size≤N) : Ext w w':=h.rel.to_ext hN
theorem BxX.but {b : Nat} (hE : ExtBut (· = b) w w') (hb : BoxT T n w b) (hN : N≤b) {vs : Array Value} (hs : vs.size=n) (hB : Box w' b T vs) (hX : X w' vs) : BxX N T n X w w' :=
 ⟨hE.os,hE.tape,hE.output,hE.size,fun c hc=>by
  by_cases e : c=b
  ·subst e;exact .inr ⟨hN,hb,vs,hs,hB,hX⟩
  ·exact .inl (hE.block c hc e)⟩
def PrR.up {N n : Nat} {T : TypeId} {X : World→Array Value→Prop} (q : PrR (BxR N T n)) : PrR (BxX N T n X):=⟨q.p,fun v w w' h hR=>q.m v w w' h hR.rel⟩
end
def PrRB (N : Nat) (T : TypeId) (n : Nat) : PrR (BxR N T n):=⟨fun v w => ∃ b,v = .pointer (some ⟨b,0,none⟩)∧N≤b∧BoxT T n w b,fun _ _ _ ⟨b,h1,h2,h3⟩ hR=>⟨b,h1,h2,hR.boxT h3⟩⟩
end Go.Proofs.YtoanoodfacmieaaDoor
