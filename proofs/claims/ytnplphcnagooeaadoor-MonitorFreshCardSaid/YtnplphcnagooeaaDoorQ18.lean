/- Several texts in one: MonY, MonZ, BoxS. -/
import Derived.Test.YtnplphcnagooeaaDoorQ11
import Derived.Test.YtnplphcnagooeaaDoorQ17
import Derived.Test.YtnplphcnagooeaaDoorQ09
/- Plain laws of stacks that are accessed: what is left has the tags and calls that were there; the newest item grants; no program in sight. -/
namespace Go.Proofs.YtnplphcnagooeaaDoor
set_option maxRecDepth 100000
open Go.RowKit
theorem eachGo_ne {f : List Item→List Item × Int × Int} {num : Int} {cells : List (List Item)} {y : Stk} : ∀ (m j : Nat) (out : List (List Item)) (why : Int),why≠0→eachGo f num cells m j out why=(y,0,0)→False
 | 0,_,_,why,h0,h=>by rw [eachGo_why h0] at h;simp only [Prod.mk.injEq] at h;exact h0 h.2.1
 | m+1,j,out,why,h0,h=>by
  unfold eachGo at h
  split at h
  ·(try rw [if_neg h0] at h);exact eachGo_ne m _ _ why h0 h
  ·rename_i hn;simp only [Prod.mk.injEq] at h;exact hn h.2.2
theorem eachGo_shape {f : List Item→List Item × Int × Int} {num : Int} {cells : List (List Item)} {y : Stk} : ∀ (m j : Nat) (out : List (List Item)),j+m≤cells.length→out.length=cells.length→eachGo f num cells m j out 0=(y,0,0) →
  y.num=num∧y.cells.length=cells.length ∧ ∀ (i : Nat) (p : List Item),cells[i]? = some p→(j≤i∧i < j+m → ∃ q,f p=(q,0,0)∧y.cells[i]? = some q)∧(¬ (j≤i∧i < j+m)→y.cells[i]? = out[i]?)
 | 0,j,out,_,hl,h=>by
  rw [eachGo_end] at h
  simp only [Prod.mk.injEq,and_true] at h
  subst h
  exact ⟨rfl,hl,fun i p _=>⟨fun h=>by omega,fun _=>rfl⟩⟩
 | m+1,j,out,hj,hl,h=>by
  obtain ⟨x,hx⟩ : ∃ x,cells[j]? = some x:=⟨cells[j]'(by omega),by simp⟩
  obtain ⟨⟨s,v,e⟩,hf⟩ : ∃ z,f x=z:=⟨_,rfl⟩
  by_cases he : e=0
  ·subst he
   rw [eachGo_ok hx hf,if_pos rfl] at h
   by_cases hv : v=0
   ·subst hv
    obtain ⟨h1,h2,h3⟩:=eachGo_shape m (j+1) (out.set j s) (by omega) (by simpa using hl) h
    refine ⟨h1,h2,fun i p hp => ?_⟩
    obtain ⟨k1,k2⟩:=h3 i p hp
    refine ⟨fun hi => ?_,fun hi => ?_⟩
    ·by_cases e : i=j
     ·subst e
      rw [hx] at hp
      cases hp
      refine ⟨s,hf,?_⟩
      rw [k2 (by omega),List.getElem?_set_self (by omega)]
     ·exact k1 (by omega)
    ·rw [k2 (by omega),List.getElem?_set_ne (by omega)]
   ·exact absurd h (fun h=>eachGo_ne _ _ _ _ hv h)
  ·rw [eachGo_bad hx hf he] at h
   simp only [Prod.mk.injEq] at h
   exact absurd h.2.2 he
theorem eachGo_all {f : List Item→List Item × Int × Int} {num : Int} {cells : List (List Item)} : ∀ (m j : Nat) (out : List (List Item)),j+m≤cells.length→(∀ (i : Nat) (p : List Item),j≤i→i < j+m→cells[i]? = some p → ∃ q,f p=(q,0,0)) → ∃ y,eachGo f num cells m j out 0=(y,0,0)
 | 0,_,_,_,_=>⟨_,eachGo_end⟩
 | m+1,j,out,hj,h=>by
  obtain ⟨x,hx⟩ : ∃ x,cells[j]? = some x:=⟨cells[j]'(by omega),by simp⟩
  obtain ⟨q,hq⟩:=h j x (Nat.le_refl _) (by omega) hx
  rw [eachGo_ok hx hq,if_pos rfl]
  exact eachGo_all m (j+1) _ (by omega) fun i p h1 h2 hp=>h i p (by omega) (by omega) hp
theorem okK_item {x : Stk} (h : okK x=true) {i : Nat} {p : List Item} (hp : x.cells[i]? = some p) : okS p=true:=by
 unfold okK at h
 simp only [Bool.and_eq_true] at h
 exact List.all_eq_true.1 h.2 p (List.mem_of_getElem? hp)
theorem ask33_in {x : Stk} {a n : Int} {run : List Int} (h : ask33 x a n run=0) : okR run=true∧okK x=true∧0≤a∧1≤n∧a+n≤x.cells.length:=by
 unfold ask33 at h
 split at h
 ·split at h
  ·split at h
   ·rename_i h1 h2 h3;unfold inR33 at h3;exact ⟨h1,h2,by omega,by omega,by omega⟩
   ·omega
  ·omega
 ·omega
theorem ask33_of {x : Stk} {a n : Int} {run : List Int} (hr : okR run=true) (hk : okK x=true) (h0 : 0≤a) (h1 : 1≤n) (h2 : a+n≤x.cells.length) : ask33 x a n run=0:=by
 rw [ask33,if_pos hr,if_pos hk,if_pos (by unfold inR33;omega)]
def itsB (P : Int→Int→Prop) (s : List Item) : Prop := ∀ it ∈ s,P it.t it.c
theorem useR_in {l s : List Item} {tag : Int} {b : Bool} {run : List Int} {P : Int→Int→Prop} (hok : okS l=true) (hP : itsB P l) (h : useR l tag b run=(s,0,0)) : okS s=true∧itsB P s:=by
 by_cases hr : okR run=true
 ·rcases useR_valid (tag:=tag) (write:=b) hr hok with ⟨-,h1⟩ | ⟨i,hf,h1 | ⟨h1,-⟩⟩
  ·rw [h1] at h;simp at h
  ·rw [h1] at h;simp at h
  ·rw [h1] at h
   simp only [Prod.mk.injEq,and_true] at h
   subst h
   refine ⟨useLeft_ok hok,fun y hy => ?_⟩
   rcases useLeft_mem hy with h2 | ⟨x,h2,-,rfl⟩
   ·exact hP y h2
   ·exact hP x h2
 ·rw [useR,if_neg hr] at h;simp at h
theorem retagR_zero {l s g : List Item} {k old : Int} {x : Item} (h : retagR l k old x=(s,g,0,0)) : okS l=true∧kindOk k=true∧argOk x=true ∧ ∃ i,findAt l old (writesOf k)=some i∧(useLeft l i (writesOf k)).length < 600∧s=useLeft l i (writesOf k) ++ [⟨permOf k,x.t,x.c⟩]:=by
 cases hok : okS l
 ·rw [retagR_bad hok] at h;simp at h
 by_cases ha : (kindOk k && argOk x)=true
 ·have hk:=ha
  simp only [Bool.and_eq_true] at hk
  rcases findAt_cases l old (writesOf k) with ⟨i,hf⟩ | hf
  ·have hw : usedW l old (writesOf k)=0:=by rw [usedW,hf]
   have hu : usedL l old (writesOf k)=useLeft l i (writesOf k):=by rw [usedL,hf]
   by_cases hl : (usedL l old (writesOf k)).length=600
   ·rw [retagR_full hok ha hw hl] at h;simp at h
   ·rw [retagR_yes hok ha hw hl] at h
    simp only [Prod.mk.injEq,and_true] at h
    have h9:=useLeft_ok (i:=i) (write:=writesOf k) hok
    unfold okS at h9
    simp only [Bool.and_eq_true,decide_eq_true_eq] at h9
    rw [hu] at hl h
    exact ⟨rfl,hk.1,hk.2,i,hf,by omega,h.1.symm⟩
  ·have hw : usedW l old (writesOf k)=1:=by rw [usedW,hf]
   rw [retagR_no hok ha (by rw [hw];decide),hw] at h
   simp at h
 ·rw [retagR_arg hok (by simpa using ha)] at h;simp at h
theorem tagR_in {l s : List Item} {k old : Int} {it : Item} {run : List Int} {P : Int→Int→Prop} (hP : itsB P l) (hi : P it.t it.c) (h : tagR l k old it run=(s,0,0)) : okS s=true∧itsB P s∧kindOk k=true ∧ ∃ U,s=U ++ [⟨permOf k,it.t,it.c⟩]:=by
 by_cases hr : okR run=true
 ·rw [tagR,if_pos hr] at h
  obtain ⟨⟨s',g',w',e'⟩,hq⟩ : ∃ z,retagR l k old it=z:=⟨_,rfl⟩
  rw [hq] at h
  dsimp only at h
  unfold toldR' at h
  split at h
  ·simp at h
  ·simp only [Prod.mk.injEq] at h
   obtain ⟨rfl,rfl,rfl⟩:=h
   obtain ⟨h1,h2,h3,i,hf,h4,rfl⟩:=retagR_zero hq
   have hu:=useLeft_ok (i:=i) (write:=writesOf k) h1
   refine ⟨?_,fun y hy => ?_,h2,_,rfl⟩
   ·unfold okS at hu ⊢
    simp only [Bool.and_eq_true,decide_eq_true_eq,List.all_append,List.all_cons,List.all_nil,Bool.and_true,List.length_append,List.length_cons,List.length_nil] at hu ⊢
    refine ⟨by omega,hu.2,?_⟩
    have hp:=permOf_ok k
    unfold argOk at h3
    simp only [Bool.and_eq_true] at h3
    unfold Item.ok
    simp only [Bool.and_eq_true,Bool.or_eq_true,beq_iff_eq]
    exact ⟨⟨by omega,h3.1.2⟩,h3.2⟩
   ·rcases List.mem_append.1 hy with h5 | h5
    ·rcases useLeft_mem h5 with h6 | ⟨x,h6,-,rfl⟩
     ·exact hP y h6
     ·exact hP x h6
    ·obtain rfl:=List.mem_singleton.1 h5
     exact hi
 ·rw [tagR,if_neg hr] at h;simp at h
theorem useR_top {U : List Item} {it : Item} {b : Bool} {run : List Int} (hr : okR run=true) (hok : okS (U ++ [it])=true) (hg : b=false∨it.p≠4) : ∃ s,useR (U ++ [it]) it.t b run=(s,0,0):=by
 have hl : (U ++ [it])[U.length]? = some it:=by simp
 have hf : findAt (U ++ [it]) it.t b=some U.length:=findAt_some hl (by unfold grants;rcases hg with rfl | hg <;> simp [*]) fun j y hj hy=>by
  have:=(List.getElem?_eq_some_iff.1 hy).1
  simp at this
  omega
 have hgone : useGone (U ++ [it]) U.length b=[]:=by
  unfold useGone
  rw [List.drop_of_length_le (by simp)]
  cases b <;> rfl
 rcases useR_valid (tag:=it.t) (write:=b) hr hok with ⟨h0,-⟩ | ⟨i,hf',h1 | ⟨h1,-⟩⟩
 ·rw [hf] at h0;cases h0
 ·exfalso
  unfold useR at h1
  rw [if_pos hr] at h1
  simp only [accL,accG,accW,hok,if_true,chk,usedL,usedG,usedW,hf,hgone] at h1
  rw [toldR'_no (by simp [firstR])] at h1
  simp at h1
 ·exact ⟨_,h1⟩
theorem use33_in {x y : Stk} {a n tag : Int} {b : Bool} {run : List Int} {P : Int→Int→Prop} (hP : ∀ s ∈ x.cells,itsB P s) (h : use33 x a n tag b run=(y,0,0)) : y.num=x.num∧y.cells.length=x.cells.length∧okK y=true ∧ ∀ s ∈ y.cells,itsB P s:=by
 unfold use33 at h
 split at h
 ·rename_i h0
  obtain ⟨h1,h2,h3,h4,h5⟩:=ask33_in h0
  obtain ⟨k1,k2,k3⟩:=eachGo_shape n.toNat a.toNat x.cells (by omega) rfl h
  have key : ∀ s ∈ y.cells,okS s=true∧itsB P s:=by
   intro s hs
   obtain ⟨i,hi⟩:=List.mem_iff_getElem?.1 hs
   have hlt:=(List.getElem?_eq_some_iff.1 hi).1
   obtain ⟨p,hp⟩ : ∃ p,x.cells[i]? = some p:=⟨x.cells[i]'(by omega),by simp⟩
   have hokp:=okK_item h2 hp
   have hPp:=hP p (List.mem_of_getElem? hp)
   obtain ⟨j1,j2⟩:=k3 i p hp
   by_cases hin : a.toNat≤i∧i < a.toNat+n.toNat
   ·obtain ⟨q,hq,hy⟩:=j1 hin
    rw [hi] at hy
    cases hy
    exact useR_in hokp hPp hq
   ·rw [j2 hin,hp] at hi
    cases hi
    exact ⟨hokp,hPp⟩
  refine ⟨k1,k2,?_,fun s hs=>(key s hs).2⟩
  unfold okK at h2 ⊢
  simp only [Bool.and_eq_true,decide_eq_true_eq] at h2 ⊢
  rw [k1,k2]
  exact ⟨h2.1,List.all_eq_true.2 fun s hs=>(key s hs).1⟩
 ·rename_i hn;simp only [Prod.mk.injEq] at h;exact absurd h.2.2 hn
theorem tag33_in {x y : Stk} {a n k old : Int} {it : Item} {run : List Int} {P P' : Int→Int→Prop} (hPP : ∀ t c,P t c→P' t c) (hP : ∀ s ∈ x.cells,itsB P s) (hi : P' it.t it.c) (h : tag33 x a n k old it run=(y,0,0)) :
  y.num=x.num∧y.cells.length=x.cells.length∧okK y=true∧(∀ s ∈ y.cells,itsB P' s)∧kindOk k=true∧okR run=true∧0≤a∧1≤n∧a+n≤x.cells.length ∧ ∀ (i : Nat) (s : List Item),a.toNat≤i→i < a.toNat+n.toNat→y.cells[i]? = some s → ∃ U,s=U ++ [⟨permOf k,it.t,it.c⟩]:=by
 unfold tag33 at h
 split at h
 ·rename_i h0
  obtain ⟨h1,h2,h3,h4,h5⟩:=ask33_in h0
  split at h
  ·rename_i hk
   obtain ⟨k1,k2,k3⟩:=eachGo_shape n.toNat a.toNat x.cells (by omega) rfl h
   have hP' : ∀ s ∈ x.cells,itsB P' s:=fun s hs it hit=>hPP _ _ (hP s hs it hit)
   have key : ∀ (i : Nat) (s : List Item),y.cells[i]? = some s→(okS s=true∧itsB P' s)∧(a.toNat≤i→i < a.toNat+n.toNat → ∃ U,s=U ++ [⟨permOf k,it.t,it.c⟩]):=by
    intro i s hs
    have hlt:=(List.getElem?_eq_some_iff.1 hs).1
    obtain ⟨p,hp⟩ : ∃ p,x.cells[i]? = some p:=⟨x.cells[i]'(by omega),by simp⟩
    have hokp:=okK_item h2 hp
    have hPp:=hP' p (List.mem_of_getElem? hp)
    obtain ⟨j1,j2⟩:=k3 i p hp
    by_cases hin : a.toNat≤i∧i < a.toNat+n.toNat
    ·obtain ⟨q,hq,hy⟩:=j1 hin
     rw [hs] at hy
     cases hy
     obtain ⟨q1,q2,-,q4⟩:=tagR_in hPp hi hq
     exact ⟨⟨q1,q2⟩,fun _ _=>q4⟩
    ·rw [j2 hin,hp] at hs
     cases hs
     exact ⟨⟨hokp,hPp⟩,fun h1 h2=>absurd ⟨h1,h2⟩ hin⟩
   refine ⟨k1,k2,?_,fun s hs => ?_,hk,h1,h3,h4,h5,fun i s h6 h7 h8=>(key i s h8).2 h6 h7⟩
   ·unfold okK at h2 ⊢
    simp only [Bool.and_eq_true,decide_eq_true_eq] at h2 ⊢
    rw [k1,k2]
    refine ⟨h2.1,List.all_eq_true.2 fun s hs => ?_⟩
    obtain ⟨i,hi⟩:=List.mem_iff_getElem?.1 hs
    exact (key i s hi).1.1
   ·obtain ⟨i,hi⟩:=List.mem_iff_getElem?.1 hs
    exact (key i s hi).1.2
  ·simp at h
 ·rename_i hn;simp only [Prod.mk.injEq] at h;exact absurd h.2.2 hn
theorem use33_top {y : Stk} {a n : Int} {b : Bool} {it : Item} {run : List Int} (hr : okR run=true) (hk : okK y=true) (h0 : 0≤a) (h1 : 1≤n) (h2 : a+n≤y.cells.length)
  (ht : ∀ (i : Nat) (s : List Item),a.toNat≤i→i < a.toNat+n.toNat→y.cells[i]? = some s → ∃ U,s=U ++ [it]) (hg : b=false∨it.p≠4) : ∃ z,use33 y a n it.t b run=(z,0,0):=by
 rw [use33,if_pos (ask33_of hr hk h0 h1 h2)]
 refine eachGo_all _ _ _ (by omega) fun i p h3 h4 hp => ?_
 obtain ⟨U,rfl⟩:=ht i p h3 h4 hp
 exact useR_top hr (okK_item hk hp) hg
end Go.Proofs.YtnplphcnagooeaaDoor

/- Plain laws of monitors: what Alloc, Load, Store and Retag leave is valid; a new pointer may be used; no program in sight. -/
namespace Go.Proofs.YtnplphcnagooeaaDoor
set_option maxRecDepth 100000
open Go.RowKit
theorem MonOk.ok {m : Mon} (h : MonOk m) : okMon m=true:=(okMon_iff m).2 h
theorem MonOk.setrow {m : Mon} {i : Nat} {st y : Stk} {al : Alloc} {tag : Int} {x : Mem} (h : MonOk m) (hst : m.stks[i]? = some st) (hal : m.mem.al[i]? = some al) (hlv : al.live=true) (hn : y.num=st.num) (hl : y.cells.length=st.cells.length) (hk : okK y=true)
  (hits : ∀ s ∈ y.cells,itsB (fun t c=>t < tag∧c < m.call) s) (ht : m.tag≤tag∧tag≤1000000) (hx : x.ok=true) (hxl : x.al.length=m.mem.al.length)
  (hr : ∀ (j : Nat) (b : Alloc),x.al[j]? = some b → ∃ a,m.mem.al[j]? = some a∧b.num=a.num∧b.cells.length=a.cells.length∧b.live=a.live) : MonOk ⟨x,m.stks.set i y,m.run,tag,m.call⟩:=by
 have h1:=h.tag
 refine ⟨hx,by simp [hxl,h.len],⟨by dsimp only;omega,ht.2⟩,h.call,h.run,h.last,fun j z b hz hb => ?_⟩
 obtain ⟨a,ha,e1,e2,e3⟩:=hr j b hb
 by_cases e : i=j
 ·subst e
  have hi:=(List.getElem?_eq_some_iff.1 hst).1
  have hz' : (m.stks.set i y)[i]? = some z:=hz
  rw [List.getElem?_set_self hi] at hz'
  cases hz'
  rw [hal] at ha
  cases ha
  obtain ⟨k1,k2,-,-⟩:=rowM_parts (h.row i st al hst hal)
  exact rowM_of (by rw [hn,k1,e1]) (by rw [hl,k2,e2]) hk fun s hs it hit=>⟨by rw [e3];exact hlv,hits s hs it hit⟩
 ·have hz' : (m.stks.set i y)[j]? = some z:=hz
  rw [List.getElem?_set_ne e] at hz'
  obtain ⟨k1,k2,k3,k4⟩:=rowM_parts (h.row j z a hz' ha)
  exact rowM_of (by rw [k1,e1]) (by rw [k2,e2]) k3 fun s hs it hit=>by
   obtain ⟨j1,j2,j3⟩:=k4 s hs it hit
   exact ⟨by rw [e3];exact j1,by dsimp only;omega,j3⟩
theorem MonOk.range {m : Mon} {p : Ptr} {n : Int} {i : Nat} {al : Alloc} (h : MonOk m) (hask : askR m.mem p n=(some i,0)) (hal : m.mem.al[i]? = some al) : ∃ st,m.stks[i]? = some st∧okK st=true∧0≤p.o∧1≤n∧n≤2∧p.o+n≤st.cells.length∧st.cells.length=al.cells.length ∧ ∀ s ∈ st.cells,itsB (fun t c=>t < m.tag∧c < m.call) s:=by
 obtain ⟨-,-,-,-,h1,h2,-,x,hx,h3,h4⟩:=askR_inv hask
 rw [hal] at hx
 cases hx
 obtain ⟨st,a,hst,ha,hrow⟩:=h.stk (i:=i) (List.getElem?_eq_some_iff.1 hal).1
 rw [hal] at ha
 cases ha
 obtain ⟨k1,k2,k3,k4⟩:=rowM_parts hrow
 exact ⟨st,hst,k3,h3,h1,h2,by rw [k2];exact h4,k2,fun s hs it hit=>(k4 s hs it hit).2⟩
theorem eachGo_err {f : List Item→List Item × Int × Int} {num : Int} {cells : List (List Item)} : ∀ (m j : Nat) (out : List (List Item)) (why : Int),j+m≤cells.length→(∀ (i : Nat) (p : List Item),j≤i→i < j+m→cells[i]? = some p→(f p).2.2=0)→(eachGo f num cells m j out why).2.2=0
 | 0,j,out,why,_,_=>by unfold eachGo;split <;> rfl
 | m+1,j,out,why,hj,h=>by
  obtain ⟨x,hx⟩ : ∃ x,cells[j]? = some x:=⟨cells[j]'(by omega),by simp⟩
  have h0:=h j x (Nat.le_refl _) (by omega) hx
  rw [eachGo_ok hx (s:=(f x).1) (v:=(f x).2.1) (by rw [← h0])]
  exact eachGo_err m (j+1) _ _ (by omega) fun i p h1 h2 hp=>h i p (by omega) (by omega) hp
theorem use33_err {x : Stk} {a n tag : Int} {b : Bool} {run : List Int} (hr : okR run=true) (hk : okK x=true) (h0 : 0≤a) (h1 : 1≤n) (h2 : a+n≤x.cells.length) : (use33 x a n tag b run).2.2=0:=by
 rw [use33,if_pos (ask33_of hr hk h0 h1 h2)]
 exact eachGo_err _ _ _ _ (by omega) fun i p _ _ hp=>(useR_err hr (okK_item hk hp)).1
theorem putRow {m : Mem} {i o : Nat} {a : Alloc} {l : List Cell} (ha : m.al[i]? = some a) (ho : o+l.length≤a.cells.length) : ∀ (j : Nat) (b : Alloc),(m.al.set i (putCells a o l))[j]? = some b → ∃ a',m.al[j]? = some a'∧b.num=a'.num∧b.cells.length=a'.cells.length∧b.live=a'.live:=by
 intro j b hb
 by_cases e : i=j
 ·subst e
  rw [List.getElem?_set_self (List.getElem?_eq_some_iff.1 ha).1] at hb
  cases hb
  exact ⟨a,ha,rfl,put_len ho,rfl⟩
 ·rw [List.getElem?_set_ne e] at hb
  exact ⟨b,hb,rfl,rfl,rfl⟩
theorem storeM_inv {m x : Mon} {p : Ptr} {l : List Cell} (h : storeM m p l=(x,0,0)) : okMon m=true∧storeR m.mem p l=(x.mem,0,0)∧okMon x=true∧x.tag=m.tag∧x.call=m.call∧x.run=m.run:=by
 cases hok : okMon m
 ·rw [storeM_bad hok] at h;simp at h
 obtain ⟨⟨y,un,er⟩,hsd⟩ : ∃ z,storeR m.mem p l=z:=⟨_,rfl⟩
 by_cases he : er=0
 ·subst he
  by_cases hu : un=0
  ·subst hu
   obtain ⟨i,al,hat,hal,hlv,-,hask,hlok,rfl⟩:=store_ways hsd
   have hM:=MonOk.of hok
   obtain ⟨st,hst,hk,h0,h1,h2,h3,h4,hP⟩:=hM.range hask hal
   obtain ⟨⟨z,why,e4⟩,hd⟩ : ∃ z,use33 st p.o (l.length : Int) p.t true m.run=z:=⟨_,rfl⟩
   have he:=use33_err (tag:=p.t) (b:=true) hM.run hk h0 h1 h3
   rw [hd] at he
   dsimp only at he
   subst he
   rw [storeM_live hok hsd hat hst hd] at h
   split at h
   ·rename_i hw
    subst hw
    simp only [Prod.mk.injEq,and_true] at h
    subst h
    obtain ⟨k1,k2,k3,k4⟩:=use33_in hP hd
    have ho : p.o.toNat+l.length≤al.cells.length:=by omega
    exact ⟨rfl,hsd,(hM.setrow hst hal hlv k1 k2 k3 k4 ⟨Int.le_refl _,hM.tag.2⟩ (ok_put hM.memOk hal hlv ho hlok) (by simp) (putRow hal ho)).ok,rfl,rfl,rfl⟩
   ·rename_i hw;simp only [Prod.mk.injEq] at h;exact absurd h.2.1 hw
  ·rw [storeM_err hok hsd (.inr hu)] at h;simp only [Prod.mk.injEq] at h;exact absurd h.2.1 hu
 ·rw [storeM_err hok hsd (.inl he)] at h;simp only [Prod.mk.injEq] at h;exact absurd h.2.2 he
theorem retagM_inv {m x : Mon} {p r : Ptr} {n kind call : Int} (h : retagM m p n kind call=(x,r,0,0)) (hc : call=0) : okMon m=true∧kindOk kind=true∧okMon x=true∧r=⟨p.a,p.o,m.tag⟩∧x.tag=m.tag+1∧x.mem=m.mem∧x.call=m.call∧x.run=m.run∧m.tag < 1000000∧1≤n∧n≤2 ∧
  ∃ i al y,askR m.mem p n=(some i,0)∧atNum m.mem.al p.a=some i∧m.mem.al[i]? = some al∧al.live=true∧x.stks[i]? = some y∧(∃ l un,loadR m.mem p n=(l,un,0)∧(un=0∨un=4)) ∧
   ∀ b,b=false∨permOf kind≠4 → ∃ z,use33 y p.o n m.tag b m.run=(z,0,0):=by
 cases hok : okMon m
 ·rw [retagM_bad hok] at h;simp at h
 by_cases hka : kindOk kind=true∧(call=0∨hasR m.run call=true)
 ·obtain ⟨⟨ll,un,er⟩,hld⟩ : ∃ z,loadR m.mem p n=z:=⟨_,rfl⟩
  by_cases he : er=0
  ·subst he
   by_cases ht : m.tag=1000000
   ·rw [retagM_full hok hka hld ht] at h;simp at h
   rcases load_ways hld with ⟨h1,-,-⟩ | ⟨-,rfl,-⟩ | ⟨-,hun,i,al,hat,hal,hlv,-,hask⟩
   ·exact absurd rfl h1
   ·rw [retagM_gone hok hka hld ht] at h;simp at h
   ·have hM:=MonOk.of hok
    obtain ⟨st,hst,hk,h0,h1,h2,h3,h4,hP⟩:=hM.range hask hal
    obtain ⟨⟨y,why,e4⟩,hd⟩ : ∃ z,tag33 st p.o n kind p.t ⟨0,m.tag,call⟩ m.run=z:=⟨_,rfl⟩
    rw [retagM_live hok hka hld ht (by rcases hun with e | e <;> rw [e] <;> decide) hat hst hd] at h
    split at h
    ·rename_i hw
     obtain ⟨rfl,rfl⟩:=hw
     simp only [Prod.mk.injEq,and_true] at h
     obtain ⟨rfl,rfl⟩:=h
     have htg:=hM.tag
     have hcl:=hM.call
     obtain ⟨k1,k2,k3,k4,k5,k6,k7,k8,k9,k10⟩:=tag33_in (P':=fun t c=>t < m.tag+1∧c < m.call) (fun t c h=>⟨by omega,h.2⟩) hP (show m.tag < m.tag+1∧call < m.call from ⟨by omega,by omega⟩) hd
     have hi:=(List.getElem?_eq_some_iff.1 hst).1
     refine ⟨rfl,hka.1,(hM.setrow hst hal hlv k1 k2 k3 k4 ⟨by omega,by omega⟩ hM.memOk rfl (fun j b hb=>⟨b,hb,rfl,rfl,rfl⟩)).ok,rfl,rfl,rfl,rfl,rfl,by omega,h1,h2,i,al,y,hask,hat,hal,hlv,List.getElem?_set_self hi,⟨ll,un,hld,hun⟩,fun b hb => ?_⟩
     exact use33_top (it:=⟨permOf kind,m.tag,call⟩) hM.run k3 h0 h1 (by omega) k10 hb
    ·rename_i hw;simp only [Prod.mk.injEq] at h;exact absurd ⟨h.2.2.2,h.2.2.1⟩ hw
  ·rw [retagM_err hok hka hld he] at h;simp only [Prod.mk.injEq] at h;exact absurd h.2.2.2 he
 ·rw [retagM_arg hok hka] at h;simp at h
theorem allocM_inv {m x : Mon} {q : Ptr} {size : Int} (h : allocM m size=(x,q,0)) : okMon m=true∧1≤size∧size≤2∧m.tag < 1000000∧m.mem.al.length < 400∧m.mem.next < 1000000∧q=⟨m.mem.next,0,m.tag⟩ ∧
  x=⟨⟨m.mem.al ++ [newAlloc m.mem.next size.toNat],m.mem.next+1⟩,m.stks ++ [⟨m.mem.next,based size.toNat m.tag⟩],m.run,m.tag+1,m.call⟩∧okMon x=true∧addR m.mem size=(⟨m.mem.al ++ [newAlloc m.mem.next size.toNat],m.mem.next+1⟩,m.mem.next,0):=by
 cases hok : okMon m
 ·rw [allocM_bad hok] at h;simp at h
 by_cases he : (addR m.mem size).2.2=0
 ·by_cases ht : m.tag=1000000
  ·rw [allocM_full hok he ht] at h;simp at h
  ·rw [allocM_ok hok he ht] at h
   obtain ⟨⟨x',n',e'⟩,hadd⟩ : ∃ z,addR m.mem size=z:=⟨_,rfl⟩
   rw [hadd] at h he
   dsimp only at he h
   subst he
   have hM:=MonOk.of hok
   obtain ⟨rfl,h1,h2,h3,h4,rfl,h5⟩:=addR_zero hM.memOk hadd
   simp only [Prod.mk.injEq,and_true] at h
   obtain ⟨rfl,rfl⟩:=h
   have htg:=hM.tag
   have hcl:=hM.call
   have hn1 : inB m.mem.next=true:=by unfold inB;simp;omega
   have ht1 : inB m.tag=true:=by unfold inB;simp;omega
   refine ⟨rfl,h1,h2,by omega,h4,h5,rfl,rfl,MonOk.ok ⟨ok_push hM.memOk (by omega) (by omega),by simp [hM.len],⟨by dsimp only;omega,by dsimp only;omega⟩,hM.call,hM.run,hM.last,fun j z b hz hb => ?_⟩,hadd⟩
   have hz' : (m.stks ++ [⟨m.mem.next,based size.toNat m.tag⟩])[j]? = some z:=hz
   have hb' : (m.mem.al ++ [newAlloc m.mem.next size.toNat])[j]? = some b:=hb
   by_cases hj : j < m.mem.al.length
   ·rw [List.getElem?_append_left (by rw [hM.len];exact hj)] at hz'
    rw [List.getElem?_append_left hj] at hb'
    obtain ⟨k1,k2,k3,k4⟩:=rowM_parts (hM.row j z b hz' hb')
    exact rowM_of k1 k2 k3 fun s hs it hit=>⟨(k4 s hs it hit).1,by have:=(k4 s hs it hit).2.1;dsimp only;omega,(k4 s hs it hit).2.2⟩
   ·have hlt:=(List.getElem?_eq_some_iff.1 hb').1
    simp at hlt
    obtain rfl : j=m.mem.al.length:=by omega
    rw [← hM.len] at hz'
    simp at hz' hb'
    subst hz' hb'
    refine rowM_of rfl (by rw [based_len];simp [newAlloc]) ?_ fun s hs it hit => ?_
    ·have hok2 : okS (baseOf m.tag)=true:=by
      unfold baseOf
      rw [if_pos ht1]
      simp [okS,Item.ok,ht1,show inB 0=true by decide]
     unfold okK based
     simp only [Bool.and_eq_true,decide_eq_true_eq,List.length_replicate,hn1]
     exact ⟨⟨⟨trivial,by omega⟩,by omega⟩,List.all_eq_true.2 fun s hs=>by rw [List.eq_of_mem_replicate hs];exact hok2⟩
    ·have e:=List.eq_of_mem_replicate hs
     subst e
     unfold baseOf at hit
     rw [if_pos ht1] at hit
     obtain rfl:=List.mem_singleton.1 hit
     exact ⟨rfl,by dsimp only;omega,by dsimp only;omega⟩
 ·rw [allocM_add hok he] at h;simp only [Prod.mk.injEq] at h;exact absurd h.2.2 he
theorem useR_base {t : Int} {b : Bool} {run : List Int} {s : List Item} (ht : inB t=true) (h : useR [⟨1,t,0⟩] t b run=(s,0,0)) : s=[⟨1,t,0⟩]:=by
 have hok : okS [⟨1,t,0⟩]=true:=by simp [okS,Item.ok,ht,show inB 0=true by decide]
 have hf : findAt [⟨1,t,0⟩] t b=some 0:=findAt_some (x:=⟨1,t,0⟩) rfl (by unfold grants;cases b <;> simp) fun j y hj hy=>by
  have:=(List.getElem?_eq_some_iff.1 hy).1
  simp at this
  omega
 by_cases hr : okR run=true
 ·rcases useR_valid (tag:=t) (write:=b) hr hok with ⟨-,h1⟩ | ⟨i,hi,h1 | ⟨h1,-⟩⟩
  ·rw [h1] at h;simp at h
  ·rw [h1] at h;simp at h
  ·rw [hf] at hi
   cases hi
   rw [h1] at h
   simp only [Prod.mk.injEq,and_true] at h
   subst h
   cases b <;> simp [useLeft,actAt]
 ·rw [useR,if_neg hr] at h;simp at h
theorem based_get {size : Nat} {t : Int} (ht : inB t=true) {i : Nat} {s : List Item} (h : (based size t)[i]? = some s) : s=[⟨1,t,0⟩]:=by
 have e:=List.eq_of_mem_replicate (List.mem_of_getElem? h)
 unfold baseOf at e
 rw [if_pos ht] at e
 exact e
theorem alloc_fresh {m x : Mon} {q : Ptr} {size : Int} (h : allocM m size=(x,q,0)) : atNum m.mem.al q.a=none ∧ ∃ y z,storeM x q [⟨1,7,0,0,0⟩]=(y,0,0)∧loadM y q 1=(z,[⟨1,7,0,0,0⟩],0,0):=by
 obtain ⟨hok,h1,h2,h3,h4,h5,rfl,rfl,hx,-⟩:=allocM_inv h
 have hM:=MonOk.of hok
 have hX:=MonOk.of hx
 have hb:=ok_bounds hM.memOk
 have htg:=hM.tag
 have ht1 : inB m.tag=true:=by unfold inB;simp;omega
 have hlen:=hM.len
 have hnone : atNum m.mem.al m.mem.next=none:=by
  unfold atNum
  rw [List.findIdx?_eq_none_iff]
  intro a ha
  obtain ⟨j,hj⟩:=List.mem_iff_getElem?.1 ha
  have:=(okAl_at (ok_al hM.memOk) hj).2
  simp only [beq_eq_false_iff_ne]
  omega
 refine ⟨hnone,?_⟩
 have hal : (m.mem.al ++ [newAlloc m.mem.next size.toNat])[m.mem.al.length]? = some (newAlloc m.mem.next size.toNat):=by simp
 have hst : (m.stks ++ [⟨m.mem.next,based size.toNat m.tag⟩])[m.mem.al.length]? = some ⟨m.mem.next,based size.toNat m.tag⟩:=by rw [← hlen];simp
 have hat : atNum (m.mem.al ++ [newAlloc m.mem.next size.toNat]) m.mem.next=some m.mem.al.length:=atNum_at (x:=newAlloc m.mem.next size.toNat) (ok_al hX.memOk) hal
 have hcl : (newAlloc m.mem.next size.toNat).cells.length=size.toNat:=by simp [newAlloc]
 have hask : askR ⟨m.mem.al ++ [newAlloc m.mem.next size.toNat],m.mem.next+1⟩ ⟨m.mem.next,0,m.tag⟩ 1=(some m.mem.al.length,0):=askR_yes hX.memOk (by dsimp only;omega) hat hal (by rw [hcl];dsimp only;omega)
 have hsd : storeR ⟨m.mem.al ++ [newAlloc m.mem.next size.toNat],m.mem.next+1⟩ ⟨m.mem.next,0,m.tag⟩ [⟨1,7,0,0,0⟩]=_:=storeR_yes (l:=[⟨1,7,0,0,0⟩]) hask (by decide) hal rfl
 obtain ⟨st,hst',hk,k0,k1,k2,k3,k4,hP⟩:=hX.range hask hal
 have hst'' : (m.stks ++ [⟨m.mem.next,based size.toNat m.tag⟩])[m.mem.al.length]? = some st:=hst'
 rw [hst] at hst''
 cases hst''
 have hrun : okR m.run=true:=hM.run
 obtain ⟨y,hy⟩:=use33_top (it:=⟨1,m.tag,0⟩) (b:=true) hrun hk (a:=0) (n:=1) (Int.le_refl _) (Int.le_refl _) k3 (fun i s _ _ hs=>⟨[],based_get ht1 hs⟩) (.inr (show (1 : Int)≠4 by decide))
 have hres:=storeM_live (p:=⟨m.mem.next,0,m.tag⟩) (l:=[⟨1,7,0,0,0⟩]) hx hsd hat hst hy
 rw [if_pos rfl] at hres
 obtain ⟨-,-,hyo,-⟩:=storeM_inv hres
 have hY:=MonOk.of hyo
 have hi:=(List.getElem?_eq_some_iff.1 hst).1
 have hy2 : use33 ⟨m.mem.next,based size.toNat m.tag⟩ 0 1 m.tag true m.run=(y,0,0):=hy
 obtain ⟨y1,y2,y3,-⟩:=use33_in hP hy2
 unfold use33 at hy2
 rw [if_pos (ask33_of hrun hk (Int.le_refl _) (Int.le_refl _) k3)] at hy2
 obtain ⟨-,-,hsh⟩:=eachGo_shape _ _ _ (by dsimp only;rw [based_len];simp;omega) rfl hy2
 have hcell : ∀ (i : Nat) (s : List Item),y.cells[i]? = some s→s=[⟨1,m.tag,0⟩]:=by
  intro i s hs
  have hlt:=(List.getElem?_eq_some_iff.1 hs).1
  obtain ⟨p,hp⟩ : ∃ p,(based size.toNat m.tag)[i]? = some p:=⟨(based size.toNat m.tag)[i]'(by rw [y2] at hlt;exact hlt),by simp⟩
  have hpb:=based_get ht1 hp
  subst hpb
  obtain ⟨j1,j2⟩:=hsh i _ hp
  by_cases hin : (0 : Int).toNat≤i∧i < (0 : Int).toNat+(1 : Int).toNat
  ·obtain ⟨q,hq,hqy⟩:=j1 hin
   rw [hs] at hqy
   cases hqy
   exact useR_base ht1 hq
  ·rw [j2 hin,hp] at hs
   cases hs
   rfl
 have ho : (0 : Int).toNat+[(⟨1,7,0,0,0⟩ : Cell)].length≤(newAlloc m.mem.next size.toNat).cells.length:=by rw [hcl];simp;omega
 have hask2 : askR ⟨(m.mem.al ++ [newAlloc m.mem.next size.toNat]).set m.mem.al.length (putCells (newAlloc m.mem.next size.toNat) (0 : Int).toNat [⟨1,7,0,0,0⟩]),m.mem.next+1⟩ ⟨m.mem.next,0,m.tag⟩ 1=(some m.mem.al.length,0):=(askR_put hX.memOk hal rfl ho (by decide) _ _).trans hask
 have hal2 : ((m.mem.al ++ [newAlloc m.mem.next size.toNat]).set m.mem.al.length (putCells (newAlloc m.mem.next size.toNat) (0 : Int).toNat [⟨1,7,0,0,0⟩]))[m.mem.al.length]? = some (putCells (newAlloc m.mem.next size.toNat) (0 : Int).toNat [⟨1,7,0,0,0⟩]):=List.getElem?_set_self (by simp)
 have hrg : rangeR ⟨(m.mem.al ++ [newAlloc m.mem.next size.toNat]).set m.mem.al.length (putCells (newAlloc m.mem.next size.toNat) (0 : Int).toNat [⟨1,7,0,0,0⟩]),m.mem.next+1⟩ ⟨m.mem.next,0,m.tag⟩ 1=[⟨1,7,0,0,0⟩]:=(rangeR_live hask2 hal2 rfl).trans (cut_put ho)
 have hld : loadR ⟨(m.mem.al ++ [newAlloc m.mem.next size.toNat]).set m.mem.al.length (putCells (newAlloc m.mem.next size.toNat) (0 : Int).toNat [⟨1,7,0,0,0⟩]),m.mem.next+1⟩ ⟨m.mem.next,0,m.tag⟩ 1=([⟨1,7,0,0,0⟩],0,0):=by
  have:=loadR_yes (m:=⟨(m.mem.al ++ [newAlloc m.mem.next size.toNat]).set m.mem.al.length (putCells (newAlloc m.mem.next size.toNat) (0 : Int).toNat [⟨1,7,0,0,0⟩]),m.mem.next+1⟩) (p:=⟨m.mem.next,0,m.tag⟩) (n:=1) (by rw [hask2]) (by rw [hrg];simp) (by rw [hrg];decide)
  rw [this,hrg]
 have hat2 : atNum ((m.mem.al ++ [newAlloc m.mem.next size.toNat]).set m.mem.al.length (putCells (newAlloc m.mem.next size.toNat) (0 : Int).toNat [⟨1,7,0,0,0⟩])) m.mem.next=some m.mem.al.length:=atNum_at (x:=putCells (newAlloc m.mem.next size.toNat) (0 : Int).toNat [⟨1,7,0,0,0⟩]) (ok_al hY.memOk) hal2
 obtain ⟨z,hz⟩:=use33_top (it:=⟨1,m.tag,0⟩) (b:=false) hrun y3 (a:=0) (n:=1) (Int.le_refl _) (Int.le_refl _) (by rw [y2];exact k3) (fun i s _ _ hs=>⟨[],hcell i s hs⟩) (.inl rfl)
 have hl:=loadM_live (p:=⟨m.mem.next,0,m.tag⟩) (n:=1) hyo hld (by decide) hat2 (List.getElem?_set_self (a:=y) hi) hz
 rw [if_pos rfl,if_pos rfl] at hl
 exact ⟨_,_,hres,hl⟩
theorem retag_fresh {m x : Mon} {p r : Ptr} {n kind : Int} (h : retagM m p n kind 0=(x,r,0,0)) : (∃ y l v,loadM x r n=(y,l,v,0)∧(v=0∨v=4))∧(kind≠1 → ∀ l : List Cell,(l.length : Int)=n→l.all Cell.ok=true → ∃ y,storeM x r l=(y,0,0)):=by
 obtain ⟨hok,hk,hx,rfl,ht,hmem,hcl,hrun,htl,hn1,hn2,i,al,y,hask,hat,hal,hlv,hst,⟨l,un,hld,hun⟩,huse⟩:=retagM_inv h rfl
 refine ⟨?_,fun hkd ll hll hlok => ?_⟩
 ·obtain ⟨z,hz⟩:=huse false (.inl rfl)
  have:=loadM_live (m:=x) (p:=⟨p.a,p.o,m.tag⟩) (n:=n) (l:=l) (un:=un) (x:=z) (why:=0) (e4:=0) hx (by rw [hmem];exact hld) (by rcases hun with e | e <;> rw [e] <;> decide) (by rw [hmem];exact hat) hst (by rw [hrun];exact hz)
  rw [if_pos rfl] at this
  rcases hun with e | e
  ·subst e;rw [if_pos rfl] at this;exact ⟨_,_,_,this,.inl rfl⟩
  ·subst e;rw [if_neg (by decide)] at this;exact ⟨_,_,_,this,.inr rfl⟩
 ·subst hll
  have hp4 : permOf kind≠4:=by
   unfold kindOk at hk
   simp only [Bool.and_eq_true,decide_eq_true_eq] at hk
   unfold permOf
   rw [if_neg hkd]
   split
   ·decide
   ·split <;> decide
  obtain ⟨z,hz⟩:=huse true (.inr hp4)
  have hsd:=storeR_yes (m:=x.mem) (p:=⟨p.a,p.o,m.tag⟩) (l:=ll) (by rw [hmem];exact hask) hlok (by rw [hmem];exact hal) hlv
  have:=storeM_live (m:=x) (p:=⟨p.a,p.o,m.tag⟩) (x:=z) (why:=0) (e4:=0) hx hsd (by rw [hmem];exact hat) hst (by rw [hrun];exact hz)
  rw [if_pos rfl] at this
  exact ⟨_,this⟩
end Go.Proofs.YtnplphcnagooeaaDoor

/- Worlds that differ in new blocks and in the contents of fresh variables of some types; what such a variable holds afterwards, by its type. -/
namespace Go.Proofs.YtnplphcnagooeaaDoor
set_option maxRecDepth 100000
open Go.RowKit
structure BxS (N : Nat) (L : List (TypeId × Nat)) (X : TypeId→Array Value→Prop) (w w' : World) : Prop where
 os : w'.os=w.os
 tape : w'.tape=w.tape
 output : w'.output=w.output
 size : w.heap.size≤w'.heap.size
 block : ∀ b,b < w.heap.size→w'.heap[b]? = w.heap[b]? ∨ (N≤b ∧ ∃ T n,(T,n) ∈ L∧BoxT T n w b ∧ ∃ vs,vs.size=n∧Box w' b T vs∧X T vs)
section
variable {N : Nat} {L : List (TypeId × Nat)} {X : TypeId→Array Value→Prop} {w w' w'' : World}
theorem BxS.refl (w : World) : BxS N L X w w:=⟨rfl,rfl,rfl,Nat.le_refl _,fun _ _ => .inl rfl⟩
theorem BxS.trans (h : BxS N L X w w') (k : BxS N L X w' w'') : BxS N L X w w'':=by
 refine ⟨k.os.trans h.os,k.tape.trans h.tape,k.output.trans h.output,Nat.le_trans h.size k.size,fun b hb => ?_⟩
 rcases k.block b (Nat.lt_of_lt_of_le hb h.size) with k1 | ⟨k1,T,n,hm,k2,k3⟩
 ·rcases h.block b hb with h1 | ⟨h1,T,n,hm,h2,vs,h3,h4,h5⟩
  ·exact .inl (k1.trans h1)
  ·exact .inr ⟨h1,T,n,hm,h2,vs,h3,k1.trans h4,h5⟩
 ·rcases h.block b hb with h1 | ⟨h1,T',n',hm',h2,vs',h3,h4,-⟩
  ·refine .inr ⟨k1,T,n,hm,?_,k3⟩
   obtain ⟨vs,e1,e2⟩:=k2
   exact ⟨vs,e1,h1.symm.trans e2⟩
  ·obtain ⟨vs2,e1,e2⟩:=k2
   have e3:=e2.symm.trans h4
   simp only [Option.some.injEq,Obj.cells.injEq,and_true] at e3
   obtain ⟨rfl,rfl⟩:=e3
   obtain ⟨us,e4,e5⟩:=h2
   exact .inr ⟨h1,T,n,hm,⟨us,by omega,e5⟩,k3⟩
theorem BxS.of_ext (h : Ext w w') : BxS N L X w w':=⟨h.os,h.tape,h.output,h.size,fun _ hb => .inl (h.blk hb)⟩
theorem BxS.to_ext (h : BxS N L X w w') (hN : w.heap.size≤N) : Ext w w':=⟨h.os,h.tape,h.output,h.size,fun b hb=>by rcases h.block b hb with h1 | ⟨h1,-⟩;exact h1;omega⟩
theorem BxS.but {T : TypeId} {n b : Nat} (hE : ExtBut (· = b) w w') (hm : (T,n) ∈ L) (hb : BoxT T n w b) (hN : N≤b) {vs : Array Value} (hs : vs.size=n) (hB : Box w' b T vs) (hX : X T vs) : BxS N L X w w' :=
 ⟨hE.os,hE.tape,hE.output,hE.size,fun c hc=>by
  by_cases e : c=b
  ·subst e;exact .inr ⟨hN,T,n,hm,hb,vs,hs,hB,hX⟩
  ·exact .inl (hE.block c hc e)⟩
def PrSB (N : Nat) (L : List (TypeId × Nat)) (X : TypeId→Array Value→Prop) (T : TypeId) (n : Nat) : PrR (BxS N L X):=⟨fun v w => ∃ b,v = .pointer (some ⟨b,0,none⟩)∧N≤b∧BoxT T n w b,fun _ _ _ ⟨b,h1,h2,h3⟩ hR=>⟨b,h1,h2,by
 rcases hR.block b h3.lt with h4 | ⟨-,T',n',-,h5,vs,h6,h7,-⟩
 ·obtain ⟨vs,e1,e2⟩:=h3
  exact ⟨vs,e1,h4.trans e2⟩
 ·obtain ⟨us,e1,e2⟩:=h3
  obtain ⟨us',e3,e4⟩:=h5
  have e5:=e2.symm.trans e4
  simp only [Option.some.injEq,Obj.cells.injEq,and_true] at e5
  obtain ⟨rfl,rfl⟩:=e5
  exact ⟨vs,by omega,h7⟩⟩⟩
def PrSH (N : Nat) (L : List (TypeId × Nat)) (X : TypeId→Array Value→Prop) (T : TypeId) (vs : Array Value) (hX : ∀ us,X T us→us=vs) : PrR (BxS N L X):=⟨fun v w => ∃ b,v = .pointer (some ⟨b,0,none⟩)∧N≤b∧Box w b T vs,fun _ _ _ ⟨b,h1,h2,h3⟩ hR=>⟨b,h1,h2,by
 rcases hR.block b h3.lt with h4 | ⟨-,T',n',-,h5,us,h6,h7,h8⟩
 ·exact h4.trans h3
 ·obtain ⟨us',e3,e4⟩:=h5
  have e5:=h3.symm.trans e4
  simp only [Option.some.injEq,Obj.cells.injEq,and_true] at e5
  obtain ⟨rfl,rfl⟩:=e5
  rw [← hX us h8]
  exact h7⟩⟩
end
end Go.Proofs.YtnplphcnagooeaaDoor
