/- Several texts in one: BoxO. -/
import Derived.Test.YtepdbdckjmkbhaaGreatDoorQ14
import Derived.Test.YtepdbdckjmkbhaaGreatDoorQ11
import Derived.Test.YtepdbdckjmkbhaaGreatDoorQ05
/- Rows and tables that a call owns stay so where fresh variables of another type change; append to an empty literal. -/
namespace Go.Proofs.YtepdbdckjmkbhaaGreatDoor
set_option maxRecDepth 100000
open Go.RowKit
theorem Own.bxr {N M n' : Nat} {T : TypeId} {w w' : World} {B : Nat} {e k n : Nat} {v : Value} {xs : List Value} (h : Own w B e k v n xs) (hne : e≠T) (hR : BxR N T M w w') : Own w' B e k v n xs:=by
 refine ⟨h.1,?_⟩
 rcases h.2 with h2 | ⟨g,cap,cur,rfl,hg,hh,r⟩
 ·exact Or.inl h2
 ·refine Or.inr ⟨g,cap,cur,rfl,hg,?_,r⟩
  rcases hR.block g (Array.getElem?_eq_some_iff.1 hh).1 with h1 | ⟨-,⟨vs,-,h1⟩,-⟩
  ·exact h1.trans hh
  ·exfalso
   have:=hh.symm.trans (show w.heap[g]? = _ from h1)
   simp only [Option.some.injEq,Obj.cells.injEq] at this
   exact hne this.2.1
theorem OwnS.bxr {N M : Nat} {w w' : World} {B : Nat} {v : Value} {vs : List Value} {l : List (List Item)} (h : OwnS w B v vs l) (hR : BxR N 33 M w w') : OwnS w' B v vs l :=
 ⟨Own.bxr (n':=0) h.outer (by decide) hR,All2.iff.2 ⟨(All2.iff.1 h.inner).1,fun i s a hs ha=>Own.bxr (n':=0) ((All2.iff.1 h.inner).2 i s a hs ha) (by decide) hR⟩,h.apart,h.far⟩
theorem OM.bxr {N M : Nat} {T : TypeId} {w w' : World} {B : Nat} {v : Value} {vs : List Value} {l : List Alloc} (h : OM w B v vs l) (h1 : 40≠T) (h2 : 54≠T) (hR : BxR N T M w w') : OM w' B v vs l :=
 ⟨Own.bxr (n':=0) h.outer h1 hR,All2.iff.2 ⟨(All2.iff.1 h.inner).1,fun i s a hs ha=>Own.bxr (n':=0) ((All2.iff.1 h.inner).2 i s a hs ha) h2 hR⟩,h.apart,h.far⟩
theorem run_append_lit0 {P : Program} {w : World} {B g : Nat} {t tx ty e e' : TypeId} {i : TypeInfo} {z : Value} {k : Nat} {x : Value} {m : Nat} {ys : List Value}
  (ht : P.underlying t=some (.slice e)) (htx : P.underlying tx=some (.slice e')) (hi : P.info? e=some i) (hz : i.zero=some z) (hik : i.size=k) (hzk : z.cells.size=k)
  (hown : Own w B e k (.slice (some ⟨g,0,none⟩) 0 0) 0 []) (hx : Sl w k x m ys) (h1 : ∀ u ∈ ys,u.oneCell'=true) (h63 : m≤maxLen) (hbytes : m * i.bytes≤140737488355328) (hB : B≤w.heap.size) :
  ∃ v' w',(Builtin.append_ #[t,tx] ty #[.slice (some ⟨g,0,none⟩) 0 0,x]).run P w = .ok v' w'∧Own w' B e k v' m ys∧Ext w w':=by
 subst hik
 have hsrc:=hx.src htx h1
 have hlen : ys.length=m * i.size:=hx.len
 by_cases hm : m=0
 ·subst hm
  have hys:=hx.zero
  subst hys
  refine ⟨.slice (some ⟨g,0,none⟩) 0 0,w,?_,hown,Ext.refl _⟩
  rcases hsrc.kind with ⟨e',hk⟩ | hk <;> simp [Builtin.append_,run_underlying ht,run_underlying hk,sizeOf,typeInfo,hi,hsrc.len,hsrc.cells,storeCells]
 ·have hold:=((hown.sl.ext (Ext.refl w).drew).firstCells (P:=P))
  have hr:=run_append_grow_src (P:=P) w t tx ty e i z ht hi hz (some ⟨g,0,none⟩) 0 0 [] hold x m ys hsrc (by omega) (by simp only [maxLen] at h63;omega) (growslice_fits (by omega) (by simpa using hbytes))
  have hge:=grownCap_ge w (0+m) 0 e
  have hcm : grownCap w (0+m) 0 e≤maxLen:=grownCap_le_maxLen w (0+m) 0 e (by omega)
  rw [Nat.zero_add] at hge hcm hr
  refine ⟨_,_,hr,⟨hlen,.inr ⟨w.heap.size,_,_,rfl,hB,heap_alloc_new w.drew _,hge,hcm,?_,?_⟩⟩,(Ext.refl w).drew.alloc _⟩
  ·rw [List.nil_append,Array.size_append,List.size_toArray,size_zeroCells,hzk,hlen,← Nat.add_mul]
   congr 1
   omega
  ·rw [List.nil_append,Array.toList_append,← hlen]
   exact List.take_left
theorem wp_append_lit0 {P : Program} {w : World} {o : Oper} {a : Act} {K : Act→World→Prop} {Q : Exit→Act→World→Prop} (s x : Operand) (t tx : TypeId)
  (ho : o.op = .call { callee := .builtin .append,args:=#[s,x],argTypes:=#[t,tx] })
  {u : Value} {B g : Nat} (hs : a.eval s = .slice (some ⟨g,0,none⟩) 0 0) (hu : a.eval x=u) {e e' : TypeId} {i : TypeInfo} {z : Value} {k : Nat} {m : Nat} {ys : List Value}
  (ht : P.underlying t=some (.slice e)) (htx : P.underlying tx=some (.slice e')) (hi : P.info? e=some i) (hz : i.zero=some z) (hik : i.size=k) (hzk : z.cells.size=k)
  (hown : Own w B e k (.slice (some ⟨g,0,none⟩) 0 0) 0 []) (hx : Sl w k u m ys) (h1 : ∀ u ∈ ys,u.oneCell'=true) (h63 : m≤maxLen) (hbytes : m * i.bytes≤140737488355328) (hB : B≤w.heap.size)
  (h : ∀ v' w',Own w' B e k v' m ys→Ext w w'→K (a.put o.dst v') w') : o.wp P a w K Q:=by
 obtain ⟨v',w',hr,h2,h3⟩:=run_append_lit0 (P:=P) (ty:=o.type) ht htx hi hz hik hzk hown hx h1 h63 hbytes hB
 unfold Oper.wp execOp
 simp only [ho,resolve,invoke,builtin,Sem.run_bind,Sem.run_pure,Result.andThen_ok,List.map_toArray,List.map_cons,List.map_nil,hs,hu,hr]
 exact h v' w' h2 h3
end Go.Proofs.YtepdbdckjmkbhaaGreatDoor
