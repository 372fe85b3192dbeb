/- Several texts in one: BoxO. -/
import Derived.Test.YtoanoodfacmieaaDoorQ16
import Derived.Test.YtoanoodfacmieaaDoorQ07
import Derived.Test.YtoanoodfacmieaaDoorQ06
/- Rows and tables that a call owns stay so where fresh variables of another type change; append to an empty literal. -/
namespace Go.Proofs.YtoanoodfacmieaaDoor
set_option maxRecDepth 100000
open Go.RowKit
theorem Own.bxr {N M n' : Nat} {T : TypeId} {w w' : World} {B : Nat} {e k n : Nat} {v : Value} {xs : List Value} (h : Own w B e k v n xs) (hne : e≠T) (hR : BxR N T M w w') : Own w' B e k v n xs:=by
 refine ⟨h.1,?_⟩
 rcases h.2 with h2 | ⟨g,cap,cur,rfl,hg,hh,r⟩
 ·exact Or.inl h2
 ·refine Or.inr ⟨g,cap,cur,rfl,hg,?_,r⟩
  rcases hR.block g (Array.getElem?_eq_some_iff.1 hh).1 with h1 | ⟨-,⟨vs,-,h1⟩,-⟩
  ·exact h1.trans hh
  ·exfalso
   have:=hh.symm.trans (show w.heap[g]? = _ from h1)
   simp only [Option.some.injEq,Obj.cells.injEq] at this
   exact hne this.2.1
theorem OwnS.bxr {N M : Nat} {w w' : World} {B : Nat} {v : Value} {vs : List Value} {l : List (List Item)} (h : OwnS w B v vs l) (hR : BxR N 44 M w w') : OwnS w' B v vs l :=
 ⟨Own.bxr (n':=0) h.outer (by decide) hR,All2.iff.2 ⟨(All2.iff.1 h.inner).1,fun i s a hs ha=>Own.bxr (n':=0) ((All2.iff.1 h.inner).2 i s a hs ha) (by decide) hR⟩,h.apart,h.far⟩
theorem OM.bxr {N M : Nat} {T : TypeId} {w w' : World} {B : Nat} {v : Value} {vs : List Value} {l : List Alloc} (h : OM w B v vs l) (h1 : 101≠T) (h2 : 28≠T) (hR : BxR N T M w w') : OM w' B v vs l :=
 ⟨Own.bxr (n':=0) h.outer h1 hR,All2.iff.2 ⟨(All2.iff.1 h.inner).1,fun i s a hs ha=>Own.bxr (n':=0) ((All2.iff.1 h.inner).2 i s a hs ha) h2 hR⟩,h.apart,h.far⟩
end Go.Proofs.YtoanoodfacmieaaDoor
