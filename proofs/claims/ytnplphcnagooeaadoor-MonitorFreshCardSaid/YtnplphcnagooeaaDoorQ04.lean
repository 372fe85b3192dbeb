/- Several texts in one: GrdG, StkA, ReadK, CelW1, CelW2, CelW3, CelW4, CelW5. -/
import Derived.Test.YtnplphcnagooeaaDoorQ02
import Derived.Test.YtnplphcnagooeaaDoorQ03
import Derived.Test.YtnplphcnagooeaaDoorProg
import Derived.Test.YtnplphcnagooeaaDoorQ01
import Derived.BigQuiet
import Derived.Deep.QuietTactic
import Derived.Deep.RegionHeld3
import Derived.Deep.DeepMust
import Derived.Deep.RegionWith
import Derived.Deep.DeepCutAuto
import Derived.Laws.MakeOwn
import Derived.Laws.OwnMore
/- Contracts: the guarded accesses of layer 31, the program's and the reference's; what they return is the call's own. (printed by gen/grdg.py) -/
namespace Go.Proofs.YtnplphcnagooeaaDoor
set_option maxRecDepth 100000
open Go.RowKit
def OwnI (w : World) (B : Nat) (v : Value) (l : List Item) : Prop:=Own w B 52 3 v l.length (l.flatMap Item.row)
theorem OwnI.its {w : World} {B : Nat} {v : Value} {l : List Item} (h : OwnI w B v l) : Its w v l:=Own.sl h
theorem OwnI.ext {w w' : World} {B : Nat} {v : Value} {l : List Item} (h : OwnI w B v l) (he : Ext w w') : OwnI w' B v l:=Own.ext h he
theorem OwnI.mono {w : World} {B B' : Nat} {v : Value} {l : List Item} (h : OwnI w B v l) (hB : B'≤B) : OwnI w B' v l:=Own.mono h hB
theorem OwnI.nil (w : World) (B : Nat) : OwnI w B (.slice none 0 0) []:=Own.nil _ _ _ _
def RetSO (w : World) (l : List Item) (why n : Int) (en : Ending) (w' : World) : Prop := ∃ v,en = .returned (.tuple #[v,.int .u8 why,.int .i64 n])∧OwnI w' w.heap.size v l∧Ext w w'
def RetTold (w : World) (v : Value) (l : List Item) (r : List Item × Int × Int) (en : Ending) (w' : World) : Prop := ∃ v',en = .returned (.tuple #[v',.int .u8 r.2.1,.int .i64 r.2.2])∧((v'=v∧r.1=l)∨(v' = .slice none 0 0∧r.1=[]))∧Ext w w'
theorem RetTold.own {w0 w w' : World} {v : Value} {l : List Item} {r : List Item × Int × Int} {en : Ending} (h : RetTold w v l r en w') (hv : OwnI w w0.heap.size v l) (hE : Ext w0 w) : RetSO w0 r.1 r.2.1 r.2.2 en w':=by
 obtain ⟨v',rfl,h | h,h3⟩:=h
 ·obtain ⟨rfl,h2⟩:=h
  rw [h2]
  exact ⟨_,rfl,hv.ext h3,hE.trans h3⟩
 ·obtain ⟨rfl,h2⟩:=h
  rw [h2]
  exact ⟨_,rfl,OwnI.nil _ _,hE.trans h3⟩
set_option maxHeartbeats 800000 in
theorem guard_toldX {l gone : List Item} {run : List Int} {v u r : Value} {w : World} (why e : Int) (hl : Its w v l) (hg : Its w u gone) (hr : Nts w r run) (hok : okR run=true) :
  Calls Tryd.prog 75 #[v,u,.int .u8 why,.int .i64 e,r] w (RetTold w v l (toldR' l gone why e run)):=by
 have hG:=Lib.hid hg
 have hR:=Lib.hid (And.intro hr hok)
 obtain ⟨a,cp,rfl,-⟩:=hl.form
 obtain ⟨a2,cp2,rfl,-⟩:=hg.form
 obtain ⟨a3,cp3,rfl,-⟩:=hr.form
 clear hl hg hr hok
 by_cases he : e=0
 ·have q1 : (e == 0)=true:=beq_iff_eq.2 he
  by_cases hw : why=0
  ·have q2 : (why == 0)=true:=beq_iff_eq.2 hw
   cases hf : firstR gone run with
   | none =>
    have hix : Hid (idxOf (firstR gone run) = -1):=Hid.mk (by rw [hf];rfl)
    have hres:=Lib.hid (toldR'_no (l:=l) (gone:=gone) (why:=why) (e:=e) (run:=run) (by rw [hf];simp))
    subst he hw
    clear hf q1 q2
    go_enter Tryd.func75,Tryd.ntmps75
    go_wp2_with fail
    refine (guard_first hG.out hR.out.1 hR.out.2).mono ?_
    rintro e w1 ⟨rfl,hE1⟩
    rw [hix.out]
    go_wp2
    refine bodyPost_ret (results_tmp3 rfl _ _ _) rfl ?_
    rw [hres.out]
    exact ⟨_,rfl,.inl ⟨rfl,rfl⟩,hE1⟩
   | some i =>
    have hix : Hid (idxOf (firstR gone run)=(i : Int)):=Hid.mk (by rw [hf];rfl)
    have hres:=Lib.hid (toldR'_yes (l:=l) (gone:=gone) (why:=why) (e:=e) (run:=run) ⟨he,hw,by rw [hf];rfl⟩)
    have hi0 : (0 : Int)≤(i : Int):=by omega
    subst he hw
    clear hf q1 q2
    go_enter Tryd.func75,Tryd.ntmps75
    go_wp2_with fail
    refine (guard_first hG.out hR.out.1 hR.out.2).mono ?_
    rintro e w1 ⟨rfl,hE1⟩
    rw [hix.out]
    go_wp2
    refine bodyPost_ret (results_tmp3 rfl _ _ _) rfl ?_
    rw [hres.out]
    exact ⟨_,rfl,.inr ⟨rfl,rfl⟩,hE1⟩
  ·have q2 : (why == 0)=false:=beq_eq_false_iff_ne.2 hw
   have hres:=Lib.hid (toldR'_no (l:=l) (gone:=gone) (why:=why) (e:=e) (run:=run) (fun h=>hw h.2.1))
   subst he
   clear hw
   go_enter Tryd.func75,Tryd.ntmps75
   go_wp2
   refine bodyPost_ret (results_tmp3 rfl _ _ _) rfl ?_
   rw [hres.out]
   exact ⟨_,rfl,.inl ⟨rfl,rfl⟩,Ext.refl _⟩
 ·have q1 : (e == 0)=false:=beq_eq_false_iff_ne.2 he
  have hres:=Lib.hid (toldR'_no (l:=l) (gone:=gone) (why:=why) (e:=e) (run:=run) (fun h=>he h.1))
  clear he
  go_enter Tryd.func75,Tryd.ntmps75
  go_wp2
  refine bodyPost_ret (results_tmp3 rfl _ _ _) rfl ?_
  rw [hres.out]
  exact ⟨_,rfl,.inl ⟨rfl,rfl⟩,Ext.refl _⟩
set_option maxHeartbeats 800000 in
theorem guard_ReadO {l : List Item} {run : List Int} {v r : Value} {w : World} (tag : Int) (hl : Its w v l) (hr : Nts w r run) :
  Calls Tryd.prog 80 #[v,.int .i64 tag,r] w (RetSO w (useR l tag false run).1 (useR l tag false run).2.1 (useR l tag false run).2.2):=by
 have hL:=Lib.hid hl
 have hR:=Lib.hid hr
 obtain ⟨a,cp,rfl,-⟩:=hl.form
 obtain ⟨a3,cp3,rfl,-⟩:=hr.form
 clear hl hr
 cases hok : okR run
 ·have h8:=Lib.hid (runErr_bad hok)
  have hres : Hid (useR l tag false run=([],0,8)):=Hid.mk (by simp [useR,hok])
  clear hok
  go_enter Tryd.func80,Tryd.ntmps80
  go_wp2_with fail
  refine (guard_Check hR.out).mono ?_
  rintro e w1 ⟨rfl,rfl⟩
  rw [h8.out]
  go_wp2
  refine bodyPost_ret (results_tmp3 rfl _ _ _) rfl ?_
  rw [hres.out]
  exact ⟨_,rfl,OwnI.nil _ _,Ext.refl _⟩
 ·have h0:=Lib.hid (runErr_ok hok)
  have hO:=Lib.hid hok
  have hres : Hid (useR l tag false run=toldR' (accL l tag false) (accG l tag false) (accW l tag false) (chk l) run):=Hid.mk (by simp [useR,hok])
  clear hok
  go_enter Tryd.func80,Tryd.ntmps80
  go_wp2_with fail
  refine (guard_Check hR.out).mono ?_
  rintro e w1 ⟨rfl,rfl⟩
  rw [h0.out]
  go_wp2_with fail
  refine (access_ReadO tag hL.out).mono ?_
  rintro e w1 ⟨v1,u1,rfl,hv1,hu1,-,hE1⟩
  obtain ⟨b1,d1,rfl,-⟩:=(Own.sl hv1).slice_form
  obtain ⟨b2,d2,rfl,-⟩:=(Own.sl hu1).slice_form
  go_wp2_with fail
  refine (guard_toldX _ _ (Own.sl hv1) (Own.sl hu1) (hR.out.ext hE1) hO.out).mono ?_
  rintro e w2 hT
  obtain ⟨v2,rfl,hv2,hE2⟩:=RetTold.own hT hv1 hE1
  rw [← hres.out] at hv2 ⊢
  obtain ⟨b3,d3,rfl,-⟩:=hv2.sl.slice_form
  go_wp2
  refine bodyPost_ret (results_tmp3 rfl _ _ _) rfl ?_
  exact ⟨_,rfl,hv2,hE2⟩
set_option maxHeartbeats 800000 in
theorem guard_WriteO {l : List Item} {run : List Int} {v r : Value} {w : World} (tag : Int) (hl : Its w v l) (hr : Nts w r run) :
  Calls Tryd.prog 70 #[v,.int .i64 tag,r] w (RetSO w (useR l tag true run).1 (useR l tag true run).2.1 (useR l tag true run).2.2):=by
 have hL:=Lib.hid hl
 have hR:=Lib.hid hr
 obtain ⟨a,cp,rfl,-⟩:=hl.form
 obtain ⟨a3,cp3,rfl,-⟩:=hr.form
 clear hl hr
 cases hok : okR run
 ·have h8:=Lib.hid (runErr_bad hok)
  have hres : Hid (useR l tag true run=([],0,8)):=Hid.mk (by simp [useR,hok])
  clear hok
  go_enter Tryd.func70,Tryd.ntmps70
  go_wp2_with fail
  refine (guard_Check hR.out).mono ?_
  rintro e w1 ⟨rfl,rfl⟩
  rw [h8.out]
  go_wp2
  refine bodyPost_ret (results_tmp3 rfl _ _ _) rfl ?_
  rw [hres.out]
  exact ⟨_,rfl,OwnI.nil _ _,Ext.refl _⟩
 ·have h0:=Lib.hid (runErr_ok hok)
  have hO:=Lib.hid hok
  have hres : Hid (useR l tag true run=toldR' (accL l tag true) (accG l tag true) (accW l tag true) (chk l) run):=Hid.mk (by simp [useR,hok])
  clear hok
  go_enter Tryd.func70,Tryd.ntmps70
  go_wp2_with fail
  refine (guard_Check hR.out).mono ?_
  rintro e w1 ⟨rfl,rfl⟩
  rw [h0.out]
  go_wp2_with fail
  refine (access_WriteO tag hL.out).mono ?_
  rintro e w1 ⟨v1,u1,rfl,hv1,hu1,-,hE1⟩
  obtain ⟨b1,d1,rfl,-⟩:=(Own.sl hv1).slice_form
  obtain ⟨b2,d2,rfl,-⟩:=(Own.sl hu1).slice_form
  go_wp2_with fail
  refine (guard_toldX _ _ (Own.sl hv1) (Own.sl hu1) (hR.out.ext hE1) hO.out).mono ?_
  rintro e w2 hT
  obtain ⟨v2,rfl,hv2,hE2⟩:=RetTold.own hT hv1 hE1
  rw [← hres.out] at hv2 ⊢
  obtain ⟨b3,d3,rfl,-⟩:=hv2.sl.slice_form
  go_wp2
  refine bodyPost_ret (results_tmp3 rfl _ _ _) rfl ?_
  exact ⟨_,rfl,hv2,hE2⟩
set_option maxHeartbeats 800000 in
theorem guard_RetagO {l : List Item} {run : List Int} {k : Int} {v r : Value} {w : World} (hp : Perms w) (hk : u8B k) (old : Int) (x : Item) (hl : Its w v l) (hr : Nts w r run) :
  Calls Tryd.prog 39 #[v,.int .u8 k,.int .i64 old,x.val,r] w (RetSO w (tagR l k old x run).1 (tagR l k old x run).2.1 (tagR l k old x run).2.2):=by
 have hL:=Lib.hid hl
 have hR:=Lib.hid hr
 have hP:=Lib.hid hp
 obtain ⟨a,cp,rfl,-⟩:=hl.form
 obtain ⟨a3,cp3,rfl,-⟩:=hr.form
 clear hl hr hp
 cases hok : okR run
 ·have h8:=Lib.hid (runErr_bad hok)
  have hres : Hid (tagR l k old x run=([],0,8)):=Hid.mk (by simp [tagR,hok])
  clear hok
  obtain ⟨xp,xt,xc⟩:=x
  unfold Item.val
  go_enter Tryd.func39,Tryd.ntmps39
  go_wp2_with fail
  refine (guard_Check (hR.out.ext ?_)).mono ?_
  ·exact ((Ext.refl _).alloc _)
  rintro e w1 ⟨rfl,rfl⟩
  rw [h8.out]
  go_wp2
  refine bodyPost_ret (results_tmp3 rfl _ _ _) rfl ?_
  rw [hres.out]
  exact ⟨_,rfl,OwnI.nil _ _,by first | exact Ext.refl _ | exact (Ext.refl _).alloc _⟩
 ·have h0:=Lib.hid (runErr_ok hok)
  have hO:=Lib.hid hok
  have hres : Hid (tagR l k old x run=toldR' (retagR l k old x).1 (retagR l k old x).2.1 (retagR l k old x).2.2.1 (retagR l k old x).2.2.2 run):=Hid.mk (by simp [tagR,hok])
  clear hok
  obtain ⟨xp,xt,xc⟩:=x
  unfold Item.val
  have hE0 : Ext w (w.alloc (.cells #[.int .u8 xp,.int .i64 xt,.int .i64 xc] 52)):=(Ext.refl _).alloc _
  go_enter Tryd.func39,Tryd.ntmps39
  go_wp2_with fail
  refine (guard_Check (hR.out.ext hE0)).mono ?_
  rintro e w1 ⟨rfl,rfl⟩
  rw [h0.out]
  go_wp2_with fail
  refine (grant_RetagO (hP.out.ext hE0) hk old ⟨xp,xt,xc⟩ (hL.out.ext hE0)).mono ?_
  rintro e w1 ⟨v1,u1,rfl,hv1,hu1,-,hE1⟩
  obtain ⟨b1,d1,rfl,-⟩:=(Own.sl hv1).slice_form
  obtain ⟨b2,d2,rfl,-⟩:=(Own.sl hu1).slice_form
  go_wp2_with fail
  refine (guard_toldX _ _ (Own.sl hv1) (Own.sl hu1) ((hR.out.ext hE0).ext hE1) hO.out).mono ?_
  rintro e w2 hT
  replace hv1:=hv1.mono hE0.size
  obtain ⟨v2,rfl,hv2,hE2⟩:=RetTold.own hT hv1 (hE0.trans hE1)
  rw [← hres.out] at hv2 ⊢
  obtain ⟨b3,d3,rfl,-⟩:=hv2.sl.slice_form
  go_wp2
  refine bodyPost_ret (results_tmp3 rfl _ _ _) rfl ?_
  exact ⟨_,rfl,hv2,hE2⟩
end Go.Proofs.YtnplphcnagooeaaDoor

/- Stacks of an allocation aas Lean data, and what a value in memory reads aas; what New gives; no program in sight. -/
namespace Go.Proofs.YtnplphcnagooeaaDoor
set_option maxRecDepth 100000
open Go.RowKit
structure Stk where
 num : Int
 cells : List (List Item)
 deriving DecidableEq
def Stk.zero : Stk:=⟨0,[]⟩
def srow (s : Value) (_ : List Item) : List Value:=[s]
theorem srow_len (s : Value) (a : List Item) : (srow s a).length=1:=rfl
theorem srow_one (vs : List Value) (l : List (List Item)) (h : ∀ s ∈ vs,s.oneCell'=true) : ∀ u ∈ trows srow vs l,u.oneCell'=true:=by
 intro u hu
 obtain ⟨p,hp,hu⟩:=List.mem_flatMap.1 hu
 simp only [srow,List.mem_cons,List.not_mem_nil,or_false] at hu
 subst hu
 exact h _ (List.of_mem_zip hp).1
def Sts (w : World) (v : Value) (l : List (List Item)) : Prop:=Tb srow 1 (fun s a=>Its w s a) w v l
theorem Sts.ext {w w' : World} {v : Value} {l : List (List Item)} (h : Sts w v l) (he : Ext w w') : Sts w' v l:=Tb.ext h he fun _ _ h=>Its.ext h he
theorem Sts.nil (w : World) : Sts w (.slice none 0 0) []:=Tb.nil w
theorem Sts.form {w : World} {v : Value} {l : List (List Item)} (h : Sts w v l) : ∃ a cap,v = .slice a l.length cap∧l.length≤cap∧cap≤maxLen∧(a=none→cap=0):=Tb.form h
theorem Sts.cell {w : World} {a : Option Addr} {n cap : Nat} {l : List (List Item)} (h : Sts w (.slice a n cap) l) {i : Nat} {x : List Item} (hx : l[i]? = some x) :
  ∃ b off s,a=some ⟨b,off,none⟩∧b < w.heap.size∧w.cell? ⟨b,off+i,none⟩=some s∧Its w s x:=by
 obtain ⟨b,off,s,rfl,hb,hc,hcell⟩:=Tb.cell h srow_len (by omega) hx
 exact ⟨b,off,s,rfl,hb,by simpa using hcell 0 _ rfl,hc⟩
def okK (x : Stk) : Bool:=inB x.num && decide (1≤x.cells.length) && decide (x.cells.length≤2) && x.cells.all okS
def stkErr (x : Stk) : Int:=if okK x then 0 else 8
def wideS (s : List Item) : Bool:=decide (610 < s.length)
def greatK (l : List (List Item)) : Bool:=(l.take 5).any wideS || decide (4 < l.length)
theorem sany_take_succ {α : Type} {p : α→Bool} {l : List α} {k : Nat} {x : α} (h : (l.take k).any p=false) (hx : l[k]? = some x) (hp : p x=false) : (l.take (k+1)).any p=false:=by
 rw [List.take_add_one,hx]
 simp [List.any_append,h,hp]
theorem sany_hit {α : Type} {p : α→Bool} {l : List α} {k : Nat} {x : α} (hx : l[k]? = some x) (hp : p x=true) : l.any p=true :=
 List.any_eq_true.2 ⟨x,List.mem_of_getElem? hx,hp⟩
theorem greatK_hit {l : List (List Item)} {k : Nat} {x : List Item} (hx : l[k]? = some x) (hk : k≤4) (hp : wideS x=true) : greatK l=true:=by
 rw [greatK,sany_hit (k:=k) (x:=x) (by rw [List.getElem?_take,if_pos (by omega)];exact hx) hp,Bool.true_or]
def OwnS (w : World) (B : Nat) (v : Value) (vs : List Value) (l : List (List Item)) : Prop:=OTb srow 57 1 OwnI w B v vs l
theorem OwnI.keep {w w' : World} {S : Nat→Prop} {B : Nat} {s : Value} {a : List Item} (h : OwnI w B s a) (hE : ExtBut S w w') (hS : ∀ g,s.ownBlock=some g → ¬ S g) : OwnI w' B s a:=ExtBut.own h hE hS
theorem OwnI.lt {w : World} {B : Nat} {s : Value} {a : List Item} (h : OwnI w B s a) (g : Nat) (hg : s.ownBlock=some g) : B≤g∧g < w.heap.size:=Own.lt h hg
theorem OwnS.ext {w w' : World} {B : Nat} {v : Value} {vs : List Value} {l : List (List Item)} (h : OwnS w B v vs l) (hE : Ext w w') : OwnS w' B v vs l:=OTb.ext OwnI.keep h hE
theorem OwnS.but {S : Nat→Prop} {w w' : World} {B : Nat} {v : Value} {vs : List Value} {l : List (List Item)} (h : OwnS w B v vs l) (hE : ExtBut S w w') (hS : ∀ b,B≤b → ¬ S b) : OwnS w' B v vs l :=
 OTb.but OwnI.keep h hE (fun g hg=>hS g (Own.lt h.outer hg).1) (fun s hs g hg=>hS g (OTb.inner_lt OwnI.lt h s hs g hg).1)
theorem OwnS.mono {w : World} {B B' : Nat} {v : Value} {vs : List Value} {l : List (List Item)} (h : OwnS w B v vs l) (hB : B'≤B) : OwnS w B' v vs l:=OTb.mono OwnI.mono h hB
theorem OwnS.nil (w : World) (B : Nat) : OwnS w B (.slice none 0 0) [] []:=OTb.nil w B
theorem OwnS.sts {w : World} {B : Nat} {v : Value} {vs : List Value} {l : List (List Item)} (h : OwnS w B v vs l) : Sts w v l:=⟨vs,h.inner.mono fun _ _ h=>h.its,h.outer.sl⟩
theorem OwnS.outer {w : World} {B : Nat} {v : Value} {vs : List Value} {l : List (List Item)} (h : OwnS w B v vs l) : Own w B 57 1 v l.length (trows srow vs l):=OTb.outer h
theorem OwnS.inner_lt {w : World} {B : Nat} {v : Value} {vs : List Value} {l : List (List Item)} (h : OwnS w B v vs l) : ∀ s ∈ vs,∀ g,s.ownBlock=some g→B≤g∧g < w.heap.size:=OTb.inner_lt OwnI.lt h
theorem OwnS.push {w wx w' : World} {B : Nat} {v v' s : Value} {vs : List Value} {l : List (List Item)} {a : List Item} (h : OwnS w B v vs l) (hE : Ext w wx) (hR : OwnI wx B s a) (hs : ∀ g,s.ownBlock=some g→w.heap.size≤g)
  (hO : Own w' B 57 1 v' (l.length+1) (trows srow vs l ++ srow s a)) (hK : Keeps wx w' B v) (hb : v'.ownBlock=v.ownBlock ∨ ∃ g,v'.ownBlock=some g∧wx.heap.size≤g) : OwnS w' B v' (vs ++ [s]) (l ++ [a]) :=
 OTb.push OwnI.keep OwnI.lt h hE hR hs hO hK hb
theorem Stack.infoE : ∃ i z,Tryd.prog.info? 57=some i∧i.zero=some z∧i.size=1∧z.cells.size=1∧i.bytes=24:=by
 have h : (Tryd.prog.info? 57).map (fun i=>(i.zero.map (fun z=>z.cells.size),i.size,i.bytes))=some (some 1,1,24):=by kernel_rfl
 cases hi : Tryd.prog.info? 57 with
 | none=>rw [hi] at h;simp at h
 | some i =>
  rw [hi] at h
  simp only [Option.map_some,Option.some.injEq,Prod.mk.injEq] at h
  obtain ⟨h1,h2,h3⟩:=h
  cases hz : i.zero with
  | none=>rw [hz] at h1;simp at h1
  | some z =>
   rw [hz] at h1
   exact ⟨i,z,rfl,hz,h2,by simpa using h1,h3⟩
def RetK (w : World) (x : Stk) (n : Int) (en : Ending) (w' : World) : Prop := ∃ v vs,en = .returned (.tuple #[.agg #[.int .i64 x.num,v],.int .i64 n])∧OwnS w' w.heap.size v vs x.cells∧Ext w w'
def RetKW (w : World) (x : Stk) (why n : Int) (en : Ending) (w' : World) : Prop := ∃ v vs,en = .returned (.tuple #[.agg #[.int .i64 x.num,v],.int .u8 why,.int .i64 n])∧OwnS w' w.heap.size v vs x.cells∧Ext w w'
end Go.Proofs.YtnplphcnagooeaaDoor

/- How the arguments of a statement read: stacks of an allocation, and slices of them. -/
namespace Go.Proofs.YtnplphcnagooeaaDoor
set_option maxRecDepth 100000
open Go.ChangeShapes Go.WideShapes Go.ChangeAt Go.RowKit
def krow (s : Value) (x : Stk) : List Value:=[.int .i64 x.num,s]
theorem krow_len (s : Value) (x : Stk) : (krow s x).length=2:=rfl
def Kts (w : World) (v : Value) (l : List Stk) : Prop:=Tb krow 2 (fun s x=>Sts w s x.cells) w v l
theorem Kts.ext {w w' : World} {v : Value} {l : List Stk} (h : Kts w v l) (he : Ext w w') : Kts w' v l:=Tb.ext h he fun _ _ h=>Sts.ext h he
theorem Kts.nil (w : World) : Kts w (.slice none 0 0) []:=Tb.nil w
theorem Kts.form {w : World} {v : Value} {l : List Stk} (h : Kts w v l) : ∃ a cap,v = .slice a l.length cap∧l.length≤cap∧cap≤maxLen∧(a=none→cap=0):=Tb.form h
theorem Kts.cell {w : World} {a : Option Addr} {n cap : Nat} {l : List Stk} (h : Kts w (.slice a n cap) l) {i : Nat} {x : Stk} (hx : l[i]? = some x) :
  ∃ b off s,a=some ⟨b,off,none⟩∧b < w.heap.size∧w.cell? ⟨b,off+i * 2,none⟩=some (.int .i64 x.num)∧w.cell? ⟨b,off+i * 2+1,none⟩=some s∧Sts w s x.cells:=by
 obtain ⟨b,off,s,rfl,hb,hc,hcell⟩:=Tb.cell h krow_len (by omega) hx
 refine ⟨b,off,s,rfl,hb,?_,?_,hc⟩
 ·simpa using hcell 0 _ rfl
 ·exact hcell 1 _ rfl
section
variable {H : Type} {enc : TypeId × Value→H} {w : World} {base : Nat} {spare : Nat→Bool} {held : Bool}
theorem read_stacks {n : Nat} {cs : List Value} {x : DataW H × List MemPlace} (h : DataW.trod enc Tryd.prog w base spare held n 42 cs=some x) :
  ∃ (v : Value) (l : List (List Item)),cs=[v]∧Sts w v l:=by
 obtain ⟨v,rows,l,rfl,hs,_,ha⟩:=read_slice (k:=1) Tryd.underlying42 (by kernel_rfl) (by omega) (fun cs (a : List Item) => ∃ s,cs=srow s a∧Its w s a) (fun n cs x hl h=>by
  obtain ⟨u,l,e,hi,_⟩:=read_items Tryd.underlying57 h
  exact ⟨l,u,e,hi⟩) h
 obtain ⟨vs,h1,h2⟩:=ha.tab
 refine ⟨v,l,rfl,vs,h1,?_⟩
 rw [← h2,← ha.length]
 exact hs
theorem read_stk (n : Nat) (cs : List Value) (x : DataW H × List MemPlace) (hl : cs.length=2) (h : DataW.trod enc Tryd.prog w base spare held n 44 cs=some x) : ∃ (m : Stk) (s : Value),cs=krow s m∧Sts w s m.cells∧i64B m.num:=by
 have c64 : Tryd.prog.cellsOf 3=1:=by kernel_rfl
 have cS : Tryd.prog.cellsOf 42=1:=by kernel_rfl
 obtain ⟨xs,m,rfl,rfl,_,hx,hf⟩:=DataW.trod_struct Tryd.underlying44 h
 match cs,hl with
 | [c0,c1],_ =>
  have f0 : DataW.trod enc Tryd.prog w base spare held m 3 (([c0,c1].drop 0).take (Tryd.prog.cellsOf 3))=xs[0]? := hf 0 _ rfl
  have f1 : DataW.trod enc Tryd.prog w base spare held m 42 (([c0,c1].drop 1).take (Tryd.prog.cellsOf 42))=xs[1]? := hf 1 _ rfl
  rw [c64] at f0
  rw [cS] at f1
  match xs,hx with
  | [y0,y1],_ =>
   obtain ⟨p,e0,_,w0⟩:=DataW.trod_int Tryd.underlying3 f0
   obtain ⟨s,l,e1,hl⟩:=read_stacks f1
   simp at e0 e1
   subst e0 e1
   refine ⟨⟨p,l⟩,c1,rfl,hl,?_⟩
   simpa [Lit.wf,IntKind.min,IntKind.max,IntKind.signed,IntKind.bits,i64B] using w0
end
end Go.Proofs.YtnplphcnagooeaaDoor

/- Contracts: the tests of cells, the program's and the reference's. -/
namespace Go.Proofs.YtnplphcnagooeaaDoor
set_option maxRecDepth 100000
open Go.RowKit
set_option maxHeartbeats 400000 in
theorem allocs_in (n : Int) (w : World) : Calls Tryd.prog 88 #[.int .i64 n] w fun e w'=>e = .returned (.bool (inB n))∧w=w':=by
 by_cases h0 : 0≤n <;> by_cases h1 : n≤1000000
 all_goals
  go_enter Tryd.func88,Tryd.ntmps88
  go_wp2
  go_ret
  exact ⟨by simp [inB, *],rfl⟩
set_option maxHeartbeats 400000 in
theorem ref26_In (n : Int) (w : World) : Calls Tryd.prog 85 #[.int .i64 n] w fun e w'=>e = .returned (.bool (inB n))∧w=w':=by
 by_cases h0 : 0≤n <;> by_cases h1 : n≤1000000
 all_goals
  go_enter Tryd.func85,Tryd.ntmps85
  go_wp2
  go_ret
  exact ⟨by simp [inB, *],rfl⟩
set_option maxHeartbeats 1600000 in
theorem allocs_CheckCell (c : Cell) (w : World) : Calls Tryd.prog 66 #[c.val] w fun e w'=>e = .returned (.int .i64 (cellErr c))∧Ext w w':=by
 obtain ⟨k,n,a,o,t⟩:=c
 unfold Cell.val
 by_cases h0 : k=0
 ·subst h0
  go_enter Tryd.func66,Tryd.ntmps66
  go_wp2
  all_goals (go_ret;exact ⟨by simp [cellErr,Cell.ok,Cell.noP, *] <;> (first | omega | (simp_all;done) | (simp_all;omega)),(Ext.refl _).alloc _⟩)
 ·by_cases h1 : k=1
  ·subst h1
   go_enter Tryd.func66,Tryd.ntmps66
   go_wp2
   all_goals (go_ret;exact ⟨by simp [cellErr,Cell.ok,Cell.noP, *] <;> (first | omega | (simp_all;done) | (simp_all;omega)),(Ext.refl _).alloc _⟩)
  ·by_cases h2 : k=2
   ·subst h2
    cases ha : inB a <;> cases ht : inB t
    all_goals
     go_enter Tryd.func66,Tryd.ntmps66
     go_wp2_with (go_at_call 88;refine (allocs_in _ _).mono ?_;rintro e w' ⟨rfl,rfl⟩)
     all_goals (go_ret;exact ⟨by simp [cellErr,Cell.ok,Cell.noP, *] <;> (first | omega | (simp_all;done) | (simp_all;omega)),(Ext.refl _).alloc _⟩)
   ·go_enter Tryd.func66,Tryd.ntmps66
    go_wp2
    all_goals (go_ret;exact ⟨by simp [cellErr,Cell.ok,Cell.noP, *] <;> (first | omega | (simp_all;done) | (simp_all;omega)),(Ext.refl _).alloc _⟩)
set_option maxHeartbeats 1600000 in
theorem ref26_Cell (c : Cell) (w : World) : Calls Tryd.prog 86 #[c.val] w fun e w'=>e = .returned (.bool c.ok)∧Ext w w':=by
 obtain ⟨k,n,a,o,t⟩:=c
 unfold Cell.val
 by_cases h0 : k=0
 ·subst h0
  go_enter Tryd.func86,Tryd.ntmps86
  go_wp2
  all_goals (go_ret;exact ⟨by simp [cellErr,Cell.ok,Cell.noP, *] <;> (first | omega | (simp_all;done) | (simp_all;omega)),(Ext.refl _).alloc _⟩)
 ·by_cases h1 : k=1
  ·subst h1
   go_enter Tryd.func86,Tryd.ntmps86
   go_wp2
   all_goals (go_ret;exact ⟨by simp [cellErr,Cell.ok,Cell.noP, *] <;> (first | omega | (simp_all;done) | (simp_all;omega)),(Ext.refl _).alloc _⟩)
  ·by_cases h2 : k=2
   ·subst h2
    cases ha : inB a <;> cases ht : inB t
    all_goals
     go_enter Tryd.func86,Tryd.ntmps86
     go_wp2_with (go_at_call 85;refine (ref26_In _ _).mono ?_;rintro e w' ⟨rfl,rfl⟩)
     all_goals (go_ret;exact ⟨by simp [cellErr,Cell.ok,Cell.noP, *] <;> (first | omega | (simp_all;done) | (simp_all;omega)),(Ext.refl _).alloc _⟩)
   ·go_enter Tryd.func86,Tryd.ntmps86
    go_wp2
    all_goals (go_ret;exact ⟨by simp [cellErr,Cell.ok,Cell.noP, *] <;> (first | omega | (simp_all;done) | (simp_all;omega)),(Ext.refl _).alloc _⟩)
end Go.Proofs.YtnplphcnagooeaaDoor

/- Contracts: the check of a memory, the program's and the reference's. -/
namespace Go.Proofs.YtnplphcnagooeaaDoor
set_option maxRecDepth 100000
open Go.RowKit
theorem all_take_succ' {α : Type} {p : α→Bool} {l : List α} {k : Nat} {x : α} (h : (l.take k).all p=true) (hx : l[k]? = some x) (hp : p x=true) : (l.take (k+1)).all p=true:=by
 rw [List.take_add_one,hx]
 simp [List.all_append,h,hp]
theorem all_miss' {α : Type} {p : α→Bool} {l : List α} {k : Nat} {x : α} (hx : l[k]? = some x) (hp : p x=false) : l.all p=false:=by
 rw [List.all_eq_false]
 exact ⟨x,List.mem_of_getElem? hx,by simp [hp]⟩
def cellIn (live : Bool) (c : Cell) : Bool:=c.ok && (live || c.k == 0)
theorem okAl_step {next least : Int} {l : List Alloc} {k : Nat} {x : Alloc} (hx : l[k]? = some x) (h1 : least≤x.num) (h2 : x.num < next) (h3 : 1≤x.cells.length) (h4 : x.cells.length≤2) (h5 : x.cells.all (cellIn x.live)=true) :
  okAl next least (l.drop k)=okAl next (x.num+1) (l.drop (k+1)):=by
 have h5' : x.cells.all (fun c=>c.ok && (x.live || c.k == 0))=true:=h5
 rw [okAl_drop hx,h5']
 simp [h1,h2,h3,h4]
theorem okAl_stop {next least : Int} {l : List Alloc} {k : Nat} {x : Alloc} (hx : l[k]? = some x) (h : ¬ (least≤x.num∧x.num < next∧1≤x.cells.length∧x.cells.length≤2∧x.cells.all (cellIn x.live)=true)) : okAl next least (l.drop k)=false:=by
 rw [okAl_drop hx,← Bool.not_eq_true]
 intro e
 simp only [Bool.and_eq_true,decide_eq_true_eq] at e
 exact h ⟨e.1.1.1.1.1,e.1.1.1.1.2,e.1.1.1.2,e.1.1.2,e.1.2⟩
theorem memErr_ok {l : List Alloc} {next : Int} (h : okM l next=true) : memErr l next=0:=by simp [memErr,h]
theorem memErr_bad {l : List Alloc} {next : Int} (h : okM l next=false) : memErr l next=8:=by simp [memErr,h]
set_option maxHeartbeats 1600000 in
theorem allocs_Check {l : List Alloc} {next : Int} {s : Value} {w : World} (hl : Als w s l) (hn : i64B next) :
  Calls Tryd.prog 51 #[.agg #[s,.int .i64 next]] w fun e w'=>e = .returned (.int .i64 (memErr l next))∧Ext w w':=by
 have hE0:=(Ext.refl w).alloc (.cells #[s,.int .i64 next] 31)
 obtain ⟨a,cp,rfl,hlc,hcm,-⟩:=hl.form
 unfold maxLen at hcm
 obtain ⟨hn1,hn2⟩:=hn
 by_cases h4 : l.length≤400
 ·have hd : decide ((400 : Int) < (l.length : Int))=false:=decide_eq_false (by omega)
  cases hb : inB next
  ·have hb':=Lib.hid hb
   go_enter Tryd.func51,Tryd.ntmps51
   go_wp2_with (go_at_call 88;refine (allocs_in _ _).mono ?_;rintro e w' ⟨rfl,rfl⟩)
   go_ret
   exact ⟨by rw [memErr_bad (by simp [okM,hb'.out])];rfl,hE0⟩
  ·have hb':=Lib.hid hb
   have hbnd : 0≤next∧next≤1000000:=by simpa [inB] using hb
   have c0 : (w.alloc (.cells #[.slice a l.length cp,.int .i64 next] 31)).cell? ⟨w.heap.size,0,none⟩=some (.slice a l.length cp):=by simp
   have c1 : (w.alloc (.cells #[.slice a l.length cp,.int .i64 next] 31)).cell? ⟨w.heap.size,1,none⟩=some (.int .i64 next):=by simp
   go_enter Tryd.func51,Tryd.ntmps51
   go_wp2_with (go_at_call 88;refine (allocs_in _ _).mono ?_;rintro e w' ⟨rfl,rfl⟩)
   obtain ⟨w1,hw1⟩ : ∃ w1,w.alloc (.cells #[.slice a l.length cp,.int .i64 next] 31)=w1:=⟨_,rfl⟩
   rw [hw1] at hE0 c0 c1 ⊢
   clear hw1
   go_loopw [3,21] (fun lv iv wr => ∃ (k : Nat) (least : Int),k≤l.length∧iv = .int .i64 k∧lv = .int .i64 least∧(0≤least∧least≤1000000)∧Ext w1 wr∧Hid (okAl next 0 l=okAl next least (l.drop k))) (fun _ iv _=>l.length - (intOf iv).toNat)
   case atStart=>exact ⟨0,0,Nat.zero_le _,rfl,rfl,by omega,Ext.refl _,by simp [Hid]⟩
   case round =>
    obtain ⟨k,least,hk,rfl,rfl,hleast,hE,hN⟩:=hrel
    have hF:=hE0.trans hE
    by_cases hlt : k < l.length
    ·obtain ⟨x,hx⟩ : ∃ x,l[k]? = some x:=⟨l[k],by simp [hlt]⟩
     obtain ⟨b,off,sv,rfl,hbb,d0,d1,d2,hcl⟩:=(hl.ext hF).cell hx
     have hX:=Lib.hid hx
     obtain ⟨ca,ccp,rfl,hclc,hccm,-⟩:=hcl.form
     unfold maxLen at hccm
     have hCl:=Lib.hid hcl
     have e0:=hE.cell c0
     have e1:=hE.cell c1
     have hblk : w.heap.size < wr.heap.size:=World.block_lt_of_cell? wr _ e0
     clear hx hcl
     by_cases hg : least≤x.num∧x.num < next∧1≤x.cells.length∧x.cells.length≤2
     ·have g0 : decide (x.num < least)=false:=decide_eq_false (by omega)
      have g1 : decide (next≤x.num)=false:=decide_eq_false (by omega)
      have g2 : ((x.cells.length : Int) == 0)=false:=beq_eq_false_iff_ne.2 (by omega)
      have g3 : decide ((2 : Int) < (x.cells.length : Int))=false:=decide_eq_false (by omega)
      have hx1 : 0≤x.num∧x.num≤1000000:=by omega
      have hx2 : Hid (0≤x.num+1∧x.num+1≤1000000):=Hid.mk (by omega)
      have hG:=Lib.hid hg
      clear hg
      have hF2:=hF.trans ((Ext.refl wr).alloc (.cells #[.int .i64 x.num,.bool x.live,.slice ca x.cells.length ccp] 109))
      have hE2:=hE.trans ((Ext.refl wr).alloc (.cells #[.int .i64 x.num,.bool x.live,.slice ca x.cells.length ccp] 109))
      have b0 : (wr.alloc (.cells #[.int .i64 x.num,.bool x.live,.slice ca x.cells.length ccp] 109)).cell? ⟨wr.heap.size,0,none⟩=some (.int .i64 x.num):=by simp
      have b1 : (wr.alloc (.cells #[.int .i64 x.num,.bool x.live,.slice ca x.cells.length ccp] 109)).cell? ⟨wr.heap.size,1,none⟩=some (.bool x.live):=by simp
      replace hCl:=Lib.hid (hCl.out.ext ((Ext.refl wr).alloc (.cells #[.int .i64 x.num,.bool x.live,.slice ca x.cells.length ccp] 109)))
      go_wp2
      obtain ⟨w2,hw2⟩ : ∃ w2,wr.alloc (.cells #[.int .i64 x.num,.bool x.live,.slice ca x.cells.length ccp] 109)=w2:=⟨_,rfl⟩
      rw [hw2] at hF2 hE2 b0 b1 hCl ⊢
      clear hw2
      go_loopw [54] (fun jv wq => ∃ j : Nat,j≤x.cells.length∧jv = .int .i64 j∧Ext w2 wq∧Hid ((x.cells.take j).all (cellIn x.live)=true)) (fun jv _=>x.cells.length - (intOf jv).toNat)
      case atStart=>exact ⟨0,Nat.zero_le _,rfl,Ext.refl _,by simp [Hid]⟩
      case round =>
       obtain ⟨j,hj,rfl,hE3,hA⟩:=hrel
       have hF3:=hF2.trans hE3
       replace b0:=hE3.cell b0
       replace b1:=hE3.cell b1
       replace hE2:=hE2.trans hE3
       have hblk2:=World.block_lt_of_cell? _ _ b0
       by_cases hjl : j < x.cells.length
       ·obtain ⟨c,hc⟩ : ∃ c,x.cells[j]? = some c:=⟨x.cells[j],by simp [hjl]⟩
        obtain ⟨cb,coff,rfl,hcb,f0,f1,f2,f3,f4⟩:=(hCl.out.ext hE3).cell hc
        have hXC:=Lib.hid hc
        clear hc
        have hCk:=Lib.hid (allocs_CheckCell c)
        unfold Cell.val at hCk
        have z0 : (wr.alloc (.cells #[.int .u8 c.k,.int .i64 c.n,.int .i64 c.a,.int .i64 c.o,.int .i64 c.t] 28)).cell? ⟨wr.heap.size,0,none⟩=some (.int .u8 c.k):=by simp
        have hEa:=(Ext.refl wr).alloc (.cells #[.int .u8 c.k,.int .i64 c.n,.int .i64 c.a,.int .i64 c.o,.int .i64 c.t] 28)
        replace b1:=hEa.cell b1
        have hZ:=Lib.hid z0
        have hB:=Lib.hid b1
        clear z0 b1
        cases hok : c.ok
        ·have hce : Hid (cellErr c=8):=Hid.mk (by simp [cellErr,hok])
         have hbad:=Lib.hid (okAl_stop hX.out (next:=next) (least:=least) (fun h=>by have:=h.2.2.2.2;rw [all_miss' hXC.out (by simp [cellIn,hok])] at this;cases this))
         clear hok
         go_wp2_with fail
         refine (hCk.out _).mono ?_
         rintro e w4 ⟨rfl,hE4⟩
         rw [hce.out]
         go_wp2
         go_ret
         exact ⟨by rw [memErr_bad (by simp [okM,hN.out,hbad.out])];rfl,(hF3.trans hEa).trans hE4⟩
        ·have hce : Hid (cellErr c=0):=Hid.mk (by simp [cellErr,hok])
         cases hlv : x.live
         ·by_cases hk0 : c.k=0
          ·have hk0' : (c.k != 0)=false:=by simp [hk0]
           have hA2:=Lib.hid (all_take_succ' hA.out hXC.out (by simp [cellIn,hok,hk0]))
           have hlv':=Lib.hid hlv
           clear hok hk0 hlv
           go_wp2_with fail
           refine (hCk.out _).mono ?_
           rintro e w4 ⟨rfl,hE4⟩
           rw [hce.out]
           have z0:=hE4.cell hZ.out
           have b1:=hE4.cell hB.out
           rw [hlv'.out] at b1
           go_wp2
           go_roundw
           case rel=>exact ⟨j+1,by omega,by go_num,(hE3.trans hEa).trans hE4,by have h:=hA2.out;rw [hlv'.out] at h;exact h⟩
           case measure=>simp [intOf];omega
          ·have hk0' : (c.k != 0)=true:=by simp [hk0]
           have hbad:=Lib.hid (okAl_stop hX.out (next:=next) (least:=least) (fun h=>by have:=h.2.2.2.2;rw [all_miss' hXC.out (by simp [cellIn,hok,hlv,hk0])] at this;cases this))
           have hlv':=Lib.hid hlv
           clear hok hk0 hlv
           go_wp2_with fail
           refine (hCk.out _).mono ?_
           rintro e w4 ⟨rfl,hE4⟩
           rw [hce.out]
           have z0:=hE4.cell hZ.out
           have b1:=hE4.cell hB.out
           rw [hlv'.out] at b1
           go_wp2
           go_ret
           exact ⟨by rw [memErr_bad (by simp [okM,hN.out,hbad.out])];rfl,(hF3.trans hEa).trans hE4⟩
         ·have hA2:=Lib.hid (all_take_succ' hA.out hXC.out (by simp [cellIn,hok,hlv]))
          have hlv':=Lib.hid hlv
          clear hok hlv
          go_wp2_with fail
          refine (hCk.out _).mono ?_
          rintro e w4 ⟨rfl,hE4⟩
          rw [hce.out]
          have b1:=hE4.cell hB.out
          rw [hlv'.out] at b1
          go_wp2
          go_roundw
          case rel=>exact ⟨j+1,by omega,by go_num,(hE3.trans hEa).trans hE4,by have h:=hA2.out;rw [hlv'.out] at h;exact h⟩
          case measure=>simp [intOf];omega
       ·have hje : j=x.cells.length:=by omega
        subst hje
        have hA':=hA.out
        rw [List.take_length] at hA'
        have hG':=hG.out
        have hst:=Lib.hid (hN.out.trans (okAl_step hX.out hG'.1 hG'.2.1 hG'.2.2.1 hG'.2.2.2 hA'))
        clear hA' hG'
        go_wp2
        go_roundw
        case rel=>exact ⟨k+1,x.num+1,by omega,by go_num,rfl,hx2.out,hE2,hst.out⟩
        case measure=>simp [intOf];omega
     ·have hbad:=Lib.hid (okAl_stop hX.out (next:=next) (least:=least) (fun h=>hg ⟨h.1,h.2.1,h.2.2.1,h.2.2.2.1⟩))
      by_cases q0 : x.num < least
      ·have q0' : decide (x.num < least)=true:=decide_eq_true q0
       go_wp2
       go_ret
       exact ⟨by rw [memErr_bad (by simp [okM,hN.out,hbad.out])];rfl,hF.trans ((Ext.refl wr).alloc _)⟩
      ·have q0' : decide (x.num < least)=false:=decide_eq_false q0
       by_cases q1 : next≤x.num
       ·have q1' : decide (next≤x.num)=true:=decide_eq_true q1
        go_wp2
        go_ret
        exact ⟨by rw [memErr_bad (by simp [okM,hN.out,hbad.out])];rfl,hF.trans ((Ext.refl wr).alloc _)⟩
       ·have q1' : decide (next≤x.num)=false:=decide_eq_false q1
        by_cases q2 : x.cells.length=0
        ·have q2' : ((x.cells.length : Int) == 0)=true:=beq_iff_eq.2 (by omega)
         clear q2
         go_wp2
         go_ret
         exact ⟨by rw [memErr_bad (by simp [okM,hN.out,hbad.out])];rfl,hF.trans ((Ext.refl wr).alloc _)⟩
        ·have q2' : ((x.cells.length : Int) == 0)=false:=beq_eq_false_iff_ne.2 (by omega)
         have q3' : decide ((2 : Int) < (x.cells.length : Int))=true:=decide_eq_true (by omega)
         clear q2
         clear hg
         go_wp2
         go_ret
         exact ⟨by rw [memErr_bad (by simp [okM,hN.out,hbad.out])];rfl,hF.trans ((Ext.refl wr).alloc _)⟩
    ·have hkl : k=l.length:=by omega
     subst hkl
     go_wp2
     go_ret
     exact ⟨by rw [memErr_ok (by simp [okM,hN.out,okAl,hb'.out,h4])];rfl,hF⟩
 ·have hd : decide ((400 : Int) < (l.length : Int))=true:=decide_eq_true (by omega)
  go_enter Tryd.func51,Tryd.ntmps51
  go_wp2
  go_ret
  exact ⟨by rw [memErr_bad (by simp [okM,h4])];rfl,hE0⟩
set_option maxHeartbeats 1600000 in
theorem ref26_Check {l : List Alloc} {next : Int} {s : Value} {w : World} (hl : Als w s l) (hn : i64B next) :
  Calls Tryd.prog 48 #[.agg #[s,.int .i64 next]] w fun e w'=>e = .returned (.int .i64 (memErr l next))∧Ext w w':=by
 have hE0:=(Ext.refl w).alloc (.cells #[s,.int .i64 next] 31)
 obtain ⟨a,cp,rfl,hlc,hcm,-⟩:=hl.form
 unfold maxLen at hcm
 obtain ⟨hn1,hn2⟩:=hn
 by_cases h4 : l.length≤400
 ·have hd : decide ((400 : Int) < (l.length : Int))=false:=decide_eq_false (by omega)
  cases hb : inB next
  ·have hb':=Lib.hid hb
   go_enter Tryd.func48,Tryd.ntmps48
   go_wp2_with (go_at_call 85;refine (ref26_In _ _).mono ?_;rintro e w' ⟨rfl,rfl⟩)
   go_ret
   exact ⟨by rw [memErr_bad (by simp [okM,hb'.out])];rfl,hE0⟩
  ·have hb':=Lib.hid hb
   have hbnd : 0≤next∧next≤1000000:=by simpa [inB] using hb
   have c0 : (w.alloc (.cells #[.slice a l.length cp,.int .i64 next] 31)).cell? ⟨w.heap.size,0,none⟩=some (.slice a l.length cp):=by simp
   have c1 : (w.alloc (.cells #[.slice a l.length cp,.int .i64 next] 31)).cell? ⟨w.heap.size,1,none⟩=some (.int .i64 next):=by simp
   go_enter Tryd.func48,Tryd.ntmps48
   go_wp2_with (go_at_call 85;refine (ref26_In _ _).mono ?_;rintro e w' ⟨rfl,rfl⟩)
   obtain ⟨w1,hw1⟩ : ∃ w1,w.alloc (.cells #[.slice a l.length cp,.int .i64 next] 31)=w1:=⟨_,rfl⟩
   rw [hw1] at hE0 c0 c1 ⊢
   clear hw1
   go_loopw [3,4] (fun lv iv wr => ∃ (k : Nat) (last : Int),k≤l.length∧iv = .int .i64 k∧lv = .int .i64 last∧(-1≤last∧last≤1000000)∧Ext w1 wr∧Hid (okAl next 0 l=okAl next (last+1) (l.drop k))) (fun _ iv _=>l.length - (intOf iv).toNat)
   case atStart=>exact ⟨0,-1,Nat.zero_le _,rfl,rfl,by omega,Ext.refl _,by simp [Hid]⟩
   case round =>
    obtain ⟨k,last,hk,rfl,rfl,hlast,hE,hN⟩:=hrel
    have hF:=hE0.trans hE
    have e0:=hE.cell c0
    have e1:=hE.cell c1
    have hblk : w.heap.size < wr.heap.size:=World.block_lt_of_cell? wr _ e0
    by_cases hlt : k < l.length
    ·obtain ⟨x,hx⟩ : ∃ x,l[k]? = some x:=⟨l[k],by simp [hlt]⟩
     obtain ⟨b,off,sv,rfl,hbb,d0,d1,d2,hcl⟩:=(hl.ext hF).cell hx
     have hX:=Lib.hid hx
     obtain ⟨ca,ccp,rfl,hclc,hccm,-⟩:=hcl.form
     unfold maxLen at hccm
     have hCl:=Lib.hid hcl
     clear hx hcl
     by_cases hg : last+1≤x.num∧x.num < next∧1≤x.cells.length∧x.cells.length≤2
     ·have g0 : decide (x.num≤last)=false:=decide_eq_false (by omega)
      have g1 : decide (next≤x.num)=false:=decide_eq_false (by omega)
      have g2 : decide ((x.cells.length : Int) < 1)=false:=decide_eq_false (by omega)
      have g3 : decide ((2 : Int) < (x.cells.length : Int))=false:=decide_eq_false (by omega)
      have hx1 : 0≤x.num∧x.num≤1000000:=by omega
      have hx2 : Hid (-1≤x.num∧x.num≤1000000):=Hid.mk (by omega)
      have hG:=Lib.hid hg
      clear hg
      have hF2:=hF.trans ((Ext.refl wr).alloc (.cells #[.int .i64 x.num,.bool x.live,.slice ca x.cells.length ccp] 109))
      have hE2:=hE.trans ((Ext.refl wr).alloc (.cells #[.int .i64 x.num,.bool x.live,.slice ca x.cells.length ccp] 109))
      have b0 : (wr.alloc (.cells #[.int .i64 x.num,.bool x.live,.slice ca x.cells.length ccp] 109)).cell? ⟨wr.heap.size,0,none⟩=some (.int .i64 x.num):=by simp
      have b1 : (wr.alloc (.cells #[.int .i64 x.num,.bool x.live,.slice ca x.cells.length ccp] 109)).cell? ⟨wr.heap.size,1,none⟩=some (.bool x.live):=by simp
      have b2 : (wr.alloc (.cells #[.int .i64 x.num,.bool x.live,.slice ca x.cells.length ccp] 109)).cell? ⟨wr.heap.size,2,none⟩=some (.slice ca x.cells.length ccp):=by simp
      replace hCl:=Lib.hid (hCl.out.ext ((Ext.refl wr).alloc (.cells #[.int .i64 x.num,.bool x.live,.slice ca x.cells.length ccp] 109)))
      go_wp2
      obtain ⟨w2,hw2⟩ : ∃ w2,wr.alloc (.cells #[.int .i64 x.num,.bool x.live,.slice ca x.cells.length ccp] 109)=w2:=⟨_,rfl⟩
      rw [hw2] at hF2 hE2 b0 b1 b2 hCl ⊢
      clear hw2
      go_loopw [6] (fun jv wq => ∃ j : Nat,j≤x.cells.length∧jv = .int .i64 j∧Ext w2 wq∧Hid ((x.cells.take j).all (cellIn x.live)=true)) (fun jv _=>x.cells.length - (intOf jv).toNat)
      case atStart=>exact ⟨0,Nat.zero_le _,rfl,Ext.refl _,by simp [Hid]⟩
      case round =>
       obtain ⟨j,hj,rfl,hE3,hA⟩:=hrel
       have hF3:=hF2.trans hE3
       replace b0:=hE3.cell b0
       replace b1:=hE3.cell b1
       replace b2:=hE3.cell b2
       replace hE2:=hE2.trans hE3
       have hblk2:=World.block_lt_of_cell? _ _ b0
       by_cases hjl : j < x.cells.length
       ·obtain ⟨c,hc⟩ : ∃ c,x.cells[j]? = some c:=⟨x.cells[j],by simp [hjl]⟩
        obtain ⟨cb,coff,rfl,hcb,f0,f1,f2,f3,f4⟩:=(hCl.out.ext hE3).cell hc
        have hXC:=Lib.hid hc
        clear hc
        have hCk:=Lib.hid (ref26_Cell c)
        unfold Cell.val at hCk
        have hEa:=Ext.refl wr
        have z0:=f0
        have hZ:=Lib.hid z0
        have hB:=Lib.hid b1
        clear z0 b1
        cases hok : c.ok
        ·have hce : Hid (c.ok=false):=Hid.mk hok
         have hbad:=Lib.hid (okAl_stop hX.out (next:=next) (least:=last+1) (fun h=>by have:=h.2.2.2.2;rw [all_miss' hXC.out (by simp [cellIn,hok])] at this;cases this))
         clear hok
         go_wp2_with fail
         refine (hCk.out _).mono ?_
         rintro e w4 ⟨rfl,hE4⟩
         rw [hce.out]
         go_wp2
         go_ret
         exact ⟨by rw [memErr_bad (by simp [okM,hN.out,hbad.out])];rfl,(hF3.trans hEa).trans hE4⟩
        ·have hce : Hid (c.ok=true):=Hid.mk hok
         cases hlv : x.live
         ·by_cases hk0 : c.k=0
          ·have hk0' : (c.k != 0)=false:=by simp [hk0]
           have hA2:=Lib.hid (all_take_succ' hA.out hXC.out (by simp [cellIn,hok,hk0]))
           have hlv':=Lib.hid hlv
           clear hok hk0 hlv
           go_wp2_with fail
           refine (hCk.out _).mono ?_
           rintro e w4 ⟨rfl,hE4⟩
           rw [hce.out]
           have z0:=hE4.cell hZ.out
           have b2:=hE4.cell b2
           have b1:=hE4.cell hB.out
           rw [hlv'.out] at b1
           go_wp2
           go_roundw
           case rel=>exact ⟨j+1,by omega,by go_num,(hE3.trans hEa).trans hE4,by have h:=hA2.out;rw [hlv'.out] at h;exact h⟩
           case measure=>simp [intOf];omega
          ·have hk0' : (c.k != 0)=true:=by simp [hk0]
           have hbad:=Lib.hid (okAl_stop hX.out (next:=next) (least:=last+1) (fun h=>by have:=h.2.2.2.2;rw [all_miss' hXC.out (by simp [cellIn,hok,hlv,hk0])] at this;cases this))
           have hlv':=Lib.hid hlv
           clear hok hk0 hlv
           go_wp2_with fail
           refine (hCk.out _).mono ?_
           rintro e w4 ⟨rfl,hE4⟩
           rw [hce.out]
           have z0:=hE4.cell hZ.out
           have b2:=hE4.cell b2
           have b1:=hE4.cell hB.out
           rw [hlv'.out] at b1
           go_wp2
           go_ret
           exact ⟨by rw [memErr_bad (by simp [okM,hN.out,hbad.out])];rfl,(hF3.trans hEa).trans hE4⟩
         ·have hA2:=Lib.hid (all_take_succ' hA.out hXC.out (by simp [cellIn,hok,hlv]))
          have hlv':=Lib.hid hlv
          clear hok hlv
          go_wp2_with fail
          refine (hCk.out _).mono ?_
          rintro e w4 ⟨rfl,hE4⟩
          rw [hce.out]
          have b2:=hE4.cell b2
          have b1:=hE4.cell hB.out
          rw [hlv'.out] at b1
          go_wp2
          go_roundw
          case rel=>exact ⟨j+1,by omega,by go_num,(hE3.trans hEa).trans hE4,by have h:=hA2.out;rw [hlv'.out] at h;exact h⟩
          case measure=>simp [intOf];omega
       ·have hje : j=x.cells.length:=by omega
        subst hje
        have hA':=hA.out
        rw [List.take_length] at hA'
        have hG':=hG.out
        have hst:=Lib.hid (hN.out.trans (okAl_step hX.out hG'.1 hG'.2.1 hG'.2.2.1 hG'.2.2.2 hA'))
        clear hA' hG'
        go_wp2
        go_roundw
        case rel=>exact ⟨k+1,x.num,by omega,by go_num,rfl,hx2.out,hE2,hst.out⟩
        case measure=>simp [intOf];omega
     ·have hbad:=Lib.hid (okAl_stop hX.out (next:=next) (least:=last+1) (fun h=>hg ⟨h.1,h.2.1,h.2.2.1,h.2.2.2.1⟩))
      by_cases q0 : x.num≤last
      ·have q0' : decide (x.num≤last)=true:=decide_eq_true q0
       go_wp2
       go_ret
       exact ⟨by rw [memErr_bad (by simp [okM,hN.out,hbad.out])];rfl,hF.trans ((Ext.refl wr).alloc _)⟩
      ·have q0' : decide (x.num≤last)=false:=decide_eq_false q0
       by_cases q1 : next≤x.num
       ·have q1' : decide (next≤x.num)=true:=decide_eq_true q1
        go_wp2
        go_ret
        exact ⟨by rw [memErr_bad (by simp [okM,hN.out,hbad.out])];rfl,hF.trans ((Ext.refl wr).alloc _)⟩
       ·have q1' : decide (next≤x.num)=false:=decide_eq_false q1
        by_cases q2 : x.cells.length=0
        ·have q2' : decide ((x.cells.length : Int) < 1)=true:=decide_eq_true (by omega)
         clear q2
         go_wp2
         go_ret
         exact ⟨by rw [memErr_bad (by simp [okM,hN.out,hbad.out])];rfl,hF.trans ((Ext.refl wr).alloc _)⟩
        ·have q2' : decide ((x.cells.length : Int) < 1)=false:=decide_eq_false (by omega)
         have q3' : decide ((2 : Int) < (x.cells.length : Int))=true:=decide_eq_true (by omega)
         clear q2
         clear hg
         go_wp2
         go_ret
         exact ⟨by rw [memErr_bad (by simp [okM,hN.out,hbad.out])];rfl,hF.trans ((Ext.refl wr).alloc _)⟩
    ·have hkl : k=l.length:=by omega
     subst hkl
     go_wp2
     go_ret
     exact ⟨by rw [memErr_ok (by simp [okM,hN.out,okAl,hb'.out,h4])];rfl,hF⟩
 ·have hd : decide ((400 : Int) < (l.length : Int))=true:=decide_eq_true (by omega)
  go_enter Tryd.func48,Tryd.ntmps48
  go_wp2
  go_ret
  exact ⟨by rw [memErr_bad (by simp [okM,h4])];rfl,hE0⟩
end Go.Proofs.YtnplphcnagooeaaDoor

/- Contracts: Great, At, SameAlloc and Same of the reference of layer 26; find of the program. -/
namespace Go.Proofs.YtnplphcnagooeaaDoor
set_option maxRecDepth 100000
open Go.RowKit
theorem any_take_succ' {α : Type} {p : α→Bool} {l : List α} {k : Nat} {x : α} (h : (l.take k).any p=false) (hx : l[k]? = some x) (hp : p x=false) : (l.take (k+1)).any p=false:=by
 rw [List.take_add_one,hx]
 simp [List.any_append,h,hp]
theorem any_hit {α : Type} {p : α→Bool} {l : List α} {k : Nat} {x : α} (hx : l[k]? = some x) (hp : p x=true) : l.any p=true :=
 List.any_eq_true.2 ⟨x,List.mem_of_getElem? hx,hp⟩
def wide (a : Alloc) : Bool:=decide (5 < a.cells.length)
theorem greatM_eq (l : List Alloc) : greatM l=((l.take 411).any wide || decide (410 < l.length)):=rfl
theorem greatM_hit {l : List Alloc} {k : Nat} {x : Alloc} (hx : l[k]? = some x) (hk : k≤410) (hp : wide x=true) : greatM l=true:=by
 rw [greatM_eq,any_hit (k:=k) (x:=x) (by rw [List.getElem?_take,if_pos (by omega)];exact hx) hp,Bool.true_or]
set_option maxHeartbeats 800000 in
theorem ref26_Great {l : List Alloc} {next : Int} {s : Value} {w : World} (hl : Als w s l) :
  Calls Tryd.prog 46 #[.agg #[s,.int .i64 next]] w fun e w'=>e = .returned (.bool (greatM l))∧Ext w w':=by
 have hE0:=(Ext.refl w).alloc (.cells #[s,.int .i64 next] 31)
 have hl0:=hl.ext hE0
 obtain ⟨a,cp,rfl,hlc,hcm,-⟩:=hl.form
 unfold maxLen at hcm
 have hW:=Lib.hid hl0
 clear hl hl0
 go_enter Tryd.func46,Tryd.ntmps46
 go_wp2
 go_loop [3] (fun iv => ∃ k : Nat,k≤l.length∧k≤411∧iv = .int .i64 k∧Hid ((l.take k).any wide=false)) (fun iv=>l.length - (intOf iv).toNat)
 case atStart=>exact ⟨0,Nat.zero_le _,by omega,rfl,by simp [Hid]⟩
 case round =>
  obtain ⟨k,hk,hk4,rfl,hN⟩:=hrel
  by_cases hlt : k < l.length
  ·have hlt' : decide ((k : Int) < (l.length : Int))=true:=decide_eq_true (by omega)
   by_cases h4 : k≤410
   ·have h4' : decide ((k : Int)≤410)=true:=decide_eq_true (by omega)
    obtain ⟨x,hx⟩ : ∃ x,l[k]? = some x:=⟨l[k],by simp [hlt]⟩
    obtain ⟨b,off,sv,rfl,hbb,d0,d1,d2,hcl⟩:=hW.out.cell hx
    have hX:=Lib.hid hx
    obtain ⟨ca,ccp,rfl,hclc,hccm,-⟩:=hcl.form
    clear hx hcl
    by_cases h5 : 5 < x.cells.length
    ·have h5' : decide ((5 : Int) < (x.cells.length : Int))=true:=decide_eq_true (by omega)
     have hg:=Lib.hid (greatM_hit hX.out h4 (by simp [wide,h5]))
     go_wp2
     go_ret
     exact ⟨by rw [hg.out];rfl,hE0⟩
    ·have h5' : decide ((5 : Int) < (x.cells.length : Int))=false:=decide_eq_false (by omega)
     have hN2:=Lib.hid (any_take_succ' hN.out hX.out (by simp [wide,h5]))
     go_wp2
     go_round
     case rel=>exact ⟨k+1,by omega,by omega,by go_num,hN2.out⟩
     case measure=>simp [intOf];omega
   ·have h4' : decide ((k : Int)≤410)=false:=decide_eq_false (by omega)
    have h6 : decide ((410 : Int) < (l.length : Int))=true:=decide_eq_true (by omega)
    have hg : Hid (greatM l=true):=Hid.mk (by rw [greatM_eq,decide_eq_true (by omega : 410 < l.length),Bool.or_true])
    go_wp2
    go_ret
    exact ⟨by rw [hg.out];rfl,hE0⟩
  ·have hlt' : decide ((k : Int) < (l.length : Int))=false:=decide_eq_false (by omega)
   have hkl : k=l.length:=by omega
   by_cases h6 : 410 < l.length
   ·have h6' : decide ((410 : Int) < (l.length : Int))=true:=decide_eq_true (by omega)
    have hg : Hid (greatM l=true):=Hid.mk (by rw [greatM_eq,decide_eq_true h6,Bool.or_true])
    clear hkl
    go_wp2
    go_ret
    exact ⟨by rw [hg.out];rfl,hE0⟩
   ·have h6' : decide ((410 : Int) < (l.length : Int))=false:=decide_eq_false (by omega)
    have hN':=hN.out
    have hg : Hid (greatM l=false):=Hid.mk (by rw [greatM_eq,decide_eq_false h6,Bool.or_false,List.take_of_length_le (by omega)];rw [hkl,List.take_length] at hN';exact hN')
    clear hkl hN'
    go_wp2
    go_ret
    exact ⟨by rw [hg.out];rfl,hE0⟩
def numIs (n : Int) (a : Alloc) : Bool:=a.num == n
def ixM : Option Nat→Int
 | none => -1
 | some i=>i
def idxM (l : List Alloc) (n : Int) : Int:=ixM (atNum l n)
theorem idxM_hit {l : List Alloc} {n : Int} {k : Nat} {x : Alloc} (h : (l.take k).any (numIs n)=false) (hx : l[k]? = some x) (hp : numIs n x=true) : atNum l n=some k:=by
 unfold atNum
 rw [List.findIdx?_eq_some_iff_getElem]
 obtain ⟨hk,rfl⟩:=List.getElem?_eq_some_iff.1 hx
 refine ⟨hk,hp,fun j hj => ?_⟩
 simp only [List.any_eq_false] at h
 have:=h l[j] (by rw [List.mem_iff_getElem?];exact ⟨j,by rw [List.getElem?_take,if_pos hj];simp⟩)
 simpa [numIs] using this
theorem idxM_miss {l : List Alloc} {n : Int} (h : l.any (numIs n)=false) : atNum l n=none:=by
 unfold atNum
 rw [List.findIdx?_eq_none_iff]
 simpa [List.any_eq_false,numIs] using h
theorem atNum_lt {l : List Alloc} {n : Int} {i : Nat} (h : atNum l n=some i) : i < l.length∧(l.getD i Alloc.zero).num=n:=by
 unfold atNum at h
 rw [List.findIdx?_eq_some_iff_getElem] at h
 obtain ⟨hi,hp,_⟩:=h
 refine ⟨hi,?_⟩
 rw [List.getD_eq_getElem?_getD,List.getElem?_eq_getElem hi]
 simpa using hp
theorem any_take_succ'' {α : Type} {p : α→Bool} {l : List α} {k : Nat} {x : α} (h : (l.take k).any p=false) (hx : l[k]? = some x) (hp : p x=false) : (l.take (k+1)).any p=false:=by
 rw [List.take_add_one,hx]
 simp [List.any_append,h,hp]
set_option maxHeartbeats 800000 in
theorem ref26_At {l : List Alloc} {next : Int} {s : Value} {w : World} (n : Int) (hl : Als w s l) :
  Calls Tryd.prog 23 #[.agg #[s,.int .i64 next],.int .i64 n] w fun e w'=>e = .returned (.int .i64 (idxM l n))∧Ext w w':=by
 have hE0:=(Ext.refl w).alloc (.cells #[s,.int .i64 next] 31)
 have hl0:=hl.ext hE0
 obtain ⟨a,cp,rfl,hlc,hcm,-⟩:=hl.form
 unfold maxLen at hcm
 have hW:=Lib.hid hl0
 clear hl hl0
 go_enter Tryd.func23,Tryd.ntmps23
 go_wp2
 go_loop [5] (fun iv => ∃ k : Nat,k≤l.length∧iv = .int .i64 k∧Hid ((l.take k).any (numIs n)=false)) (fun iv=>l.length - (intOf iv).toNat)
 case atStart=>exact ⟨0,Nat.zero_le _,rfl,by simp [Hid]⟩
 case round =>
  obtain ⟨k,hk,rfl,hN⟩:=hrel
  by_cases hlt : k < l.length
  ·obtain ⟨x,hx⟩ : ∃ x,l[k]? = some x:=⟨l[k],by simp [hlt]⟩
   obtain ⟨b,off,sv,rfl,hbb,d0,d1,d2,hcl⟩:=hW.out.cell hx
   have hX:=Lib.hid hx
   clear hx hcl
   cases h5 : x.num == n
   ·have hN2:=Lib.hid (any_take_succ'' hN.out hX.out (p:=numIs n) h5)
    go_wp2
    go_round
    case rel=>exact ⟨k+1,by omega,by go_num,hN2.out⟩
    case measure=>simp [intOf];omega
   ·have hg:=Lib.hid (idxM_hit hN.out hX.out h5)
    go_wp2
    go_ret
    exact ⟨by rw [idxM,hg.out];rfl,hE0⟩
  ·have hkl : k=l.length:=by omega
   subst hkl
   have hN':=hN.out
   rw [List.take_length] at hN'
   have hg:=Lib.hid (idxM_miss hN')
   clear hN'
   go_wp2
   go_ret
   exact ⟨by rw [idxM,hg.out];rfl,hE0⟩
def PredA (g : Nat) (cap : Array Value) (W : World) (p : Alloc→Bool) : Prop :=
 ∀ (x : Alloc) (s : Value) (w : World),Ext W w→Calls Tryd.prog g (#[.agg #[.int .i64 x.num,.bool x.live,s]] ++ cap) w fun e w'=>e = .returned (.bool (p x))∧Ext w w'
set_option maxHeartbeats 800000 in
theorem indexFunc_alloc {g : Nat} {cap : Array Value} {p : Alloc→Bool} {l : List Alloc} {v : Value} {w : World} (hg : ∀ args w,(callFunc g args).run Tryd.prog w = .ok (.enter g args) w)
  (hp : PredA g cap w p) (hl : Als w v l) : Calls Tryd.prog 92 #[v,.func (.func g) #[] cap] w fun e w'=>e = .returned (.int .i64 (ixM (l.findIdx? p)))∧Ext w w':=by
 obtain ⟨a,cp,rfl,hlc,hcm,-⟩:=hl.form
 unfold maxLen at hcm
 have hL:=Lib.hid hl
 clear hl
 go_enter Tryd.func92,Tryd.ntmps92
 go_wp2
 go_loopw [8] (fun i wr => ∃ k : Nat,k≤l.length∧i = .int .i64 k∧Ext w wr∧Hid ((l.take k).any p=false)) (fun i _=>l.length - (intOf i).toNat)
 case atStart=>exact ⟨0,Nat.zero_le _,rfl,Ext.refl _,by simp [Hid]⟩
 case round =>
  obtain ⟨k,hk,rfl,hE,hN⟩:=hrel
  by_cases hlt : k < l.length
  ·obtain ⟨x,hx⟩ : ∃ x,l[k]? = some x:=⟨l[k],by simp [hlt]⟩
   obtain ⟨b,off,sv,rfl,hbb,d0,d1,d2,hcl⟩:=(hL.out.ext hE).cell hx
   have hX:=Lib.hid hx
   clear hx hcl
   cases hpx : p x
   all_goals
    have hP:=Lib.hid hpx
    clear hpx
    go_wp2_with fail
    refine (hp x sv wr hE).mono ?_
    rintro e w1 ⟨rfl,hE1⟩
    have hpx:=hP.out
    go_wp2
   ·go_roundw
    case rel=>exact ⟨k+1,by omega,by go_num,hE.trans hE1,any_take_succ'' hN.out hX.out hP.out⟩
    case measure=>simp [intOf];omega
   ·go_ret
    refine ⟨?_,hE.trans hE1⟩
    have : l.findIdx? p=some k:=by
     rw [List.findIdx?_eq_some_iff_getElem]
     obtain ⟨hk,rfl⟩:=List.getElem?_eq_some_iff.1 hX.out
     refine ⟨hk,hP.out,fun j hj => ?_⟩
     have h:=hN.out
     simp only [List.any_eq_false] at h
     have:=h l[j] (by rw [List.mem_iff_getElem?];exact ⟨j,by rw [List.getElem?_take,if_pos hj];simp⟩)
     simpa using this
    rw [this];rfl
  ·have hkl : k=l.length:=by omega
   subst hkl
   have hN':=hN.out
   rw [List.take_length] at hN'
   have hg : Hid (l.findIdx? p=none):=Hid.mk (by rw [List.findIdx?_eq_none_iff];simpa [List.any_eq_false] using hN')
   clear hN'
   go_wp2
   go_ret
   exact ⟨by rw [hg.out];rfl,hE⟩
end Go.Proofs.YtnplphcnagooeaaDoor

/- Contracts: two memories that read alike are the same (SameAlloc, Same, SameCells of the references). -/
namespace Go.Proofs.YtnplphcnagooeaaDoor
set_option maxRecDepth 100000
open Go.RowKit
end Go.Proofs.YtnplphcnagooeaaDoor

/- Contracts: copies of slices of cells and of allocations, clone. -/
namespace Go.Proofs.YtnplphcnagooeaaDoor
set_option maxRecDepth 100000
open Go.RowKit
theorem Cell.infoE : ∃ i z,Tryd.prog.info? 28=some i∧i.zero=some z∧i.size=5∧z.cells.size=5∧i.bytes=40:=by
 have h : (Tryd.prog.info? 28).map (fun i=>(i.zero.map (fun z=>z.cells.size),i.size,i.bytes))=some (some 5,5,40):=by kernel_rfl
 cases hi : Tryd.prog.info? 28 with
 | none=>rw [hi] at h;simp at h
 | some i =>
  rw [hi] at h
  simp only [Option.map_some,Option.some.injEq,Prod.mk.injEq] at h
  obtain ⟨h1,h2,h3⟩:=h
  cases hz : i.zero with
  | none=>rw [hz] at h1;simp at h1
  | some z =>
   rw [hz] at h1
   exact ⟨i,z,rfl,hz,h2,by simpa using h1,h3⟩
theorem Alloc.infoE : ∃ i z,Tryd.prog.info? 109=some i∧i.zero=some z∧i.size=3∧z.cells.size=3∧i.bytes=40:=by
 have h : (Tryd.prog.info? 109).map (fun i=>(i.zero.map (fun z=>z.cells.size),i.size,i.bytes))=some (some 3,3,40):=by kernel_rfl
 cases hi : Tryd.prog.info? 109 with
 | none=>rw [hi] at h;simp at h
 | some i =>
  rw [hi] at h
  simp only [Option.map_some,Option.some.injEq,Prod.mk.injEq] at h
  obtain ⟨h1,h2,h3⟩:=h
  cases hz : i.zero with
  | none=>rw [hz] at h1;simp at h1
  | some z =>
   rw [hz] at h1
   exact ⟨i,z,rfl,hz,h2,by simpa using h1,h3⟩
def zcells (n : Nat) : Array Value:=((List.replicate n Cell.zero).flatMap Cell.row).toArray
theorem zcells_made (n : Nat) : madeCells #[.int .u8 0,.int .i64 0,.int .i64 0,.int .i64 0,.int .i64 0] (n * 5)=zcells n:=by
 apply Array.toList_inj.1
 apply List.ext_getElem?
 intro j
 have hlen : ((List.replicate n Cell.zero).flatMap Cell.row).length=n * 5:=by rw [rows_len (k:=5) Cell.row Cell.row_len,List.length_replicate]
 by_cases hj : j < n * 5
 ·have h1:=rows_get Cell.row Cell.row_len (List.replicate n Cell.zero) (j / 5) (j % 5) Cell.zero (by rw [List.getElem?_replicate,if_pos (by omega)]) (Nat.mod_lt _ (by omega))
  rw [show j / 5 * 5+j % 5=j by omega] at h1
  show _=((List.replicate n Cell.zero).flatMap Cell.row)[j]?
  rw [h1]
  have h5 : j % 5 < 5:=Nat.mod_lt _ (by omega)
  generalize hm : j % 5=m at *
  have : m=0∨m=1∨m=2∨m=3∨m=4:=by omega
  rcases this with rfl | rfl | rfl | rfl | rfl <;> simp [madeCells,hj,hm,Cell.row,Cell.zero]
 ·rw [List.getElem?_eq_none (by rw [Array.length_toList,size_madeCells];omega),List.getElem?_eq_none (by show _≤_;rw [show (zcells n).toList=(List.replicate n Cell.zero).flatMap Cell.row from rfl,hlen];omega)]
theorem make_Cells (n : Nat) (hn : n≤1000000) (W : World) : (Instr.makeSlice 24 (.int .i64 (n : Int)) (.int .i64 (n : Int))).run Tryd.prog W = .ok (.slice (some ⟨W.heap.size,0,none⟩) n n) (W.alloc (.cells (zcells n) 28)):=by
 have h : (Tryd.prog.info? 28).map (fun i=>(i.zero.map (fun z=>z.cells),i.size,i.bytes))=some (some #[.int .u8 0,.int .i64 0,.int .i64 0,.int .i64 0,.int .i64 0],5,40):=by kernel_rfl
 cases hi : Tryd.prog.info? 28 with
 | none=>rw [hi] at h;simp at h
 | some i =>
  rw [hi] at h
  simp only [Option.map_some,Option.some.injEq,Prod.mk.injEq] at h
  obtain ⟨h1,h2,h3⟩:=h
  cases hz : i.zero with
  | none=>rw [hz] at h1;simp at h1
  | some z =>
   rw [hz] at h1
   have hz' : z.cells=#[.int .u8 0,.int .i64 0,.int .i64 0,.int .i64 0,.int .i64 0]:=by simpa using h1
   have:=run_make W 24 28 i z Tryd.underlying24 hi hz .i64 .i64 n n (by omega) (Int.le_refl _) (by rw [h3];omega) (by omega)
   rw [this,hz',h2,Int.toNat_natCast,zcells_made]
theorem zcells_own (n : Nat) (hn : n≤1000000) (W : World) {B : Nat} (hB : B≤W.heap.size) : Own (W.alloc (.cells (zcells n) 28)) B 28 5 (.slice (some ⟨W.heap.size,0,none⟩) n n) (List.replicate n Cell.zero).length ((List.replicate n Cell.zero).flatMap Cell.row):=by
 have:=Own.lit' (B:=B) (e:=28) (k:=5) W (zcells n) n hB (by simp [maxLen];omega) (by simp [zcells,rows_len (k:=5) Cell.row Cell.row_len])
 rw [List.length_replicate]
 exact this
def RetSl (e k : Nat) (w : World) (n : Nat) (xs : List Value) (en : Ending) (w' : World) : Prop := ∃ v,en = .returned v∧Own w' w.heap.size e k v n xs∧Ext w w'
set_option maxHeartbeats 400000 in
theorem clone_Cells {n : Nat} {xs : List Value} {v : Value} {w : World} (hl : Sl w 5 v n xs) (h1 : ∀ u ∈ xs,u.oneCell'=true) (hs : n≤1000000) : Calls Tryd.prog 60 #[v] w (RetSl 28 5 w n xs):=by
 obtain ⟨i,z,hi,hz,hi3,hz3,hby⟩:=Cell.infoE
 obtain ⟨a,cp,rfl,hlc,hcm,hn⟩:=hl.slice_form
 cases a with
 | none =>
  have hcp:=hn rfl
  subst hcp
  obtain rfl : n=0:=by omega
  obtain rfl:=hl.zero
  have hnil : ∀ w,(binOp .eql 24 (.slice none 0 0) (.slice none 0 0)).run Tryd.prog w = .ok (.bool true) w:=fun w=>Lib.run_eql_slice_nil w 24 28 none 0 0 0 0 Tryd.underlying24
  go_enter Tryd.func60,Tryd.ntmps60
  go_wp2
  go_ret
  exact ⟨_,rfl,Own.nil _ _ _ _,Ext.refl _⟩
 | some ad =>
  have hE:=(Ext.refl w).alloc (.cells #[] 28)
  have hl':=hl.ext hE
  have hO:=Own.made' w w.heap.size 28 5 (Nat.le_refl _)
  have hz:=Lib.hid hz
  have hi3:=Lib.hid hi3
  have hz3:=Lib.hid hz3
  have hby:=Lib.hid hby
  have hi:=Lib.hid hi
  have hnil : ∀ w,(binOp .eql 24 (.slice (some ad) n cp) (.slice none 0 0)).run Tryd.prog w = .ok (.bool false) w:=fun w=>Lib.run_eql_slice_nil w 24 28 (some ad) n cp 0 0 Tryd.underlying24
  go_enter Tryd.func60,Tryd.ntmps60
  go_wp2_with (at_builtin;refine Hid.out ?_)
  refine Hid.mk ?_
  refine wpList_append_any rfl _ _ 24 24 rfl rfl rfl Tryd.underlying24 Tryd.underlying24 hi.out hz.out hi3.out hz3.out hO hl' h1 (by simp [maxLen];omega) (by rw [hby.out];omega) hE.size ?_
  intro v' w' hO' hK _ _
  go_wp2
  go_ret
  simp only [Nat.zero_add,List.nil_append] at hO'
  exact ⟨_,rfl,hO',(Below.trans (Below.alloc (Below.refl _ w) (Nat.le_refl _) _) hK.below : Below w.heap.size w w')⟩
set_option maxHeartbeats 400000 in
theorem clone_Allocs {n : Nat} {xs : List Value} {v : Value} {w : World} (hl : Sl w 3 v n xs) (h1 : ∀ u ∈ xs,u.oneCell'=true) (hs : n≤1000000) : Calls Tryd.prog 59 #[v] w (RetSl 109 3 w n xs):=by
 obtain ⟨i,z,hi,hz,hi3,hz3,hby⟩:=Alloc.infoE
 obtain ⟨a,cp,rfl,hlc,hcm,hn⟩:=hl.slice_form
 cases a with
 | none =>
  have hcp:=hn rfl
  subst hcp
  obtain rfl : n=0:=by omega
  obtain rfl:=hl.zero
  have hnil : ∀ w,(binOp .eql 29 (.slice none 0 0) (.slice none 0 0)).run Tryd.prog w = .ok (.bool true) w:=fun w=>Lib.run_eql_slice_nil w 29 109 none 0 0 0 0 Tryd.underlying29
  go_enter Tryd.func59,Tryd.ntmps59
  go_wp2
  go_ret
  exact ⟨_,rfl,Own.nil _ _ _ _,Ext.refl _⟩
 | some ad =>
  have hE:=(Ext.refl w).alloc (.cells #[] 109)
  have hl':=hl.ext hE
  have hO:=Own.made' w w.heap.size 109 3 (Nat.le_refl _)
  have hz:=Lib.hid hz
  have hi3:=Lib.hid hi3
  have hz3:=Lib.hid hz3
  have hby:=Lib.hid hby
  have hi:=Lib.hid hi
  have hnil : ∀ w,(binOp .eql 29 (.slice (some ad) n cp) (.slice none 0 0)).run Tryd.prog w = .ok (.bool false) w:=fun w=>Lib.run_eql_slice_nil w 29 109 (some ad) n cp 0 0 Tryd.underlying29
  go_enter Tryd.func59,Tryd.ntmps59
  go_wp2_with (at_builtin;refine Hid.out ?_)
  refine Hid.mk ?_
  refine wpList_append_any rfl _ _ 29 29 rfl rfl rfl Tryd.underlying29 Tryd.underlying29 hi.out hz.out hi3.out hz3.out hO hl' h1 (by simp [maxLen];omega) (by rw [hby.out];omega) hE.size ?_
  intro v' w' hO' hK _ _
  go_wp2
  go_ret
  simp only [Nat.zero_add,List.nil_append] at hO'
  exact ⟨_,rfl,hO',(Below.trans (Below.alloc (Below.refl _ w) (Nat.le_refl _) _) hK.below : Below w.heap.size w w')⟩
end Go.Proofs.YtnplphcnagooeaaDoor
