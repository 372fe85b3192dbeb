/- Several texts in one: GrdG, StkA, ReadK. -/
import Derived.Test.YtoanoodfacmieaaDoorQ02
import Derived.Test.YtoanoodfacmieaaDoorQ03
/- Contracts: the guarded accesses of layer 31, the program's and the reference's; what they return is the call's own. (printed by gen/grdg.py) -/
namespace Go.Proofs.YtoanoodfacmieaaDoor
set_option maxRecDepth 100000
open Go.RowKit
def OwnI (w : World) (B : Nat) (v : Value) (l : List Item) : Prop:=Own w B 52 3 v l.length (l.flatMap Item.row)
theorem OwnI.its {w : World} {B : Nat} {v : Value} {l : List Item} (h : OwnI w B v l) : Its w v l:=Own.sl h
theorem OwnI.ext {w w' : World} {B : Nat} {v : Value} {l : List Item} (h : OwnI w B v l) (he : Ext w w') : OwnI w' B v l:=Own.ext h he
theorem OwnI.mono {w : World} {B B' : Nat} {v : Value} {l : List Item} (h : OwnI w B v l) (hB : B'≤B) : OwnI w B' v l:=Own.mono h hB
theorem OwnI.nil (w : World) (B : Nat) : OwnI w B (.slice none 0 0) []:=Own.nil _ _ _ _
def RetSO (w : World) (l : List Item) (why n : Int) (en : Ending) (w' : World) : Prop := ∃ v,en = .returned (.tuple #[v,.int .u8 why,.int .i64 n])∧OwnI w' w.heap.size v l∧Ext w w'
def RetTold (w : World) (v : Value) (l : List Item) (r : List Item × Int × Int) (en : Ending) (w' : World) : Prop := ∃ v',en = .returned (.tuple #[v',.int .u8 r.2.1,.int .i64 r.2.2])∧((v'=v∧r.1=l)∨(v' = .slice none 0 0∧r.1=[]))∧Ext w w'
theorem RetTold.own {w0 w w' : World} {v : Value} {l : List Item} {r : List Item × Int × Int} {en : Ending} (h : RetTold w v l r en w') (hv : OwnI w w0.heap.size v l) (hE : Ext w0 w) : RetSO w0 r.1 r.2.1 r.2.2 en w':=by
 obtain ⟨v',rfl,h | h,h3⟩:=h
 ·obtain ⟨rfl,h2⟩:=h
  rw [h2]
  exact ⟨_,rfl,hv.ext h3,hE.trans h3⟩
 ·obtain ⟨rfl,h2⟩:=h
  rw [h2]
  exact ⟨_,rfl,OwnI.nil _ _,hE.trans h3⟩
set_option maxHeartbeats 800000 in
theorem guard_toldX {l gone : List Item} {run : List Int} {v u r : Value} {w : World} (why e : Int) (hl : Its w v l) (hg : Its w u gone) (hr : Nts w r run) (hok : okR run=true) :
  Calls Tryd.prog 62 #[v,u,.int .u8 why,.int .i64 e,r] w (RetTold w v l (toldR' l gone why e run)):=by
 have hG:=Lib.hid hg
 have hR:=Lib.hid (And.intro hr hok)
 obtain ⟨a,cp,rfl,-⟩:=hl.form
 obtain ⟨a2,cp2,rfl,-⟩:=hg.form
 obtain ⟨a3,cp3,rfl,-⟩:=hr.form
 clear hl hg hr hok
 by_cases he : e=0
 ·have q1 : (e == 0)=true:=beq_iff_eq.2 he
  by_cases hw : why=0
  ·have q2 : (why == 0)=true:=beq_iff_eq.2 hw
   cases hf : firstR gone run with
   | none =>
    have hix : Hid (idxOf (firstR gone run) = -1):=Hid.mk (by rw [hf];rfl)
    have hres:=Lib.hid (toldR'_no (l:=l) (gone:=gone) (why:=why) (e:=e) (run:=run) (by rw [hf];simp))
    subst he hw
    clear hf q1 q2
    go_enter Tryd.func62,Tryd.ntmps62
    go_wp2_with fail
    refine (guard_first hG.out hR.out.1 hR.out.2).mono ?_
    rintro e w1 ⟨rfl,hE1⟩
    rw [hix.out]
    go_wp2
    refine bodyPost_ret (results_tmp3 rfl _ _ _) rfl ?_
    rw [hres.out]
    exact ⟨_,rfl,.inl ⟨rfl,rfl⟩,hE1⟩
   | some i =>
    have hix : Hid (idxOf (firstR gone run)=(i : Int)):=Hid.mk (by rw [hf];rfl)
    have hres:=Lib.hid (toldR'_yes (l:=l) (gone:=gone) (why:=why) (e:=e) (run:=run) ⟨he,hw,by rw [hf];rfl⟩)
    have hi0 : (0 : Int)≤(i : Int):=by omega
    subst he hw
    clear hf q1 q2
    go_enter Tryd.func62,Tryd.ntmps62
    go_wp2_with fail
    refine (guard_first hG.out hR.out.1 hR.out.2).mono ?_
    rintro e w1 ⟨rfl,hE1⟩
    rw [hix.out]
    go_wp2
    refine bodyPost_ret (results_tmp3 rfl _ _ _) rfl ?_
    rw [hres.out]
    exact ⟨_,rfl,.inr ⟨rfl,rfl⟩,hE1⟩
  ·have q2 : (why == 0)=false:=beq_eq_false_iff_ne.2 hw
   have hres:=Lib.hid (toldR'_no (l:=l) (gone:=gone) (why:=why) (e:=e) (run:=run) (fun h=>hw h.2.1))
   subst he
   clear hw
   go_enter Tryd.func62,Tryd.ntmps62
   go_wp2
   refine bodyPost_ret (results_tmp3 rfl _ _ _) rfl ?_
   rw [hres.out]
   exact ⟨_,rfl,.inl ⟨rfl,rfl⟩,Ext.refl _⟩
 ·have q1 : (e == 0)=false:=beq_eq_false_iff_ne.2 he
  have hres:=Lib.hid (toldR'_no (l:=l) (gone:=gone) (why:=why) (e:=e) (run:=run) (fun h=>he h.1))
  clear he
  go_enter Tryd.func62,Tryd.ntmps62
  go_wp2
  refine bodyPost_ret (results_tmp3 rfl _ _ _) rfl ?_
  rw [hres.out]
  exact ⟨_,rfl,.inl ⟨rfl,rfl⟩,Ext.refl _⟩
set_option maxHeartbeats 800000 in
theorem guard_ReadO {l : List Item} {run : List Int} {v r : Value} {w : World} (tag : Int) (hl : Its w v l) (hr : Nts w r run) :
  Calls Tryd.prog 67 #[v,.int .i64 tag,r] w (RetSO w (useR l tag false run).1 (useR l tag false run).2.1 (useR l tag false run).2.2):=by
 have hL:=Lib.hid hl
 have hR:=Lib.hid hr
 obtain ⟨a,cp,rfl,-⟩:=hl.form
 obtain ⟨a3,cp3,rfl,-⟩:=hr.form
 clear hl hr
 cases hok : okR run
 ·have h8:=Lib.hid (runErr_bad hok)
  have hres : Hid (useR l tag false run=([],0,8)):=Hid.mk (by simp [useR,hok])
  clear hok
  go_enter Tryd.func67,Tryd.ntmps67
  go_wp2_with fail
  refine (guard_Check hR.out).mono ?_
  rintro e w1 ⟨rfl,rfl⟩
  rw [h8.out]
  go_wp2
  refine bodyPost_ret (results_tmp3 rfl _ _ _) rfl ?_
  rw [hres.out]
  exact ⟨_,rfl,OwnI.nil _ _,Ext.refl _⟩
 ·have h0:=Lib.hid (runErr_ok hok)
  have hO:=Lib.hid hok
  have hres : Hid (useR l tag false run=toldR' (accL l tag false) (accG l tag false) (accW l tag false) (chk l) run):=Hid.mk (by simp [useR,hok])
  clear hok
  go_enter Tryd.func67,Tryd.ntmps67
  go_wp2_with fail
  refine (guard_Check hR.out).mono ?_
  rintro e w1 ⟨rfl,rfl⟩
  rw [h0.out]
  go_wp2_with fail
  refine (access_ReadO tag hL.out).mono ?_
  rintro e w1 ⟨v1,u1,rfl,hv1,hu1,-,hE1⟩
  obtain ⟨b1,d1,rfl,-⟩:=(Own.sl hv1).slice_form
  obtain ⟨b2,d2,rfl,-⟩:=(Own.sl hu1).slice_form
  go_wp2_with fail
  refine (guard_toldX _ _ (Own.sl hv1) (Own.sl hu1) (hR.out.ext hE1) hO.out).mono ?_
  rintro e w2 hT
  obtain ⟨v2,rfl,hv2,hE2⟩:=RetTold.own hT hv1 hE1
  rw [← hres.out] at hv2 ⊢
  obtain ⟨b3,d3,rfl,-⟩:=hv2.sl.slice_form
  go_wp2
  refine bodyPost_ret (results_tmp3 rfl _ _ _) rfl ?_
  exact ⟨_,rfl,hv2,hE2⟩
set_option maxHeartbeats 800000 in
theorem guard_WriteO {l : List Item} {run : List Int} {v r : Value} {w : World} (tag : Int) (hl : Its w v l) (hr : Nts w r run) :
  Calls Tryd.prog 57 #[v,.int .i64 tag,r] w (RetSO w (useR l tag true run).1 (useR l tag true run).2.1 (useR l tag true run).2.2):=by
 have hL:=Lib.hid hl
 have hR:=Lib.hid hr
 obtain ⟨a,cp,rfl,-⟩:=hl.form
 obtain ⟨a3,cp3,rfl,-⟩:=hr.form
 clear hl hr
 cases hok : okR run
 ·have h8:=Lib.hid (runErr_bad hok)
  have hres : Hid (useR l tag true run=([],0,8)):=Hid.mk (by simp [useR,hok])
  clear hok
  go_enter Tryd.func57,Tryd.ntmps57
  go_wp2_with fail
  refine (guard_Check hR.out).mono ?_
  rintro e w1 ⟨rfl,rfl⟩
  rw [h8.out]
  go_wp2
  refine bodyPost_ret (results_tmp3 rfl _ _ _) rfl ?_
  rw [hres.out]
  exact ⟨_,rfl,OwnI.nil _ _,Ext.refl _⟩
 ·have h0:=Lib.hid (runErr_ok hok)
  have hO:=Lib.hid hok
  have hres : Hid (useR l tag true run=toldR' (accL l tag true) (accG l tag true) (accW l tag true) (chk l) run):=Hid.mk (by simp [useR,hok])
  clear hok
  go_enter Tryd.func57,Tryd.ntmps57
  go_wp2_with fail
  refine (guard_Check hR.out).mono ?_
  rintro e w1 ⟨rfl,rfl⟩
  rw [h0.out]
  go_wp2_with fail
  refine (access_WriteO tag hL.out).mono ?_
  rintro e w1 ⟨v1,u1,rfl,hv1,hu1,-,hE1⟩
  obtain ⟨b1,d1,rfl,-⟩:=(Own.sl hv1).slice_form
  obtain ⟨b2,d2,rfl,-⟩:=(Own.sl hu1).slice_form
  go_wp2_with fail
  refine (guard_toldX _ _ (Own.sl hv1) (Own.sl hu1) (hR.out.ext hE1) hO.out).mono ?_
  rintro e w2 hT
  obtain ⟨v2,rfl,hv2,hE2⟩:=RetTold.own hT hv1 hE1
  rw [← hres.out] at hv2 ⊢
  obtain ⟨b3,d3,rfl,-⟩:=hv2.sl.slice_form
  go_wp2
  refine bodyPost_ret (results_tmp3 rfl _ _ _) rfl ?_
  exact ⟨_,rfl,hv2,hE2⟩
set_option maxHeartbeats 800000 in
theorem guard_RetagO {l : List Item} {run : List Int} {k : Int} {v r : Value} {w : World} (hp : Perms w) (hk : u8B k) (old : Int) (x : Item) (hl : Its w v l) (hr : Nts w r run) :
  Calls Tryd.prog 31 #[v,.int .u8 k,.int .i64 old,x.val,r] w (RetSO w (tagR l k old x run).1 (tagR l k old x run).2.1 (tagR l k old x run).2.2):=by
 have hL:=Lib.hid hl
 have hR:=Lib.hid hr
 have hP:=Lib.hid hp
 obtain ⟨a,cp,rfl,-⟩:=hl.form
 obtain ⟨a3,cp3,rfl,-⟩:=hr.form
 clear hl hr hp
 cases hok : okR run
 ·have h8:=Lib.hid (runErr_bad hok)
  have hres : Hid (tagR l k old x run=([],0,8)):=Hid.mk (by simp [tagR,hok])
  clear hok
  obtain ⟨xp,xt,xc⟩:=x
  unfold Item.val
  go_enter Tryd.func31,Tryd.ntmps31
  go_wp2_with fail
  refine (guard_Check (hR.out.ext ?_)).mono ?_
  ·exact ((Ext.refl _).alloc _)
  rintro e w1 ⟨rfl,rfl⟩
  rw [h8.out]
  go_wp2
  refine bodyPost_ret (results_tmp3 rfl _ _ _) rfl ?_
  rw [hres.out]
  exact ⟨_,rfl,OwnI.nil _ _,by first | exact Ext.refl _ | exact (Ext.refl _).alloc _⟩
 ·have h0:=Lib.hid (runErr_ok hok)
  have hO:=Lib.hid hok
  have hres : Hid (tagR l k old x run=toldR' (retagR l k old x).1 (retagR l k old x).2.1 (retagR l k old x).2.2.1 (retagR l k old x).2.2.2 run):=Hid.mk (by simp [tagR,hok])
  clear hok
  obtain ⟨xp,xt,xc⟩:=x
  unfold Item.val
  have hE0 : Ext w (w.alloc (.cells #[.int .u8 xp,.int .i64 xt,.int .i64 xc] 52)):=(Ext.refl _).alloc _
  go_enter Tryd.func31,Tryd.ntmps31
  go_wp2_with fail
  refine (guard_Check (hR.out.ext hE0)).mono ?_
  rintro e w1 ⟨rfl,rfl⟩
  rw [h0.out]
  go_wp2_with fail
  refine (grant_RetagO (hP.out.ext hE0) hk old ⟨xp,xt,xc⟩ (hL.out.ext hE0)).mono ?_
  rintro e w1 ⟨v1,u1,rfl,hv1,hu1,-,hE1⟩
  obtain ⟨b1,d1,rfl,-⟩:=(Own.sl hv1).slice_form
  obtain ⟨b2,d2,rfl,-⟩:=(Own.sl hu1).slice_form
  go_wp2_with fail
  refine (guard_toldX _ _ (Own.sl hv1) (Own.sl hu1) ((hR.out.ext hE0).ext hE1) hO.out).mono ?_
  rintro e w2 hT
  replace hv1:=hv1.mono hE0.size
  obtain ⟨v2,rfl,hv2,hE2⟩:=RetTold.own hT hv1 (hE0.trans hE1)
  rw [← hres.out] at hv2 ⊢
  obtain ⟨b3,d3,rfl,-⟩:=hv2.sl.slice_form
  go_wp2
  refine bodyPost_ret (results_tmp3 rfl _ _ _) rfl ?_
  exact ⟨_,rfl,hv2,hE2⟩
end Go.Proofs.YtoanoodfacmieaaDoor

/- Stacks of an allocation aas Lean data, and what a value in memory reads aas; what New gives; no program in sight. -/
namespace Go.Proofs.YtoanoodfacmieaaDoor
set_option maxRecDepth 100000
open Go.RowKit
structure Stk where
 num : Int
 cells : List (List Item)
 deriving DecidableEq
def Stk.zero : Stk:=⟨0,[]⟩
def srow (s : Value) (_ : List Item) : List Value:=[s]
theorem srow_len (s : Value) (a : List Item) : (srow s a).length=1:=rfl
theorem srow_one (vs : List Value) (l : List (List Item)) (h : ∀ s ∈ vs,s.oneCell'=true) : ∀ u ∈ trows srow vs l,u.oneCell'=true:=by
 intro u hu
 obtain ⟨p,hp,hu⟩:=List.mem_flatMap.1 hu
 simp only [srow,List.mem_cons,List.not_mem_nil,or_false] at hu
 subst hu
 exact h _ (List.of_mem_zip hp).1
def Sts (w : World) (v : Value) (l : List (List Item)) : Prop:=Tb srow 1 (fun s a=>Its w s a) w v l
theorem Sts.ext {w w' : World} {v : Value} {l : List (List Item)} (h : Sts w v l) (he : Ext w w') : Sts w' v l:=Tb.ext h he fun _ _ h=>Its.ext h he
theorem Sts.nil (w : World) : Sts w (.slice none 0 0) []:=Tb.nil w
theorem Sts.form {w : World} {v : Value} {l : List (List Item)} (h : Sts w v l) : ∃ a cap,v = .slice a l.length cap∧l.length≤cap∧cap≤maxLen∧(a=none→cap=0):=Tb.form h
theorem Sts.cell {w : World} {a : Option Addr} {n cap : Nat} {l : List (List Item)} (h : Sts w (.slice a n cap) l) {i : Nat} {x : List Item} (hx : l[i]? = some x) :
  ∃ b off s,a=some ⟨b,off,none⟩∧b < w.heap.size∧w.cell? ⟨b,off+i,none⟩=some s∧Its w s x:=by
 obtain ⟨b,off,s,rfl,hb,hc,hcell⟩:=Tb.cell h srow_len (by omega) hx
 exact ⟨b,off,s,rfl,hb,by simpa using hcell 0 _ rfl,hc⟩
def okK (x : Stk) : Bool:=inB x.num && decide (1≤x.cells.length) && decide (x.cells.length≤2) && x.cells.all okS
def stkErr (x : Stk) : Int:=if okK x then 0 else 8
def wideS (s : List Item) : Bool:=decide (610 < s.length)
def greatK (l : List (List Item)) : Bool:=(l.take 5).any wideS || decide (4 < l.length)
def newK (number size tag : Int) : Stk × Int:=if inB number && inB tag && decide (1≤size) && decide (size≤2) then (⟨number,List.replicate size.toNat [⟨1,tag,0⟩]⟩,0) else (Stk.zero,2)
theorem sany_take_succ {α : Type} {p : α→Bool} {l : List α} {k : Nat} {x : α} (h : (l.take k).any p=false) (hx : l[k]? = some x) (hp : p x=false) : (l.take (k+1)).any p=false:=by
 rw [List.take_add_one,hx]
 simp [List.any_append,h,hp]
theorem sany_hit {α : Type} {p : α→Bool} {l : List α} {k : Nat} {x : α} (hx : l[k]? = some x) (hp : p x=true) : l.any p=true :=
 List.any_eq_true.2 ⟨x,List.mem_of_getElem? hx,hp⟩
def OwnS (w : World) (B : Nat) (v : Value) (vs : List Value) (l : List (List Item)) : Prop:=OTb srow 57 1 OwnI w B v vs l
theorem OwnI.keep {w w' : World} {S : Nat→Prop} {B : Nat} {s : Value} {a : List Item} (h : OwnI w B s a) (hE : ExtBut S w w') (hS : ∀ g,s.ownBlock=some g → ¬ S g) : OwnI w' B s a:=ExtBut.own h hE hS
theorem OwnI.lt {w : World} {B : Nat} {s : Value} {a : List Item} (h : OwnI w B s a) (g : Nat) (hg : s.ownBlock=some g) : B≤g∧g < w.heap.size:=Own.lt h hg
theorem OwnS.ext {w w' : World} {B : Nat} {v : Value} {vs : List Value} {l : List (List Item)} (h : OwnS w B v vs l) (hE : Ext w w') : OwnS w' B v vs l:=OTb.ext OwnI.keep h hE
theorem OwnS.but {S : Nat→Prop} {w w' : World} {B : Nat} {v : Value} {vs : List Value} {l : List (List Item)} (h : OwnS w B v vs l) (hE : ExtBut S w w') (hS : ∀ b,B≤b → ¬ S b) : OwnS w' B v vs l :=
 OTb.but OwnI.keep h hE (fun g hg=>hS g (Own.lt h.outer hg).1) (fun s hs g hg=>hS g (OTb.inner_lt OwnI.lt h s hs g hg).1)
theorem OwnS.mono {w : World} {B B' : Nat} {v : Value} {vs : List Value} {l : List (List Item)} (h : OwnS w B v vs l) (hB : B'≤B) : OwnS w B' v vs l:=OTb.mono OwnI.mono h hB
theorem OwnS.nil (w : World) (B : Nat) : OwnS w B (.slice none 0 0) [] []:=OTb.nil w B
theorem OwnS.sts {w : World} {B : Nat} {v : Value} {vs : List Value} {l : List (List Item)} (h : OwnS w B v vs l) : Sts w v l:=⟨vs,h.inner.mono fun _ _ h=>h.its,h.outer.sl⟩
theorem OwnS.outer {w : World} {B : Nat} {v : Value} {vs : List Value} {l : List (List Item)} (h : OwnS w B v vs l) : Own w B 57 1 v l.length (trows srow vs l):=OTb.outer h
theorem OwnS.inner_lt {w : World} {B : Nat} {v : Value} {vs : List Value} {l : List (List Item)} (h : OwnS w B v vs l) : ∀ s ∈ vs,∀ g,s.ownBlock=some g→B≤g∧g < w.heap.size:=OTb.inner_lt OwnI.lt h
theorem OwnS.push {w wx w' : World} {B : Nat} {v v' s : Value} {vs : List Value} {l : List (List Item)} {a : List Item} (h : OwnS w B v vs l) (hE : Ext w wx) (hR : OwnI wx B s a) (hs : ∀ g,s.ownBlock=some g→w.heap.size≤g)
  (hO : Own w' B 57 1 v' (l.length+1) (trows srow vs l ++ srow s a)) (hK : Keeps wx w' B v) (hb : v'.ownBlock=v.ownBlock ∨ ∃ g,v'.ownBlock=some g∧wx.heap.size≤g) : OwnS w' B v' (vs ++ [s]) (l ++ [a]) :=
 OTb.push OwnI.keep OwnI.lt h hE hR hs hO hK hb
theorem Stack.infoE : ∃ i z,Tryd.prog.info? 57=some i∧i.zero=some z∧i.size=1∧z.cells.size=1∧i.bytes=24:=by
 have h : (Tryd.prog.info? 57).map (fun i=>(i.zero.map (fun z=>z.cells.size),i.size,i.bytes))=some (some 1,1,24):=by kernel_rfl
 cases hi : Tryd.prog.info? 57 with
 | none=>rw [hi] at h;simp at h
 | some i =>
  rw [hi] at h
  simp only [Option.map_some,Option.some.injEq,Prod.mk.injEq] at h
  obtain ⟨h1,h2,h3⟩:=h
  cases hz : i.zero with
  | none=>rw [hz] at h1;simp at h1
  | some z =>
   rw [hz] at h1
   exact ⟨i,z,rfl,hz,h2,by simpa using h1,h3⟩
def RetK (w : World) (x : Stk) (n : Int) (en : Ending) (w' : World) : Prop := ∃ v vs,en = .returned (.tuple #[.agg #[.int .i64 x.num,v],.int .i64 n])∧OwnS w' w.heap.size v vs x.cells∧Ext w w'
def RetKW (w : World) (x : Stk) (why n : Int) (en : Ending) (w' : World) : Prop := ∃ v vs,en = .returned (.tuple #[.agg #[.int .i64 x.num,v],.int .u8 why,.int .i64 n])∧OwnS w' w.heap.size v vs x.cells∧Ext w w'
end Go.Proofs.YtoanoodfacmieaaDoor

/- How the arguments of a statement read: stacks of an allocation, and slices of them. -/
namespace Go.Proofs.YtoanoodfacmieaaDoor
set_option maxRecDepth 100000
open Go.ChangeShapes Go.WideShapes Go.ChangeAt Go.RowKit
def krow (s : Value) (x : Stk) : List Value:=[.int .i64 x.num,s]
theorem krow_len (s : Value) (x : Stk) : (krow s x).length=2:=rfl
def Kts (w : World) (v : Value) (l : List Stk) : Prop:=Tb krow 2 (fun s x=>Sts w s x.cells) w v l
theorem Kts.ext {w w' : World} {v : Value} {l : List Stk} (h : Kts w v l) (he : Ext w w') : Kts w' v l:=Tb.ext h he fun _ _ h=>Sts.ext h he
theorem Kts.nil (w : World) : Kts w (.slice none 0 0) []:=Tb.nil w
theorem Kts.form {w : World} {v : Value} {l : List Stk} (h : Kts w v l) : ∃ a cap,v = .slice a l.length cap∧l.length≤cap∧cap≤maxLen∧(a=none→cap=0):=Tb.form h
theorem Kts.cell {w : World} {a : Option Addr} {n cap : Nat} {l : List Stk} (h : Kts w (.slice a n cap) l) {i : Nat} {x : Stk} (hx : l[i]? = some x) :
  ∃ b off s,a=some ⟨b,off,none⟩∧b < w.heap.size∧w.cell? ⟨b,off+i * 2,none⟩=some (.int .i64 x.num)∧w.cell? ⟨b,off+i * 2+1,none⟩=some s∧Sts w s x.cells:=by
 obtain ⟨b,off,s,rfl,hb,hc,hcell⟩:=Tb.cell h krow_len (by omega) hx
 refine ⟨b,off,s,rfl,hb,?_,?_,hc⟩
 ·simpa using hcell 0 _ rfl
 ·exact hcell 1 _ rfl
section
variable {H : Type} {enc : TypeId × Value→H} {w : World} {base : Nat} {spare : Nat→Bool} {held : Bool}
end
end Go.Proofs.YtoanoodfacmieaaDoor
