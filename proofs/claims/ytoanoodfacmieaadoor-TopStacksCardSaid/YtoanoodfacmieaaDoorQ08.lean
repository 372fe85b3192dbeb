/- Several texts in one: StkI, CelW9, CelWA, CelWB, CelWC, CelWD. -/
import Derived.Test.YtoanoodfacmieaaDoorQ07
import Derived.Test.YtoanoodfacmieaaDoorQ06
/- Contracts: Read, Write, Retag of layer 33, the program's and the reference's. (printed by gen/acts33.py) -/
namespace Go.Proofs.YtoanoodfacmieaaDoor
set_option maxRecDepth 100000
open Go.RowKit
theorem okK_small33 {x : Stk} (h : okK x=true) : x.cells.length≤2 ∧ ∀ s ∈ x.cells,s.length≤600:=by
 unfold okK at h
 simp only [Bool.and_eq_true,decide_eq_true_eq] at h
 refine ⟨h.1.2,fun s hs => ?_⟩
 have:=List.all_eq_true.1 h.2 s hs
 unfold okS at this
 simp only [Bool.and_eq_true,decide_eq_true_eq] at this
 exact this.1
def use33 (x : Stk) (a n tag : Int) (b : Bool) (run : List Int) : Stk × Int × Int:=if ask33 x a n run=0 then eachR (fun l=>useR l tag b run) x a.toNat n.toNat else (Stk.zero,0,ask33 x a n run)
def tag33 (x : Stk) (a n k old : Int) (it : Item) (run : List Int) : Stk × Int × Int:=if ask33 x a n run=0 then (if kindOk k then eachR (fun l=>tagR l k old it run) x a.toNat n.toNat else (Stk.zero,0,2)) else (Stk.zero,0,ask33 x a n run)
theorem use33_bad {x : Stk} {a n tag : Int} {b : Bool} {run : List Int} {e : Int} (h : ask33 x a n run=e) (he : e≠0) : use33 x a n tag b run=(Stk.zero,0,e):=by rw [use33,h,if_neg he]
theorem use33_ok {x : Stk} {a n : Nat} {tag : Int} {b : Bool} {run : List Int} (h : ask33 x a n run=0) : use33 x a n tag b run=eachR (fun l=>useR l tag b run) x a n:=by rw [use33,if_pos h,Int.toNat_natCast,Int.toNat_natCast]
theorem tag33_bad {x : Stk} {a n k old : Int} {it : Item} {run : List Int} {e : Int} (h : ask33 x a n run=e) (he : e≠0) : tag33 x a n k old it run=(Stk.zero,0,e):=by rw [tag33,h,if_neg he]
theorem tag33_arg {x : Stk} {a n k old : Int} {it : Item} {run : List Int} (h : ask33 x a n run=0) (hk : kindOk k=false) : tag33 x a n k old it run=(Stk.zero,0,2):=by rw [tag33,if_pos h,if_neg (by simp [hk])]
theorem tag33_ok {x : Stk} {a n : Nat} {k old : Int} {it : Item} {run : List Int} (h : ask33 x a n run=0) (hk : kindOk k=true) : tag33 x a n k old it run=eachR (fun l=>tagR l k old it run) x a n:=by rw [tag33,if_pos h,if_pos hk,Int.toNat_natCast,Int.toNat_natCast]
theorem oneR_funK {k : Int} (tag : Int) (it : Item) (run : List Int) (hk : kindOk k=true) : oneR k tag it run=fun l=>tagR l k tag it run:=by
 funext l
 rcases kind_yes hk with rfl | rfl | rfl | rfl <;> rfl
theorem callFunc_read33 (args : Array Value) (w : World) : (callFunc 66 args).run Tryd.prog w = .ok (.enter 66 args) w:=by kernel_rfl
set_option maxHeartbeats 400000 in
theorem stacks_read1 {run : List Int} {r : Value} (tag : Int) (B1 B2 : Nat) (W : World) (h1 : W.cell? ⟨B1,0,none⟩=some (.int .i64 tag)) (h2 : W.cell? ⟨B2,0,none⟩=some r) (hr : Nts W r run) : PredU 66 #[.pointer (some ⟨B1,0,none⟩),.pointer (some ⟨B2,0,none⟩)] W (fun l=>useR l tag false run):=by
 intro x s w hW hl
 have d1:=hW.cell h1
 have d2:=hW.cell h2
 have hF:=Lib.hid (guard_ReadO tag hl (hr.ext hW))
 obtain ⟨a,cp,rfl,-⟩:=hl.form
 obtain ⟨a2,cp2,rfl,-⟩:=hr.form
 clear h1 h2 hW hl hr
 show Calls Tryd.prog 66 #[.slice a x.length cp,.pointer (some ⟨B1,0,none⟩),.pointer (some ⟨B2,0,none⟩)] w _
 go_enter Tryd.func66,Tryd.ntmps66
 go_wp2_with fail
 refine hF.out.mono ?_
 rintro e w1 ⟨v2,rfl,hv2,hE2⟩
 obtain ⟨b3,d3,rfl,-⟩:=hv2.its.form
 go_wp2
 refine bodyPost_ret (results_tmp3 rfl _ _ _) rfl ?_
 exact ⟨_,rfl,hv2,hE2⟩
theorem callFunc_write33 (args : Array Value) (w : World) : (callFunc 56 args).run Tryd.prog w = .ok (.enter 56 args) w:=by kernel_rfl
set_option maxHeartbeats 400000 in
theorem stacks_write1 {run : List Int} {r : Value} (tag : Int) (B1 B2 : Nat) (W : World) (h1 : W.cell? ⟨B1,0,none⟩=some (.int .i64 tag)) (h2 : W.cell? ⟨B2,0,none⟩=some r) (hr : Nts W r run) : PredU 56 #[.pointer (some ⟨B1,0,none⟩),.pointer (some ⟨B2,0,none⟩)] W (fun l=>useR l tag true run):=by
 intro x s w hW hl
 have d1:=hW.cell h1
 have d2:=hW.cell h2
 have hF:=Lib.hid (guard_WriteO tag hl (hr.ext hW))
 obtain ⟨a,cp,rfl,-⟩:=hl.form
 obtain ⟨a2,cp2,rfl,-⟩:=hr.form
 clear h1 h2 hW hl hr
 show Calls Tryd.prog 56 #[.slice a x.length cp,.pointer (some ⟨B1,0,none⟩),.pointer (some ⟨B2,0,none⟩)] w _
 go_enter Tryd.func56,Tryd.ntmps56
 go_wp2_with fail
 refine hF.out.mono ?_
 rintro e w1 ⟨v2,rfl,hv2,hE2⟩
 obtain ⟨b3,d3,rfl,-⟩:=hv2.its.form
 go_wp2
 refine bodyPost_ret (results_tmp3 rfl _ _ _) rfl ?_
 exact ⟨_,rfl,hv2,hE2⟩
theorem callFunc_retag33 (args : Array Value) (w : World) : (callFunc 30 args).run Tryd.prog w = .ok (.enter 30 args) w:=by kernel_rfl
set_option maxHeartbeats 400000 in
theorem stacks_retag1 {run : List Int} {r : Value} {k : Int} (hk : u8B k) (old p t c : Int) (B0 B1 B2 B3 : Nat) (W : World) (hp : Perms W) (h0 : W.cell? ⟨B0,0,none⟩=some (.int .u8 k)) (h1 : W.cell? ⟨B1,0,none⟩=some (.int .i64 old)) (i0 : W.cell? ⟨B2,0,none⟩=some (.int .u8 p)) (i1 : W.cell? ⟨B2,1,none⟩=some (.int .i64 t)) (i2 : W.cell? ⟨B2,2,none⟩=some (.int .i64 c)) (h2 : W.cell? ⟨B3,0,none⟩=some r) (hr : Nts W r run) : PredU 30 #[.pointer (some ⟨B0,0,none⟩),.pointer (some ⟨B1,0,none⟩),.pointer (some ⟨B2,0,none⟩),.pointer (some ⟨B3,0,none⟩)] W (fun l=>tagR l k old ⟨p,t,c⟩ run):=by
 intro x s w hW hl
 have d0:=hW.cell h0
 have d1:=hW.cell h1
 have d2:=hW.cell h2
 have e0:=hW.cell i0
 have e1:=hW.cell i1
 have e2:=hW.cell i2
 have hF:=Lib.hid (guard_RetagO (hp.ext hW) hk old ⟨p,t,c⟩ hl (hr.ext hW))
 obtain ⟨a,cp,rfl,-⟩:=hl.form
 obtain ⟨a2,cp2,rfl,-⟩:=hr.form
 clear h0 h1 h2 i0 i1 i2 hW hl hr hp hk
 show Calls Tryd.prog 30 #[.slice a x.length cp,.pointer (some ⟨B0,0,none⟩),.pointer (some ⟨B1,0,none⟩),.pointer (some ⟨B2,0,none⟩),.pointer (some ⟨B3,0,none⟩)] w _
 unfold Item.val at hF
 go_enter Tryd.func30,Tryd.ntmps30
 go_wp2_with fail
 refine hF.out.mono ?_
 rintro e w1 ⟨v2,rfl,hv2,hE2⟩
 obtain ⟨b3,d3,rfl,-⟩:=hv2.its.form
 go_wp2
 refine bodyPost_ret (results_tmp3 rfl _ _ _) rfl ?_
 exact ⟨_,rfl,hv2,hE2⟩
set_option maxHeartbeats 3200000 in
theorem stacks_Read {l : List (List Item)} {num a n : Int} {run : List Int} {s v : Value} {w : World} (tag : Int) (hl : Sts w s l) (hr : Nts w v run) :
  Calls Tryd.prog 34 #[.agg #[.int .i64 num,s],.int .i64 a,.int .i64 n,.int .i64 tag,v] w (RetKW w (use33 ⟨num,l⟩ a n tag false run).1 (use33 ⟨num,l⟩ a n tag false run).2.1 (use33 ⟨num,l⟩ a n tag false run).2.2):=by
 obtain ⟨q,cp,rfl,-⟩:=hl.form
 obtain ⟨a2,cp2,rfl,-⟩:=hr.form
 have hE0 : Ext w (World.alloc (World.alloc (World.alloc (World.alloc w (.cells #[.int .i64 num,.slice q l.length cp] 44)) (.cells #[.int .i64 tag] 3)) (.cells #[.slice a2 run.length cp2] 33)) (.cells #[.int .i64 0,.slice none 0 0] 44)):=((((Ext.refl w).alloc (.cells #[.int .i64 num,.slice q l.length cp] 44)).alloc (.cells #[.int .i64 tag] 3)).alloc (.cells #[.slice a2 run.length cp2] 33)).alloc (.cells #[.int .i64 0,.slice none 0 0] 44)
 have bX0:=(((Box.new w 44 #[.int .i64 num,.slice q l.length cp]).ext ((Ext.refl _).alloc (.cells #[.int .i64 tag] 3))).ext ((Ext.refl _).alloc (.cells #[.slice a2 run.length cp2] 33))).ext ((Ext.refl _).alloc (.cells #[.int .i64 0,.slice none 0 0] 44))
 have bX1:=((Box.new (World.alloc w (.cells #[.int .i64 num,.slice q l.length cp] 44)) 3 #[.int .i64 tag]).ext ((Ext.refl _).alloc (.cells #[.slice a2 run.length cp2] 33))).ext ((Ext.refl _).alloc (.cells #[.int .i64 0,.slice none 0 0] 44))
 have bX2:=(Box.new (World.alloc (World.alloc w (.cells #[.int .i64 num,.slice q l.length cp] 44)) (.cells #[.int .i64 tag] 3)) 33 #[.slice a2 run.length cp2]).ext ((Ext.refl _).alloc (.cells #[.int .i64 0,.slice none 0 0] 44))
 have bX3:=Box.new (World.alloc (World.alloc (World.alloc w (.cells #[.int .i64 num,.slice q l.length cp] 44)) (.cells #[.int .i64 tag] 3)) (.cells #[.slice a2 run.length cp2] 33)) 44 #[.int .i64 0,.slice none 0 0]
 simp only [World.size_alloc] at bX0 bX1 bX2 bX3
 have hL:=Lib.hid (hl.ext hE0)
 have hV:=Lib.hid (hr.ext hE0)
 have hmf : ∀ (fn : Fn) (first cap : Array Value) (w : World),(Instr.makeFunc fn first cap).run Tryd.prog w = .ok (.func fn first cap) w:=fun _ _ _ _=>rfl
 clear hl hr
 obtain ⟨w1,hw1⟩ : ∃ z,(World.alloc (World.alloc (World.alloc (World.alloc w (.cells #[.int .i64 num,.slice q l.length cp] 44)) (.cells #[.int .i64 tag] 3)) (.cells #[.slice a2 run.length cp2] 33)) (.cells #[.int .i64 0,.slice none 0 0] 44))=z:=⟨_,rfl⟩
 rw [hw1] at hE0 hL hV bX0 bX1 bX2 bX3
 rcases ask33_cases ⟨num,l⟩ a n run with h8 | h6 | ⟨h0,hok,hkk,hin⟩
 ·have hres:=Lib.hid (use33_bad (tag:=tag) (b:=false) h8 (by decide))
  replace h8:=Lib.hid h8
  go_enter Tryd.func34,Tryd.ntmps34
  have c0_0 : World.cell? w1 ⟨w.heap.size,0,none⟩=some (.int .i64 num):=bX0.cell 0
  have c0_1 : World.cell? w1 ⟨w.heap.size,1,none⟩=some (.slice q l.length cp):=bX0.cell 1
  have c1_0 : World.cell? w1 ⟨w.heap.size+1,0,none⟩=some (.int .i64 tag):=bX1.cell 0
  have c2_0 : World.cell? w1 ⟨w.heap.size+1+1,0,none⟩=some (.slice a2 run.length cp2):=bX2.cell 0
  have c3_0 : World.cell? w1 ⟨w.heap.size+1+1+1,0,none⟩=some (.int .i64 0):=bX3.cell 0
  have c3_1 : World.cell? w1 ⟨w.heap.size+1+1+1,1,none⟩=some (.slice none 0 0):=bX3.cell 1
  go_wp2_with fail
  clear c0_0 c0_1 c1_0 c2_0 c3_0 c3_1
  clear hw1
  refine (stacks_asked hL.out hV.out).mono ?_
  rintro e w2 ⟨rfl,hE2⟩
  rw [h8.out]
  have c0_0 : World.cell? w2 ⟨w.heap.size,0,none⟩=some (.int .i64 num):=(bX0.ext hE2).cell 0
  have c0_1 : World.cell? w2 ⟨w.heap.size,1,none⟩=some (.slice q l.length cp):=(bX0.ext hE2).cell 1
  have c1_0 : World.cell? w2 ⟨w.heap.size+1,0,none⟩=some (.int .i64 tag):=(bX1.ext hE2).cell 0
  have c2_0 : World.cell? w2 ⟨w.heap.size+1+1,0,none⟩=some (.slice a2 run.length cp2):=(bX2.ext hE2).cell 0
  have c3_0 : World.cell? w2 ⟨w.heap.size+1+1+1,0,none⟩=some (.int .i64 0):=(bX3.ext hE2).cell 0
  have c3_1 : World.cell? w2 ⟨w.heap.size+1+1+1,1,none⟩=some (.slice none 0 0):=(bX3.ext hE2).cell 1
  have f0:=(bX3.ext hE2).frozen 0
  have f1:=(bX3.ext hE2).frozen 1
  go_wp2
  rw [hres.out]
  refine bodyPost_ret (v := .tuple #[.agg #[.int .i64 0,.slice none 0 0],.int .u8 0,.int .i64 8]) (by simp [results,Tryd.f34,go_sem,c3_0,c3_1]) rfl ⟨_,[],rfl,OwnS.nil _ _,?_⟩
  have hFF:=hE0.trans hE2
  first | exact hFF | exact (hFF.setCell (by simp <;> omega) _).setCell (by simp <;> omega) _
 ·have hres:=Lib.hid (use33_bad (tag:=tag) (b:=false) h6 (by decide))
  replace h6:=Lib.hid h6
  go_enter Tryd.func34,Tryd.ntmps34
  have c0_0 : World.cell? w1 ⟨w.heap.size,0,none⟩=some (.int .i64 num):=bX0.cell 0
  have c0_1 : World.cell? w1 ⟨w.heap.size,1,none⟩=some (.slice q l.length cp):=bX0.cell 1
  have c1_0 : World.cell? w1 ⟨w.heap.size+1,0,none⟩=some (.int .i64 tag):=bX1.cell 0
  have c2_0 : World.cell? w1 ⟨w.heap.size+1+1,0,none⟩=some (.slice a2 run.length cp2):=bX2.cell 0
  have c3_0 : World.cell? w1 ⟨w.heap.size+1+1+1,0,none⟩=some (.int .i64 0):=bX3.cell 0
  have c3_1 : World.cell? w1 ⟨w.heap.size+1+1+1,1,none⟩=some (.slice none 0 0):=bX3.cell 1
  go_wp2_with fail
  clear c0_0 c0_1 c1_0 c2_0 c3_0 c3_1
  clear hw1
  refine (stacks_asked hL.out hV.out).mono ?_
  rintro e w2 ⟨rfl,hE2⟩
  rw [h6.out]
  have c0_0 : World.cell? w2 ⟨w.heap.size,0,none⟩=some (.int .i64 num):=(bX0.ext hE2).cell 0
  have c0_1 : World.cell? w2 ⟨w.heap.size,1,none⟩=some (.slice q l.length cp):=(bX0.ext hE2).cell 1
  have c1_0 : World.cell? w2 ⟨w.heap.size+1,0,none⟩=some (.int .i64 tag):=(bX1.ext hE2).cell 0
  have c2_0 : World.cell? w2 ⟨w.heap.size+1+1,0,none⟩=some (.slice a2 run.length cp2):=(bX2.ext hE2).cell 0
  have c3_0 : World.cell? w2 ⟨w.heap.size+1+1+1,0,none⟩=some (.int .i64 0):=(bX3.ext hE2).cell 0
  have c3_1 : World.cell? w2 ⟨w.heap.size+1+1+1,1,none⟩=some (.slice none 0 0):=(bX3.ext hE2).cell 1
  have f0:=(bX3.ext hE2).frozen 0
  have f1:=(bX3.ext hE2).frozen 1
  go_wp2
  rw [hres.out]
  refine bodyPost_ret (v := .tuple #[.agg #[.int .i64 0,.slice none 0 0],.int .u8 0,.int .i64 6]) (by simp [results,Tryd.f34,go_sem,c3_0,c3_1]) rfl ⟨_,[],rfl,OwnS.nil _ _,?_⟩
  have hFF:=hE0.trans hE2
  first | exact hFF | exact (hFF.setCell (by simp <;> omega) _).setCell (by simp <;> omega) _
 have hin2:=hin
 unfold inR33 at hin2
 dsimp only at hin2
 obtain ⟨fa,rfl⟩ : ∃ m : Nat,a=m:=⟨a.toNat,by omega⟩
 obtain ⟨fn,rfl⟩ : ∃ m : Nat,n=m:=⟨n.toNat,by omega⟩
 have hin3 : fa < l.length∧1≤fn∧fn≤l.length - fa:=by omega
 have hsm : Hid (l.length≤2 ∧ ∀ s ∈ l,s.length≤600):=Hid.mk (okK_small33 hkk)
 replace hin3:=Lib.hid hin3
 clear hin hin2 hok hkk
 have hres:=Lib.hid (use33_ok (tag:=tag) (b:=false) h0)
 replace h0:=Lib.hid h0
 obtain ⟨⟨⟨yn,yl⟩,u,e3⟩,hy⟩ : ∃ z,eachR (fun l=>useR l tag false run) ⟨num,l⟩ fa fn=z:=⟨_,rfl⟩
 replace hy:=Lib.hid hy
 go_enter Tryd.func34,Tryd.ntmps34
 have c0_0 : World.cell? w1 ⟨w.heap.size,0,none⟩=some (.int .i64 num):=bX0.cell 0
 have c0_1 : World.cell? w1 ⟨w.heap.size,1,none⟩=some (.slice q l.length cp):=bX0.cell 1
 have c1_0 : World.cell? w1 ⟨w.heap.size+1,0,none⟩=some (.int .i64 tag):=bX1.cell 0
 have c2_0 : World.cell? w1 ⟨w.heap.size+1+1,0,none⟩=some (.slice a2 run.length cp2):=bX2.cell 0
 have c3_0 : World.cell? w1 ⟨w.heap.size+1+1+1,0,none⟩=some (.int .i64 0):=bX3.cell 0
 have c3_1 : World.cell? w1 ⟨w.heap.size+1+1+1,1,none⟩=some (.slice none 0 0):=bX3.cell 1
 go_wp2_with fail
 clear c0_0 c0_1 c1_0 c2_0 c3_0 c3_1
 clear hw1
 refine (stacks_asked hL.out hV.out).mono ?_
 rintro e w2 ⟨rfl,hE2⟩
 rw [h0.out]
 have c0_0 : World.cell? w2 ⟨w.heap.size,0,none⟩=some (.int .i64 num):=(bX0.ext hE2).cell 0
 have c0_1 : World.cell? w2 ⟨w.heap.size,1,none⟩=some (.slice q l.length cp):=(bX0.ext hE2).cell 1
 have c1_0 : World.cell? w2 ⟨w.heap.size+1,0,none⟩=some (.int .i64 tag):=(bX1.ext hE2).cell 0
 have c2_0 : World.cell? w2 ⟨w.heap.size+1+1,0,none⟩=some (.slice a2 run.length cp2):=(bX2.ext hE2).cell 0
 have c3_0 : World.cell? w2 ⟨w.heap.size+1+1+1,0,none⟩=some (.int .i64 0):=(bX3.ext hE2).cell 0
 have c3_1 : World.cell? w2 ⟨w.heap.size+1+1+1,1,none⟩=some (.slice none 0 0):=(bX3.ext hE2).cell 1
 have f0:=(bX3.ext hE2).frozen 0
 have f1:=(bX3.ext hE2).frozen 1
 go_wp2_with fail
 refine (stacks_each callFunc_read33 (stacks_read1 tag (w.heap.size+1) (w.heap.size+1+1) _ c1_0 c2_0 (hV.out.ext hE2)) hsm.out hin3.out (hL.out.ext hE2)).mono ?_
 rintro e w4 ⟨v4,vs4,rfl,h4,hE4⟩
 rw [hy.out] at h4 ⊢
 dsimp only at h4 ⊢
 clear c0_0 c0_1 c1_0 c2_0 c3_0 c3_1 f0 f1
 obtain ⟨a4,k4,rfl,-⟩:=h4.sts.form
 replace h4:=Lib.hid h4
 have c0 : World.cell? w4 ⟨w.heap.size+1+1+1,0,none⟩=some (.int .i64 0):=((bX3.ext hE2).ext hE4).cell 0
 have c1 : World.cell? w4 ⟨w.heap.size+1+1+1,1,none⟩=some (.slice none 0 0):=((bX3.ext hE2).ext hE4).cell 1
 have f0:=((bX3.ext hE2).ext hE4).frozen 0
 have f1:=((bX3.ext hE2).ext hE4).frozen 1
 have hlt:=bX3.lt
 have hsz2:=hE2.size
 go_wp2
 rw [hres.out,hy.out]
 have hY:=((ExtBut.setCell w4 ⟨w.heap.size+1+1+1,0,none⟩ (.int .i64 yn)).mono (S':=fun b=>b=w.heap.size+1+1+1) (fun x _ h=>h)).trans ((ExtBut.setCell _ ⟨w.heap.size+1+1+1,1,none⟩ (.slice a4 yl.length k4)).mono (S':=fun b=>b=w.heap.size+1+1+1) (fun x _ h=>h))
 refine bodyPost_ret (v := .tuple #[.agg #[.int .i64 yn,.slice a4 yl.length k4],.int .u8 u,.int .i64 e3]) (by simp [results,Tryd.f34,go_sem,c0,c1]) rfl ⟨_,vs4,rfl,OwnS.mono (B:=w2.heap.size) (B':=w.heap.size) (OwnS.but h4.out hY (fun g e h=>by omega)) (by omega),ExtBut.ext ((hE0.trans hE2).trans hE4) hY (fun x h=>by omega)⟩
set_option maxHeartbeats 3200000 in
theorem stacks_Write {l : List (List Item)} {num a n : Int} {run : List Int} {s v : Value} {w : World} (tag : Int) (hl : Sts w s l) (hr : Nts w v run) :
  Calls Tryd.prog 23 #[.agg #[.int .i64 num,s],.int .i64 a,.int .i64 n,.int .i64 tag,v] w (RetKW w (use33 ⟨num,l⟩ a n tag true run).1 (use33 ⟨num,l⟩ a n tag true run).2.1 (use33 ⟨num,l⟩ a n tag true run).2.2):=by
 obtain ⟨q,cp,rfl,-⟩:=hl.form
 obtain ⟨a2,cp2,rfl,-⟩:=hr.form
 have hE0 : Ext w (World.alloc (World.alloc (World.alloc (World.alloc w (.cells #[.int .i64 num,.slice q l.length cp] 44)) (.cells #[.int .i64 tag] 3)) (.cells #[.slice a2 run.length cp2] 33)) (.cells #[.int .i64 0,.slice none 0 0] 44)):=((((Ext.refl w).alloc (.cells #[.int .i64 num,.slice q l.length cp] 44)).alloc (.cells #[.int .i64 tag] 3)).alloc (.cells #[.slice a2 run.length cp2] 33)).alloc (.cells #[.int .i64 0,.slice none 0 0] 44)
 have bX0:=(((Box.new w 44 #[.int .i64 num,.slice q l.length cp]).ext ((Ext.refl _).alloc (.cells #[.int .i64 tag] 3))).ext ((Ext.refl _).alloc (.cells #[.slice a2 run.length cp2] 33))).ext ((Ext.refl _).alloc (.cells #[.int .i64 0,.slice none 0 0] 44))
 have bX1:=((Box.new (World.alloc w (.cells #[.int .i64 num,.slice q l.length cp] 44)) 3 #[.int .i64 tag]).ext ((Ext.refl _).alloc (.cells #[.slice a2 run.length cp2] 33))).ext ((Ext.refl _).alloc (.cells #[.int .i64 0,.slice none 0 0] 44))
 have bX2:=(Box.new (World.alloc (World.alloc w (.cells #[.int .i64 num,.slice q l.length cp] 44)) (.cells #[.int .i64 tag] 3)) 33 #[.slice a2 run.length cp2]).ext ((Ext.refl _).alloc (.cells #[.int .i64 0,.slice none 0 0] 44))
 have bX3:=Box.new (World.alloc (World.alloc (World.alloc w (.cells #[.int .i64 num,.slice q l.length cp] 44)) (.cells #[.int .i64 tag] 3)) (.cells #[.slice a2 run.length cp2] 33)) 44 #[.int .i64 0,.slice none 0 0]
 simp only [World.size_alloc] at bX0 bX1 bX2 bX3
 have hL:=Lib.hid (hl.ext hE0)
 have hV:=Lib.hid (hr.ext hE0)
 have hmf : ∀ (fn : Fn) (first cap : Array Value) (w : World),(Instr.makeFunc fn first cap).run Tryd.prog w = .ok (.func fn first cap) w:=fun _ _ _ _=>rfl
 clear hl hr
 obtain ⟨w1,hw1⟩ : ∃ z,(World.alloc (World.alloc (World.alloc (World.alloc w (.cells #[.int .i64 num,.slice q l.length cp] 44)) (.cells #[.int .i64 tag] 3)) (.cells #[.slice a2 run.length cp2] 33)) (.cells #[.int .i64 0,.slice none 0 0] 44))=z:=⟨_,rfl⟩
 rw [hw1] at hE0 hL hV bX0 bX1 bX2 bX3
 rcases ask33_cases ⟨num,l⟩ a n run with h8 | h6 | ⟨h0,hok,hkk,hin⟩
 ·have hres:=Lib.hid (use33_bad (tag:=tag) (b:=true) h8 (by decide))
  replace h8:=Lib.hid h8
  go_enter Tryd.func23,Tryd.ntmps23
  have c0_0 : World.cell? w1 ⟨w.heap.size,0,none⟩=some (.int .i64 num):=bX0.cell 0
  have c0_1 : World.cell? w1 ⟨w.heap.size,1,none⟩=some (.slice q l.length cp):=bX0.cell 1
  have c1_0 : World.cell? w1 ⟨w.heap.size+1,0,none⟩=some (.int .i64 tag):=bX1.cell 0
  have c2_0 : World.cell? w1 ⟨w.heap.size+1+1,0,none⟩=some (.slice a2 run.length cp2):=bX2.cell 0
  have c3_0 : World.cell? w1 ⟨w.heap.size+1+1+1,0,none⟩=some (.int .i64 0):=bX3.cell 0
  have c3_1 : World.cell? w1 ⟨w.heap.size+1+1+1,1,none⟩=some (.slice none 0 0):=bX3.cell 1
  go_wp2_with fail
  clear c0_0 c0_1 c1_0 c2_0 c3_0 c3_1
  clear hw1
  refine (stacks_asked hL.out hV.out).mono ?_
  rintro e w2 ⟨rfl,hE2⟩
  rw [h8.out]
  have c0_0 : World.cell? w2 ⟨w.heap.size,0,none⟩=some (.int .i64 num):=(bX0.ext hE2).cell 0
  have c0_1 : World.cell? w2 ⟨w.heap.size,1,none⟩=some (.slice q l.length cp):=(bX0.ext hE2).cell 1
  have c1_0 : World.cell? w2 ⟨w.heap.size+1,0,none⟩=some (.int .i64 tag):=(bX1.ext hE2).cell 0
  have c2_0 : World.cell? w2 ⟨w.heap.size+1+1,0,none⟩=some (.slice a2 run.length cp2):=(bX2.ext hE2).cell 0
  have c3_0 : World.cell? w2 ⟨w.heap.size+1+1+1,0,none⟩=some (.int .i64 0):=(bX3.ext hE2).cell 0
  have c3_1 : World.cell? w2 ⟨w.heap.size+1+1+1,1,none⟩=some (.slice none 0 0):=(bX3.ext hE2).cell 1
  have f0:=(bX3.ext hE2).frozen 0
  have f1:=(bX3.ext hE2).frozen 1
  go_wp2
  rw [hres.out]
  refine bodyPost_ret (v := .tuple #[.agg #[.int .i64 0,.slice none 0 0],.int .u8 0,.int .i64 8]) (by simp [results,Tryd.f23,go_sem,c3_0,c3_1]) rfl ⟨_,[],rfl,OwnS.nil _ _,?_⟩
  have hFF:=hE0.trans hE2
  first | exact hFF | exact (hFF.setCell (by simp <;> omega) _).setCell (by simp <;> omega) _
 ·have hres:=Lib.hid (use33_bad (tag:=tag) (b:=true) h6 (by decide))
  replace h6:=Lib.hid h6
  go_enter Tryd.func23,Tryd.ntmps23
  have c0_0 : World.cell? w1 ⟨w.heap.size,0,none⟩=some (.int .i64 num):=bX0.cell 0
  have c0_1 : World.cell? w1 ⟨w.heap.size,1,none⟩=some (.slice q l.length cp):=bX0.cell 1
  have c1_0 : World.cell? w1 ⟨w.heap.size+1,0,none⟩=some (.int .i64 tag):=bX1.cell 0
  have c2_0 : World.cell? w1 ⟨w.heap.size+1+1,0,none⟩=some (.slice a2 run.length cp2):=bX2.cell 0
  have c3_0 : World.cell? w1 ⟨w.heap.size+1+1+1,0,none⟩=some (.int .i64 0):=bX3.cell 0
  have c3_1 : World.cell? w1 ⟨w.heap.size+1+1+1,1,none⟩=some (.slice none 0 0):=bX3.cell 1
  go_wp2_with fail
  clear c0_0 c0_1 c1_0 c2_0 c3_0 c3_1
  clear hw1
  refine (stacks_asked hL.out hV.out).mono ?_
  rintro e w2 ⟨rfl,hE2⟩
  rw [h6.out]
  have c0_0 : World.cell? w2 ⟨w.heap.size,0,none⟩=some (.int .i64 num):=(bX0.ext hE2).cell 0
  have c0_1 : World.cell? w2 ⟨w.heap.size,1,none⟩=some (.slice q l.length cp):=(bX0.ext hE2).cell 1
  have c1_0 : World.cell? w2 ⟨w.heap.size+1,0,none⟩=some (.int .i64 tag):=(bX1.ext hE2).cell 0
  have c2_0 : World.cell? w2 ⟨w.heap.size+1+1,0,none⟩=some (.slice a2 run.length cp2):=(bX2.ext hE2).cell 0
  have c3_0 : World.cell? w2 ⟨w.heap.size+1+1+1,0,none⟩=some (.int .i64 0):=(bX3.ext hE2).cell 0
  have c3_1 : World.cell? w2 ⟨w.heap.size+1+1+1,1,none⟩=some (.slice none 0 0):=(bX3.ext hE2).cell 1
  have f0:=(bX3.ext hE2).frozen 0
  have f1:=(bX3.ext hE2).frozen 1
  go_wp2
  rw [hres.out]
  refine bodyPost_ret (v := .tuple #[.agg #[.int .i64 0,.slice none 0 0],.int .u8 0,.int .i64 6]) (by simp [results,Tryd.f23,go_sem,c3_0,c3_1]) rfl ⟨_,[],rfl,OwnS.nil _ _,?_⟩
  have hFF:=hE0.trans hE2
  first | exact hFF | exact (hFF.setCell (by simp <;> omega) _).setCell (by simp <;> omega) _
 have hin2:=hin
 unfold inR33 at hin2
 dsimp only at hin2
 obtain ⟨fa,rfl⟩ : ∃ m : Nat,a=m:=⟨a.toNat,by omega⟩
 obtain ⟨fn,rfl⟩ : ∃ m : Nat,n=m:=⟨n.toNat,by omega⟩
 have hin3 : fa < l.length∧1≤fn∧fn≤l.length - fa:=by omega
 have hsm : Hid (l.length≤2 ∧ ∀ s ∈ l,s.length≤600):=Hid.mk (okK_small33 hkk)
 replace hin3:=Lib.hid hin3
 clear hin hin2 hok hkk
 have hres:=Lib.hid (use33_ok (tag:=tag) (b:=true) h0)
 replace h0:=Lib.hid h0
 obtain ⟨⟨⟨yn,yl⟩,u,e3⟩,hy⟩ : ∃ z,eachR (fun l=>useR l tag true run) ⟨num,l⟩ fa fn=z:=⟨_,rfl⟩
 replace hy:=Lib.hid hy
 go_enter Tryd.func23,Tryd.ntmps23
 have c0_0 : World.cell? w1 ⟨w.heap.size,0,none⟩=some (.int .i64 num):=bX0.cell 0
 have c0_1 : World.cell? w1 ⟨w.heap.size,1,none⟩=some (.slice q l.length cp):=bX0.cell 1
 have c1_0 : World.cell? w1 ⟨w.heap.size+1,0,none⟩=some (.int .i64 tag):=bX1.cell 0
 have c2_0 : World.cell? w1 ⟨w.heap.size+1+1,0,none⟩=some (.slice a2 run.length cp2):=bX2.cell 0
 have c3_0 : World.cell? w1 ⟨w.heap.size+1+1+1,0,none⟩=some (.int .i64 0):=bX3.cell 0
 have c3_1 : World.cell? w1 ⟨w.heap.size+1+1+1,1,none⟩=some (.slice none 0 0):=bX3.cell 1
 go_wp2_with fail
 clear c0_0 c0_1 c1_0 c2_0 c3_0 c3_1
 clear hw1
 refine (stacks_asked hL.out hV.out).mono ?_
 rintro e w2 ⟨rfl,hE2⟩
 rw [h0.out]
 have c0_0 : World.cell? w2 ⟨w.heap.size,0,none⟩=some (.int .i64 num):=(bX0.ext hE2).cell 0
 have c0_1 : World.cell? w2 ⟨w.heap.size,1,none⟩=some (.slice q l.length cp):=(bX0.ext hE2).cell 1
 have c1_0 : World.cell? w2 ⟨w.heap.size+1,0,none⟩=some (.int .i64 tag):=(bX1.ext hE2).cell 0
 have c2_0 : World.cell? w2 ⟨w.heap.size+1+1,0,none⟩=some (.slice a2 run.length cp2):=(bX2.ext hE2).cell 0
 have c3_0 : World.cell? w2 ⟨w.heap.size+1+1+1,0,none⟩=some (.int .i64 0):=(bX3.ext hE2).cell 0
 have c3_1 : World.cell? w2 ⟨w.heap.size+1+1+1,1,none⟩=some (.slice none 0 0):=(bX3.ext hE2).cell 1
 have f0:=(bX3.ext hE2).frozen 0
 have f1:=(bX3.ext hE2).frozen 1
 go_wp2_with fail
 refine (stacks_each callFunc_write33 (stacks_write1 tag (w.heap.size+1) (w.heap.size+1+1) _ c1_0 c2_0 (hV.out.ext hE2)) hsm.out hin3.out (hL.out.ext hE2)).mono ?_
 rintro e w4 ⟨v4,vs4,rfl,h4,hE4⟩
 rw [hy.out] at h4 ⊢
 dsimp only at h4 ⊢
 clear c0_0 c0_1 c1_0 c2_0 c3_0 c3_1 f0 f1
 obtain ⟨a4,k4,rfl,-⟩:=h4.sts.form
 replace h4:=Lib.hid h4
 have c0 : World.cell? w4 ⟨w.heap.size+1+1+1,0,none⟩=some (.int .i64 0):=((bX3.ext hE2).ext hE4).cell 0
 have c1 : World.cell? w4 ⟨w.heap.size+1+1+1,1,none⟩=some (.slice none 0 0):=((bX3.ext hE2).ext hE4).cell 1
 have f0:=((bX3.ext hE2).ext hE4).frozen 0
 have f1:=((bX3.ext hE2).ext hE4).frozen 1
 have hlt:=bX3.lt
 have hsz2:=hE2.size
 go_wp2
 rw [hres.out,hy.out]
 have hY:=((ExtBut.setCell w4 ⟨w.heap.size+1+1+1,0,none⟩ (.int .i64 yn)).mono (S':=fun b=>b=w.heap.size+1+1+1) (fun x _ h=>h)).trans ((ExtBut.setCell _ ⟨w.heap.size+1+1+1,1,none⟩ (.slice a4 yl.length k4)).mono (S':=fun b=>b=w.heap.size+1+1+1) (fun x _ h=>h))
 refine bodyPost_ret (v := .tuple #[.agg #[.int .i64 yn,.slice a4 yl.length k4],.int .u8 u,.int .i64 e3]) (by simp [results,Tryd.f23,go_sem,c0,c1]) rfl ⟨_,vs4,rfl,OwnS.mono (B:=w2.heap.size) (B':=w.heap.size) (OwnS.but h4.out hY (fun g e h=>by omega)) (by omega),ExtBut.ext ((hE0.trans hE2).trans hE4) hY (fun x h=>by omega)⟩
set_option maxHeartbeats 3200000 in
theorem stacks_Retag {l : List (List Item)} {num a n : Int} {kind : Int} {run : List Int} {s v : Value} {w : World} (hp : Perms w) (hk : u8B kind) (tag : Int) (it : Item) (hl : Sts w s l) (hr : Nts w v run) :
  Calls Tryd.prog 10 #[.agg #[.int .i64 num,s],.int .i64 a,.int .i64 n,.int .u8 kind,.int .i64 tag,it.val,v] w (RetKW w (tag33 ⟨num,l⟩ a n kind tag it run).1 (tag33 ⟨num,l⟩ a n kind tag it run).2.1 (tag33 ⟨num,l⟩ a n kind tag it run).2.2):=by
 obtain ⟨p,t,c⟩:=it
 obtain ⟨q,cp,rfl,-⟩:=hl.form
 obtain ⟨a2,cp2,rfl,-⟩:=hr.form
 have hE0 : Ext w (World.alloc (World.alloc (World.alloc (World.alloc (World.alloc (World.alloc w (.cells #[.int .i64 num,.slice q l.length cp] 44)) (.cells #[.int .u8 kind] 5)) (.cells #[.int .i64 tag] 3)) (.cells #[.int .u8 p,.int .i64 t,.int .i64 c] 52)) (.cells #[.slice a2 run.length cp2] 33)) (.cells #[.int .i64 0,.slice none 0 0] 44)):=((((((Ext.refl w).alloc (.cells #[.int .i64 num,.slice q l.length cp] 44)).alloc (.cells #[.int .u8 kind] 5)).alloc (.cells #[.int .i64 tag] 3)).alloc (.cells #[.int .u8 p,.int .i64 t,.int .i64 c] 52)).alloc (.cells #[.slice a2 run.length cp2] 33)).alloc (.cells #[.int .i64 0,.slice none 0 0] 44)
 have bX0:=(((((Box.new w 44 #[.int .i64 num,.slice q l.length cp]).ext ((Ext.refl _).alloc (.cells #[.int .u8 kind] 5))).ext ((Ext.refl _).alloc (.cells #[.int .i64 tag] 3))).ext ((Ext.refl _).alloc (.cells #[.int .u8 p,.int .i64 t,.int .i64 c] 52))).ext ((Ext.refl _).alloc (.cells #[.slice a2 run.length cp2] 33))).ext ((Ext.refl _).alloc (.cells #[.int .i64 0,.slice none 0 0] 44))
 have bX1:=((((Box.new (World.alloc w (.cells #[.int .i64 num,.slice q l.length cp] 44)) 5 #[.int .u8 kind]).ext ((Ext.refl _).alloc (.cells #[.int .i64 tag] 3))).ext ((Ext.refl _).alloc (.cells #[.int .u8 p,.int .i64 t,.int .i64 c] 52))).ext ((Ext.refl _).alloc (.cells #[.slice a2 run.length cp2] 33))).ext ((Ext.refl _).alloc (.cells #[.int .i64 0,.slice none 0 0] 44))
 have bX2:=(((Box.new (World.alloc (World.alloc w (.cells #[.int .i64 num,.slice q l.length cp] 44)) (.cells #[.int .u8 kind] 5)) 3 #[.int .i64 tag]).ext ((Ext.refl _).alloc (.cells #[.int .u8 p,.int .i64 t,.int .i64 c] 52))).ext ((Ext.refl _).alloc (.cells #[.slice a2 run.length cp2] 33))).ext ((Ext.refl _).alloc (.cells #[.int .i64 0,.slice none 0 0] 44))
 have bX3:=((Box.new (World.alloc (World.alloc (World.alloc w (.cells #[.int .i64 num,.slice q l.length cp] 44)) (.cells #[.int .u8 kind] 5)) (.cells #[.int .i64 tag] 3)) 52 #[.int .u8 p,.int .i64 t,.int .i64 c]).ext ((Ext.refl _).alloc (.cells #[.slice a2 run.length cp2] 33))).ext ((Ext.refl _).alloc (.cells #[.int .i64 0,.slice none 0 0] 44))
 have bX4:=(Box.new (World.alloc (World.alloc (World.alloc (World.alloc w (.cells #[.int .i64 num,.slice q l.length cp] 44)) (.cells #[.int .u8 kind] 5)) (.cells #[.int .i64 tag] 3)) (.cells #[.int .u8 p,.int .i64 t,.int .i64 c] 52)) 33 #[.slice a2 run.length cp2]).ext ((Ext.refl _).alloc (.cells #[.int .i64 0,.slice none 0 0] 44))
 have bX5:=Box.new (World.alloc (World.alloc (World.alloc (World.alloc (World.alloc w (.cells #[.int .i64 num,.slice q l.length cp] 44)) (.cells #[.int .u8 kind] 5)) (.cells #[.int .i64 tag] 3)) (.cells #[.int .u8 p,.int .i64 t,.int .i64 c] 52)) (.cells #[.slice a2 run.length cp2] 33)) 44 #[.int .i64 0,.slice none 0 0]
 simp only [World.size_alloc] at bX0 bX1 bX2 bX3 bX4 bX5
 have hL:=Lib.hid (hl.ext hE0)
 have hV:=Lib.hid (hr.ext hE0)
 have hP:=Lib.hid (hp.ext hE0)
 clear hp
 replace hk:=Lib.hid hk
 unfold Item.val
 have hmf : ∀ (fn : Fn) (first cap : Array Value) (w : World),(Instr.makeFunc fn first cap).run Tryd.prog w = .ok (.func fn first cap) w:=fun _ _ _ _=>rfl
 clear hl hr
 obtain ⟨w1,hw1⟩ : ∃ z,(World.alloc (World.alloc (World.alloc (World.alloc (World.alloc (World.alloc w (.cells #[.int .i64 num,.slice q l.length cp] 44)) (.cells #[.int .u8 kind] 5)) (.cells #[.int .i64 tag] 3)) (.cells #[.int .u8 p,.int .i64 t,.int .i64 c] 52)) (.cells #[.slice a2 run.length cp2] 33)) (.cells #[.int .i64 0,.slice none 0 0] 44))=z:=⟨_,rfl⟩
 rw [hw1] at hE0 hL hV hP bX0 bX1 bX2 bX3 bX4 bX5
 rcases ask33_cases ⟨num,l⟩ a n run with h8 | h6 | ⟨h0,hok,hkk,hin⟩
 ·have hres:=Lib.hid (tag33_bad (k:=kind) (old:=tag) (it:=⟨p,t,c⟩) h8 (by decide))
  replace h8:=Lib.hid h8
  go_enter Tryd.func10,Tryd.ntmps10
  have c0_0 : World.cell? w1 ⟨w.heap.size,0,none⟩=some (.int .i64 num):=bX0.cell 0
  have c0_1 : World.cell? w1 ⟨w.heap.size,1,none⟩=some (.slice q l.length cp):=bX0.cell 1
  have c1_0 : World.cell? w1 ⟨w.heap.size+1,0,none⟩=some (.int .u8 kind):=bX1.cell 0
  have c2_0 : World.cell? w1 ⟨w.heap.size+1+1,0,none⟩=some (.int .i64 tag):=bX2.cell 0
  have c3_0 : World.cell? w1 ⟨w.heap.size+1+1+1,0,none⟩=some (.int .u8 p):=bX3.cell 0
  have c3_1 : World.cell? w1 ⟨w.heap.size+1+1+1,1,none⟩=some (.int .i64 t):=bX3.cell 1
  have c3_2 : World.cell? w1 ⟨w.heap.size+1+1+1,2,none⟩=some (.int .i64 c):=bX3.cell 2
  have c4_0 : World.cell? w1 ⟨w.heap.size+1+1+1+1,0,none⟩=some (.slice a2 run.length cp2):=bX4.cell 0
  have c5_0 : World.cell? w1 ⟨w.heap.size+1+1+1+1+1,0,none⟩=some (.int .i64 0):=bX5.cell 0
  have c5_1 : World.cell? w1 ⟨w.heap.size+1+1+1+1+1,1,none⟩=some (.slice none 0 0):=bX5.cell 1
  go_wp2_with fail
  clear c0_0 c0_1 c1_0 c2_0 c3_0 c3_1 c3_2 c4_0 c5_0 c5_1
  clear hw1
  refine (stacks_asked hL.out hV.out).mono ?_
  rintro e w2 ⟨rfl,hE2⟩
  rw [h8.out]
  have c0_0 : World.cell? w2 ⟨w.heap.size,0,none⟩=some (.int .i64 num):=(bX0.ext hE2).cell 0
  have c0_1 : World.cell? w2 ⟨w.heap.size,1,none⟩=some (.slice q l.length cp):=(bX0.ext hE2).cell 1
  have c1_0 : World.cell? w2 ⟨w.heap.size+1,0,none⟩=some (.int .u8 kind):=(bX1.ext hE2).cell 0
  have c2_0 : World.cell? w2 ⟨w.heap.size+1+1,0,none⟩=some (.int .i64 tag):=(bX2.ext hE2).cell 0
  have c3_0 : World.cell? w2 ⟨w.heap.size+1+1+1,0,none⟩=some (.int .u8 p):=(bX3.ext hE2).cell 0
  have c3_1 : World.cell? w2 ⟨w.heap.size+1+1+1,1,none⟩=some (.int .i64 t):=(bX3.ext hE2).cell 1
  have c3_2 : World.cell? w2 ⟨w.heap.size+1+1+1,2,none⟩=some (.int .i64 c):=(bX3.ext hE2).cell 2
  have c4_0 : World.cell? w2 ⟨w.heap.size+1+1+1+1,0,none⟩=some (.slice a2 run.length cp2):=(bX4.ext hE2).cell 0
  have c5_0 : World.cell? w2 ⟨w.heap.size+1+1+1+1+1,0,none⟩=some (.int .i64 0):=(bX5.ext hE2).cell 0
  have c5_1 : World.cell? w2 ⟨w.heap.size+1+1+1+1+1,1,none⟩=some (.slice none 0 0):=(bX5.ext hE2).cell 1
  have f0:=(bX5.ext hE2).frozen 0
  have f1:=(bX5.ext hE2).frozen 1
  go_wp2
  rw [hres.out]
  refine bodyPost_ret (v := .tuple #[.agg #[.int .i64 0,.slice none 0 0],.int .u8 0,.int .i64 8]) (by simp [results,Tryd.f10,go_sem,c5_0,c5_1]) rfl ⟨_,[],rfl,OwnS.nil _ _,?_⟩
  have hFF:=hE0.trans hE2
  first | exact hFF | exact (hFF.setCell (by simp <;> omega) _).setCell (by simp <;> omega) _
 ·have hres:=Lib.hid (tag33_bad (k:=kind) (old:=tag) (it:=⟨p,t,c⟩) h6 (by decide))
  replace h6:=Lib.hid h6
  go_enter Tryd.func10,Tryd.ntmps10
  have c0_0 : World.cell? w1 ⟨w.heap.size,0,none⟩=some (.int .i64 num):=bX0.cell 0
  have c0_1 : World.cell? w1 ⟨w.heap.size,1,none⟩=some (.slice q l.length cp):=bX0.cell 1
  have c1_0 : World.cell? w1 ⟨w.heap.size+1,0,none⟩=some (.int .u8 kind):=bX1.cell 0
  have c2_0 : World.cell? w1 ⟨w.heap.size+1+1,0,none⟩=some (.int .i64 tag):=bX2.cell 0
  have c3_0 : World.cell? w1 ⟨w.heap.size+1+1+1,0,none⟩=some (.int .u8 p):=bX3.cell 0
  have c3_1 : World.cell? w1 ⟨w.heap.size+1+1+1,1,none⟩=some (.int .i64 t):=bX3.cell 1
  have c3_2 : World.cell? w1 ⟨w.heap.size+1+1+1,2,none⟩=some (.int .i64 c):=bX3.cell 2
  have c4_0 : World.cell? w1 ⟨w.heap.size+1+1+1+1,0,none⟩=some (.slice a2 run.length cp2):=bX4.cell 0
  have c5_0 : World.cell? w1 ⟨w.heap.size+1+1+1+1+1,0,none⟩=some (.int .i64 0):=bX5.cell 0
  have c5_1 : World.cell? w1 ⟨w.heap.size+1+1+1+1+1,1,none⟩=some (.slice none 0 0):=bX5.cell 1
  go_wp2_with fail
  clear c0_0 c0_1 c1_0 c2_0 c3_0 c3_1 c3_2 c4_0 c5_0 c5_1
  clear hw1
  refine (stacks_asked hL.out hV.out).mono ?_
  rintro e w2 ⟨rfl,hE2⟩
  rw [h6.out]
  have c0_0 : World.cell? w2 ⟨w.heap.size,0,none⟩=some (.int .i64 num):=(bX0.ext hE2).cell 0
  have c0_1 : World.cell? w2 ⟨w.heap.size,1,none⟩=some (.slice q l.length cp):=(bX0.ext hE2).cell 1
  have c1_0 : World.cell? w2 ⟨w.heap.size+1,0,none⟩=some (.int .u8 kind):=(bX1.ext hE2).cell 0
  have c2_0 : World.cell? w2 ⟨w.heap.size+1+1,0,none⟩=some (.int .i64 tag):=(bX2.ext hE2).cell 0
  have c3_0 : World.cell? w2 ⟨w.heap.size+1+1+1,0,none⟩=some (.int .u8 p):=(bX3.ext hE2).cell 0
  have c3_1 : World.cell? w2 ⟨w.heap.size+1+1+1,1,none⟩=some (.int .i64 t):=(bX3.ext hE2).cell 1
  have c3_2 : World.cell? w2 ⟨w.heap.size+1+1+1,2,none⟩=some (.int .i64 c):=(bX3.ext hE2).cell 2
  have c4_0 : World.cell? w2 ⟨w.heap.size+1+1+1+1,0,none⟩=some (.slice a2 run.length cp2):=(bX4.ext hE2).cell 0
  have c5_0 : World.cell? w2 ⟨w.heap.size+1+1+1+1+1,0,none⟩=some (.int .i64 0):=(bX5.ext hE2).cell 0
  have c5_1 : World.cell? w2 ⟨w.heap.size+1+1+1+1+1,1,none⟩=some (.slice none 0 0):=(bX5.ext hE2).cell 1
  have f0:=(bX5.ext hE2).frozen 0
  have f1:=(bX5.ext hE2).frozen 1
  go_wp2
  rw [hres.out]
  refine bodyPost_ret (v := .tuple #[.agg #[.int .i64 0,.slice none 0 0],.int .u8 0,.int .i64 6]) (by simp [results,Tryd.f10,go_sem,c5_0,c5_1]) rfl ⟨_,[],rfl,OwnS.nil _ _,?_⟩
  have hFF:=hE0.trans hE2
  first | exact hFF | exact (hFF.setCell (by simp <;> omega) _).setCell (by simp <;> omega) _
 have hin2:=hin
 unfold inR33 at hin2
 dsimp only at hin2
 obtain ⟨fa,rfl⟩ : ∃ m : Nat,a=m:=⟨a.toNat,by omega⟩
 obtain ⟨fn,rfl⟩ : ∃ m : Nat,n=m:=⟨n.toNat,by omega⟩
 have hin3 : fa < l.length∧1≤fn∧fn≤l.length - fa:=by omega
 have hsm : Hid (l.length≤2 ∧ ∀ s ∈ l,s.length≤600):=Hid.mk (okK_small33 hkk)
 replace hin3:=Lib.hid hin3
 clear hin hin2 hok hkk
 cases hko : kindOk kind
 ·have hres:=Lib.hid (tag33_arg (old:=tag) (it:=⟨p,t,c⟩) h0 hko)
  have hke:=Lib.hid (kindErr_no hko)
  have hkk:=kind_no hko hk.out
  replace h0:=Lib.hid h0
  clear hko
  go_enter Tryd.func10,Tryd.ntmps10
  have c0_0 : World.cell? w1 ⟨w.heap.size,0,none⟩=some (.int .i64 num):=bX0.cell 0
  have c0_1 : World.cell? w1 ⟨w.heap.size,1,none⟩=some (.slice q l.length cp):=bX0.cell 1
  have c1_0 : World.cell? w1 ⟨w.heap.size+1,0,none⟩=some (.int .u8 kind):=bX1.cell 0
  have c2_0 : World.cell? w1 ⟨w.heap.size+1+1,0,none⟩=some (.int .i64 tag):=bX2.cell 0
  have c3_0 : World.cell? w1 ⟨w.heap.size+1+1+1,0,none⟩=some (.int .u8 p):=bX3.cell 0
  have c3_1 : World.cell? w1 ⟨w.heap.size+1+1+1,1,none⟩=some (.int .i64 t):=bX3.cell 1
  have c3_2 : World.cell? w1 ⟨w.heap.size+1+1+1,2,none⟩=some (.int .i64 c):=bX3.cell 2
  have c4_0 : World.cell? w1 ⟨w.heap.size+1+1+1+1,0,none⟩=some (.slice a2 run.length cp2):=bX4.cell 0
  have c5_0 : World.cell? w1 ⟨w.heap.size+1+1+1+1+1,0,none⟩=some (.int .i64 0):=bX5.cell 0
  have c5_1 : World.cell? w1 ⟨w.heap.size+1+1+1+1+1,1,none⟩=some (.slice none 0 0):=bX5.cell 1
  go_wp2_with fail
  clear c0_0 c0_1 c1_0 c2_0 c3_0 c3_1 c3_2 c4_0 c5_0 c5_1
  clear hw1
  refine (stacks_asked hL.out hV.out).mono ?_
  rintro e w2 ⟨rfl,hE2⟩
  rw [h0.out]
  have c0_0 : World.cell? w2 ⟨w.heap.size,0,none⟩=some (.int .i64 num):=(bX0.ext hE2).cell 0
  have c0_1 : World.cell? w2 ⟨w.heap.size,1,none⟩=some (.slice q l.length cp):=(bX0.ext hE2).cell 1
  have c1_0 : World.cell? w2 ⟨w.heap.size+1,0,none⟩=some (.int .u8 kind):=(bX1.ext hE2).cell 0
  have c2_0 : World.cell? w2 ⟨w.heap.size+1+1,0,none⟩=some (.int .i64 tag):=(bX2.ext hE2).cell 0
  have c3_0 : World.cell? w2 ⟨w.heap.size+1+1+1,0,none⟩=some (.int .u8 p):=(bX3.ext hE2).cell 0
  have c3_1 : World.cell? w2 ⟨w.heap.size+1+1+1,1,none⟩=some (.int .i64 t):=(bX3.ext hE2).cell 1
  have c3_2 : World.cell? w2 ⟨w.heap.size+1+1+1,2,none⟩=some (.int .i64 c):=(bX3.ext hE2).cell 2
  have c4_0 : World.cell? w2 ⟨w.heap.size+1+1+1+1,0,none⟩=some (.slice a2 run.length cp2):=(bX4.ext hE2).cell 0
  have c5_0 : World.cell? w2 ⟨w.heap.size+1+1+1+1+1,0,none⟩=some (.int .i64 0):=(bX5.ext hE2).cell 0
  have c5_1 : World.cell? w2 ⟨w.heap.size+1+1+1+1+1,1,none⟩=some (.slice none 0 0):=(bX5.ext hE2).cell 1
  have f0:=(bX5.ext hE2).frozen 0
  have f1:=(bX5.ext hE2).frozen 1
  go_wp2_with fail
  refine (grant_Check _ hk.out).mono ?_
  rintro e w3 ⟨rfl,rfl⟩
  rw [hke.out]
  go_wp2
  rw [hres.out]
  refine bodyPost_ret (v := .tuple #[.agg #[.int .i64 0,.slice none 0 0],.int .u8 0,.int .i64 2]) (by simp [results,Tryd.f10,go_sem,c5_0,c5_1]) rfl ⟨_,[],rfl,OwnS.nil _ _,?_⟩
  have hFF:=hE0.trans hE2
  first | exact hFF | exact (hFF.setCell (by simp <;> omega) _).setCell (by simp <;> omega) _
 have hres:=Lib.hid (tag33_ok (old:=tag) (it:=⟨p,t,c⟩) h0 hko)
 have hke:=Lib.hid (kindErr_yes hko)
 have hof:=Lib.hid (oneR_funK tag ⟨p,t,c⟩ run hko)
 have hk4 : 1≤kind∧kind≤4:=by rcases kind_yes hko with rfl | rfl | rfl | rfl <;> omega
 have g1 : decide (kind < 1)=false:=decide_eq_false (by omega)
 have g2 : decide (4 < kind)=false:=decide_eq_false (by omega)
 clear hko hk4
 replace h0:=Lib.hid h0
 obtain ⟨⟨⟨yn,yl⟩,u,e3⟩,hy⟩ : ∃ z,eachR (fun l=>tagR l kind tag ⟨p,t,c⟩ run) ⟨num,l⟩ fa fn=z:=⟨_,rfl⟩
 replace hy:=Lib.hid hy
 go_enter Tryd.func10,Tryd.ntmps10
 have c0_0 : World.cell? w1 ⟨w.heap.size,0,none⟩=some (.int .i64 num):=bX0.cell 0
 have c0_1 : World.cell? w1 ⟨w.heap.size,1,none⟩=some (.slice q l.length cp):=bX0.cell 1
 have c1_0 : World.cell? w1 ⟨w.heap.size+1,0,none⟩=some (.int .u8 kind):=bX1.cell 0
 have c2_0 : World.cell? w1 ⟨w.heap.size+1+1,0,none⟩=some (.int .i64 tag):=bX2.cell 0
 have c3_0 : World.cell? w1 ⟨w.heap.size+1+1+1,0,none⟩=some (.int .u8 p):=bX3.cell 0
 have c3_1 : World.cell? w1 ⟨w.heap.size+1+1+1,1,none⟩=some (.int .i64 t):=bX3.cell 1
 have c3_2 : World.cell? w1 ⟨w.heap.size+1+1+1,2,none⟩=some (.int .i64 c):=bX3.cell 2
 have c4_0 : World.cell? w1 ⟨w.heap.size+1+1+1+1,0,none⟩=some (.slice a2 run.length cp2):=bX4.cell 0
 have c5_0 : World.cell? w1 ⟨w.heap.size+1+1+1+1+1,0,none⟩=some (.int .i64 0):=bX5.cell 0
 have c5_1 : World.cell? w1 ⟨w.heap.size+1+1+1+1+1,1,none⟩=some (.slice none 0 0):=bX5.cell 1
 go_wp2_with fail
 clear c0_0 c0_1 c1_0 c2_0 c3_0 c3_1 c3_2 c4_0 c5_0 c5_1
 clear hw1
 refine (stacks_asked hL.out hV.out).mono ?_
 rintro e w2 ⟨rfl,hE2⟩
 rw [h0.out]
 have c0_0 : World.cell? w2 ⟨w.heap.size,0,none⟩=some (.int .i64 num):=(bX0.ext hE2).cell 0
 have c0_1 : World.cell? w2 ⟨w.heap.size,1,none⟩=some (.slice q l.length cp):=(bX0.ext hE2).cell 1
 have c1_0 : World.cell? w2 ⟨w.heap.size+1,0,none⟩=some (.int .u8 kind):=(bX1.ext hE2).cell 0
 have c2_0 : World.cell? w2 ⟨w.heap.size+1+1,0,none⟩=some (.int .i64 tag):=(bX2.ext hE2).cell 0
 have c3_0 : World.cell? w2 ⟨w.heap.size+1+1+1,0,none⟩=some (.int .u8 p):=(bX3.ext hE2).cell 0
 have c3_1 : World.cell? w2 ⟨w.heap.size+1+1+1,1,none⟩=some (.int .i64 t):=(bX3.ext hE2).cell 1
 have c3_2 : World.cell? w2 ⟨w.heap.size+1+1+1,2,none⟩=some (.int .i64 c):=(bX3.ext hE2).cell 2
 have c4_0 : World.cell? w2 ⟨w.heap.size+1+1+1+1,0,none⟩=some (.slice a2 run.length cp2):=(bX4.ext hE2).cell 0
 have c5_0 : World.cell? w2 ⟨w.heap.size+1+1+1+1+1,0,none⟩=some (.int .i64 0):=(bX5.ext hE2).cell 0
 have c5_1 : World.cell? w2 ⟨w.heap.size+1+1+1+1+1,1,none⟩=some (.slice none 0 0):=(bX5.ext hE2).cell 1
 have f0:=(bX5.ext hE2).frozen 0
 have f1:=(bX5.ext hE2).frozen 1
 go_wp2_with fail
 refine (grant_Check _ hk.out).mono ?_
 rintro e w3 ⟨rfl,rfl⟩
 rw [hke.out]
 go_wp2_with fail
 refine (stacks_each callFunc_retag33 (stacks_retag1 hk.out tag p t c (w.heap.size+1) (w.heap.size+1+1) (w.heap.size+1+1+1) (w.heap.size+1+1+1+1) _ (hP.out.ext hE2) c1_0 c2_0 c3_0 c3_1 c3_2 c4_0 (hV.out.ext hE2)) hsm.out hin3.out (hL.out.ext hE2)).mono ?_
 rintro e w4 ⟨v4,vs4,rfl,h4,hE4⟩
 rw [hy.out] at h4 ⊢
 dsimp only at h4 ⊢
 clear c0_0 c0_1 c1_0 c2_0 c3_0 c3_1 c3_2 c4_0 c5_0 c5_1 f0 f1
 obtain ⟨a4,k4,rfl,-⟩:=h4.sts.form
 replace h4:=Lib.hid h4
 have c0 : World.cell? w4 ⟨w.heap.size+1+1+1+1+1,0,none⟩=some (.int .i64 0):=((bX5.ext hE2).ext hE4).cell 0
 have c1 : World.cell? w4 ⟨w.heap.size+1+1+1+1+1,1,none⟩=some (.slice none 0 0):=((bX5.ext hE2).ext hE4).cell 1
 have f0:=((bX5.ext hE2).ext hE4).frozen 0
 have f1:=((bX5.ext hE2).ext hE4).frozen 1
 have hlt:=bX5.lt
 have hsz2:=hE2.size
 go_wp2
 rw [hres.out,hy.out]
 have hY:=((ExtBut.setCell w4 ⟨w.heap.size+1+1+1+1+1,0,none⟩ (.int .i64 yn)).mono (S':=fun b=>b=w.heap.size+1+1+1+1+1) (fun x _ h=>h)).trans ((ExtBut.setCell _ ⟨w.heap.size+1+1+1+1+1,1,none⟩ (.slice a4 yl.length k4)).mono (S':=fun b=>b=w.heap.size+1+1+1+1+1) (fun x _ h=>h))
 refine bodyPost_ret (v := .tuple #[.agg #[.int .i64 yn,.slice a4 yl.length k4],.int .u8 u,.int .i64 e3]) (by simp [results,Tryd.f10,go_sem,c0,c1]) rfl ⟨_,vs4,rfl,OwnS.mono (B:=w2.heap.size) (B':=w.heap.size) (OwnS.but h4.out hY (fun g e h=>by omega)) (by omega),ExtBut.ext ((hE0.trans hE2).trans hE4) hY (fun x h=>by omega)⟩
end Go.Proofs.YtoanoodfacmieaaDoor

/- Contracts: Get of the program and of the reference. -/
namespace Go.Proofs.YtoanoodfacmieaaDoor
set_option maxRecDepth 100000
open Go.RowKit
theorem endR_bad {m : Mem} {n : Int} (h : m.ok=false) : endR m n=(Mem.zero,8):=by simp [endR,h]
theorem endR_none {m : Mem} {n : Int} (h : m.ok=true) (ha : atNum m.al n=none) : endR m n=(Mem.zero,6):=by simp [endR,h,ha]
theorem endR_dead {m : Mem} {n : Int} {i : Nat} {x : Alloc} (h : m.ok=true) (ha : atNum m.al n=some i) (hx : m.al[i]? = some x) (hl : x.live=false) : endR m n=(Mem.zero,6):=by
 simp [endR,h,ha,List.getD_eq_getElem?_getD,hx,hl]
theorem endR_live {m : Mem} {n : Int} {i : Nat} {x : Alloc} (h : m.ok=true) (ha : atNum m.al n=some i) (hx : m.al[i]? = some x) (hl : x.live=true) : endR m n=(⟨m.al.set i (ended x),m.next⟩,0):=by
 simp [endR,h,ha,List.getD_eq_getElem?_getD,hx,hl,endAt]
theorem idxM_none {l : List Alloc} {n : Int} (h : atNum l n=none) : idxM l n = -1:=by rw [idxM,h];rfl
theorem idxM_some {l : List Alloc} {n : Int} {i : Nat} (h : atNum l n=some i) : idxM l n=(i : Int):=by rw [idxM,h];rfl
end Go.Proofs.YtoanoodfacmieaaDoor

/- clear: a slice that the call owns. -/
namespace Go.Proofs.YtoanoodfacmieaaDoor
set_option maxRecDepth 100000
open Go.RowKit
theorem run_clear_own {P : Program} {w : World} {B : Nat} {t ty e : TypeId} {i : TypeInfo} {z : Value} {k : Nat} {v : Value} {n : Nat} {xs : List Value}
  (ht : P.underlying t=some (.slice e)) (hi : P.info? e=some i) (hz : i.zero=some z) (hzk : z.cells.size=k) (h1 : ∀ u ∈ (Builtin.zeroCells z.cells n).toList,u.oneCell'=true) (hown : Own w B e k v n xs) :
  ∃ w',(Builtin.clear_ #[t] ty #[v]).run P w = .ok (.tuple #[]) w'∧Own w' B e k v n (Builtin.zeroCells z.cells n).toList∧ExtBut (fun b=>v.ownBlock=some b) w w':=by
 have hlen : (Builtin.zeroCells z.cells n).toList.length=n * k:=by rw [Array.length_toList,size_zeroCells,hzk]
 by_cases hn : n=0
 ·subst hn
  have hnil : (Builtin.zeroCells z.cells 0).toList=[]:=List.eq_nil_of_length_eq_zero (by rw [hlen];simp)
  have hxs : xs=[]:=List.eq_nil_of_length_eq_zero (by simpa using hown.1)
  subst hxs
  rw [hnil]
  refine ⟨w,?_,hown,ExtBut.refl _ _⟩
  obtain ⟨a,cap,rfl,-⟩:=hown.sl.slice_form
  cases a <;> simp [Builtin.clear_,run_underlying ht]
 ·rcases hown.2 with ⟨_,h0⟩ | ⟨g,cap,cur,rfl,hbg,hg,hnc,hcm,hcs,htake⟩
  ·exact absurd h0 hn
  ·have hfit : n * k≤cur.size:=by rw [hcs];exact Nat.mul_le_mul_right _ hnc
   have hst:=run_storeCells_at P g 0 e (Builtin.zeroCells z.cells n).toList 0 cur w hg (by simpa [hlen] using hfit) h1
   simp only [Nat.add_zero,Nat.zero_add] at hst
   obtain ⟨n',rfl⟩ : ∃ n',n=n'+1:=⟨n - 1,by omega⟩
   refine ⟨w.setRow g ((Builtin.zeroCells z.cells (n'+1)).toList ++ cur.toList.drop ((n'+1) * k)).toArray,?_,⟨hlen,.inr ⟨g,cap,_,rfl,hbg,setRow_heap w g cur _ e _ hg,hnc,hcm,?_,?_⟩⟩,⟨rfl,rfl,rfl,by simp,fun b hb hne=>setRow_other w g b _ (fun e=>hne (by rw [e];rfl))⟩⟩
   ·have hst':=hst
    rw [hlen] at hst'
    simp [Builtin.clear_,run_underlying ht,zeroValue,typeInfo,hi,hz,hst']
   ·simp only [List.size_toArray,List.length_append,List.length_drop,Array.length_toList]
    rw [← Array.length_toList,hlen]
    omega
   ·rw [← hlen]
    exact List.take_left
theorem Als.of_put {w w5 : World} {B B' : Nat} {v s' : Value} {vs : List Value} {l : List Alloc} {i : Nat} {y : Alloc} {S : Nat→Prop} (h : OM w B v vs l) (hil : i < l.length)
  (hO : Own w5 B' 101 3 v l.length (trows arow (vs.set i s') (l.set i y))) (hX : ExtBut S w w5) (hS : ∀ (j : Nat) (s1 : Value),j≠i→vs[j]? = some s1 → ∀ g,s1.ownBlock=some g → ¬ S g) (hc : Cls w5 s' y.cells) : Als w5 v (l.set i y):=by
 have hl:=(All2.iff.1 h.inner).1
 refine ⟨vs.set i s',All2.iff.2 ⟨by simpa using hl,fun j a b ha hb => ?_⟩,by rw [List.length_set];exact hO.sl⟩
 by_cases e : i=j
 ·subst e
  rw [List.getElem?_set_self (by omega)] at ha hb
  cases ha
  cases hb
  exact hc
 ·rw [List.getElem?_set_ne e] at ha hb
  exact ExtBut.sl (OwnC.read ((All2.iff.1 h.inner).2 j a b ha hb)) hX (hS j a (fun e'=>e e'.symm) ha)
theorem OM.apart' {w : World} {B : Nat} {v s : Value} {vs : List Value} {l : List Alloc} (h : OM w B v vs l) {i : Nat} (hi : vs[i]? = some s) {b : Nat} (hb : s.ownBlock=some b) :
  ∀ (j : Nat) (s1 : Value),j≠i→vs[j]? = some s1 → ∀ g,s1.ownBlock=some g→g≠b:=fun j s1 hne hj g hg e=>h.apart j i s1 s hne hj hi g hg (by rw [hb,e])
theorem Cell.infoZ : ∃ i z,Tryd.prog.info? 28=some i∧i.zero=some z∧z.cells=#[.int .u8 0,.int .i64 0,.int .i64 0,.int .i64 0,.int .i64 0]:=by
 have h : (Tryd.prog.info? 28).map (fun i=>i.zero.map (fun z=>z.cells))=some (some #[.int .u8 0,.int .i64 0,.int .i64 0,.int .i64 0,.int .i64 0]):=by kernel_rfl
 cases hi : Tryd.prog.info? 28 with
 | none=>rw [hi] at h;simp at h
 | some i =>
  rw [hi] at h
  cases hz : i.zero with
  | none=>simp [hz] at h
  | some z=>exact ⟨i,z,rfl,hz,by simpa [hz] using h⟩
theorem zcells_zero (n : Nat) : Builtin.zeroCells #[.int .u8 0,.int .i64 0,.int .i64 0,.int .i64 0,.int .i64 0] n=zcells n:=zcells_made n
theorem zcells_one (n : Nat) : ∀ u ∈ (zcells n).toList,u.oneCell'=true:=Cell.one _
end Go.Proofs.YtoanoodfacmieaaDoor

/- Contracts: End of the program and of the reference. -/
namespace Go.Proofs.YtoanoodfacmieaaDoor
set_option maxRecDepth 100000
open Go.RowKit
set_option maxRecDepth 100000 in
set_option maxHeartbeats 3200000 in
theorem allocs_End {m : Mem} {s : Value} {w : World} (n : Int) (hl : Als w s m.al) (hn : i64B m.next) :
  Calls Tryd.prog 39 #[.agg #[s,.int .i64 m.next],.int .i64 n] w (RetME w (endR m n).1 (endR m n).2):=by
 have hE0:=((Ext.refl w).alloc (.cells #[s,.int .i64 m.next] 31)).alloc (.cells #[.slice none 0 0,.int .i64 0] 31)
 obtain ⟨a,cp,rfl,hlc,hcm,-⟩:=hl.form
 unfold maxLen at hcm
 have bM:=(Box.new w 31 #[.slice a m.al.length cp,.int .i64 m.next]).ext ((Ext.refl _).alloc (.cells #[.slice none 0 0,.int .i64 0] 31))
 have bR:=Box.new (w.alloc (.cells #[.slice a m.al.length cp,.int .i64 m.next] 31)) 31 #[.slice none 0 0,.int .i64 0]
 rw [World.size_alloc] at bR
 have hCk:=Lib.hid (allocs_Check (hl.ext hE0) hn)
 have hL:=Lib.hid hl
 cases hok : m.ok
 ·have hce : Hid (memErr m.al m.next=8):=Hid.mk (memErr_bad hok)
  have hres:=Lib.hid (endR_bad (n:=n) hok)
  clear hok hl
  go_enter Tryd.func39,Tryd.ntmps39
  go_wp2_with fail
  refine hCk.out.mono ?_
  rintro e w1 ⟨rfl,hE1⟩
  rw [hce.out]
  have bR1:=bR.ext hE1
  have r0 : w1.cell? ⟨w.heap.size+1,0,none⟩=some (.slice none 0 0):=bR1.cell 0
  have r1 : w1.cell? ⟨w.heap.size+1,1,none⟩=some (.int .i64 0):=bR1.cell 1
  have rf0:=bR1.frozen 0
  have rf1:=bR1.frozen 1
  have hF1:=hE0.trans hE1
  clear bM bR bR1
  go_wp2
  rw [hres.out]
  refine bodyPost_ret (v := .tuple #[.agg #[.slice none 0 0,.int .i64 0],.int .i64 8]) (by simp [results,Tryd.f39,go_sem,r0,r1]) rfl ⟨_,rfl,FrM.zero _ _,(hF1.setCell (by simp) _).setCell (by simp) _⟩
 ·have hce : Hid (memErr m.al m.next=0):=Hid.mk (memErr_ok hok)
  have hsm:=small_of_ok hok
  cases hat : atNum m.al n with
  | none =>
   have hix:=Lib.hid (idxM_none hat)
   have hres:=Lib.hid (endR_none hok hat)
   clear hok hl hat
   go_enter Tryd.func39,Tryd.ntmps39
   go_wp2_with fail
   refine hCk.out.mono ?_
   rintro e w1 ⟨rfl,hE1⟩
   rw [hce.out]
   have hF1:=hE0.trans hE1
   have bM1:=bM.ext hE1
   have m0 : w1.cell? ⟨w.heap.size,0,none⟩=some (.slice a m.al.length cp):=bM1.cell 0
   have m1 : w1.cell? ⟨w.heap.size,1,none⟩=some (.int .i64 m.next):=bM1.cell 1
   go_wp2_with fail
   refine (allocs_find n (hL.out.ext hF1)).mono ?_
   rintro e w2 ⟨rfl,hE2⟩
   rw [hix.out]
   have hF2:=hF1.trans hE2
   have bR2:=(bR.ext hE1).ext hE2
   have r0 : w2.cell? ⟨w.heap.size+1,0,none⟩=some (.slice none 0 0):=bR2.cell 0
   have r1 : w2.cell? ⟨w.heap.size+1,1,none⟩=some (.int .i64 0):=bR2.cell 1
   have rf0:=bR2.frozen 0
   have rf1:=bR2.frozen 1
   clear bM bR bR2 bM1 m0 m1
   go_wp2
   rw [hres.out]
   refine bodyPost_ret (v := .tuple #[.agg #[.slice none 0 0,.int .i64 0],.int .i64 6]) (by simp [results,Tryd.f39,go_sem,r0,r1]) rfl ⟨_,rfl,FrM.zero _ _,(hF2.setCell (by simp) _).setCell (by simp) _⟩
  | some i =>
   have hil:=(atNum_lt hat).1
   obtain ⟨x,hx⟩ : ∃ x,m.al[i]? = some x:=⟨m.al[i],by simp [hil]⟩
   have hix:=Lib.hid (idxM_some hat)
   have hX:=Lib.hid hx
   have hi2 : decide ((i : Int) < 0)=false:=decide_eq_false (by omega)
   have hi0 : (0 : Int)≤(i : Int):=by omega
   have hi1 : (i : Int) < (m.al.length : Int):=by omega
   cases hlv : x.live
   ·have hres:=Lib.hid (endR_dead hok hat hx hlv)
    have hlv':=Lib.hid hlv
    clear hok hl hat hx hlv
    go_enter Tryd.func39,Tryd.ntmps39
    go_wp2_with fail
    refine hCk.out.mono ?_
    rintro e w1 ⟨rfl,hE1⟩
    rw [hce.out]
    have hF1:=hE0.trans hE1
    have bM1:=bM.ext hE1
    have m0 : w1.cell? ⟨w.heap.size,0,none⟩=some (.slice a m.al.length cp):=bM1.cell 0
    have m1 : w1.cell? ⟨w.heap.size,1,none⟩=some (.int .i64 m.next):=bM1.cell 1
    go_wp2_with fail
    refine (allocs_find n (hL.out.ext hF1)).mono ?_
    rintro e w2 ⟨rfl,hE2⟩
    rw [hix.out]
    have hF2:=hF1.trans hE2
    have bM2:=bM1.ext hE2
    have bR2:=(bR.ext hE1).ext hE2
    clear m0 m1
    have m0 : w2.cell? ⟨w.heap.size,0,none⟩=some (.slice a m.al.length cp):=bM2.cell 0
    have r0 : w2.cell? ⟨w.heap.size+1,0,none⟩=some (.slice none 0 0):=bR2.cell 0
    have r1 : w2.cell? ⟨w.heap.size+1,1,none⟩=some (.int .i64 0):=bR2.cell 1
    have rf0:=bR2.frozen 0
    have rf1:=bR2.frozen 1
    obtain ⟨b,off,sv,rfl,hbb,d0,d1,d2,-⟩:=(hL.out.ext hF2).cell hX.out
    rw [hlv'.out] at d1
    clear bM bR bR2 bM1 bM2
    go_wp2
    rw [hres.out]
    refine bodyPost_ret (v := .tuple #[.agg #[.slice none 0 0,.int .i64 0],.int .i64 6]) (by simp [results,Tryd.f39,go_sem,r0,r1]) rfl ⟨_,rfl,FrM.zero _ _,(hF2.setCell (by simp) _).setCell (by simp) _⟩
   ·have hres:=Lib.hid (endR_live hok hat hx hlv)
    have hlv':=Lib.hid hlv
    clear hok hl hat hx hlv
    go_enter Tryd.func39,Tryd.ntmps39
    go_wp2_with fail
    refine hCk.out.mono ?_
    rintro e w1 ⟨rfl,hE1⟩
    rw [hce.out]
    have hF1:=hE0.trans hE1
    have bM1:=bM.ext hE1
    have m0 : w1.cell? ⟨w.heap.size,0,none⟩=some (.slice a m.al.length cp):=bM1.cell 0
    have m1 : w1.cell? ⟨w.heap.size,1,none⟩=some (.int .i64 m.next):=bM1.cell 1
    go_wp2_with fail
    refine (allocs_find n (hL.out.ext hF1)).mono ?_
    rintro e w2 ⟨rfl,hE2⟩
    rw [hix.out]
    have hF2:=hF1.trans hE2
    have bM2:=bM1.ext hE2
    clear m0 m1
    have m0 : w2.cell? ⟨w.heap.size,0,none⟩=some (.slice a m.al.length cp):=bM2.cell 0
    have m1 : w2.cell? ⟨w.heap.size,1,none⟩=some (.int .i64 m.next):=bM2.cell 1
    obtain ⟨b,off,sv,rfl,hbb,d0,d1,d2,-⟩:=(hL.out.ext hF2).cell hX.out
    rw [hlv'.out] at d1
    go_wp2_with fail
    refine (allocs_clone (hL.out.ext hF2) hsm).mono ?_
    rintro e w3 ⟨v,vs,rfl,hOM,hE3⟩
    have hF3:=hF2.trans hE3
    have hv:=hOM.outer.sl.slice_form
    obtain ⟨a2,cp2,rfl,hlc2,hcm2,-⟩:=hv
    unfold maxLen at hcm2
    obtain ⟨g,sv',rfl,hg1,hg2,hvi,hown,⟨f0,f1,f2⟩,hfr,hsb⟩:=OM.cell hOM hX.out
    rw [hlv'.out] at f1
    have hvf:=hown.read.form
    obtain ⟨ca,ccp,rfl,-⟩:=hvf
    have bM3:=bM2.ext hE3
    have bR3:=((bR.ext hE1).ext hE2).ext hE3
    have hw2 : w.heap.size+1 < w2.heap.size:=((bR.ext hE1).ext hE2).lt
    have k0 : w3.cell? ⟨w.heap.size,0,none⟩=some (.slice (some ⟨b,off,none⟩) m.al.length cp):=bM3.cell 0
    have k1 : w3.cell? ⟨w.heap.size,1,none⟩=some (.int .i64 m.next):=bM3.cell 1
    have kf0:=bM3.frozen 0
    have kf1:=bM3.frozen 1
    have fr1:=hfr (i * 3+1)
    have hg0 : g≠w.heap.size:=by omega
    have hg0' : w.heap.size≠g:=by omega
    obtain ⟨ci,cz,hci,hcz,hczz⟩:=Cell.infoZ
    have hXa : ExtBut (fun b=>b=w.heap.size∨b=g) w3 (((w3.setCell ⟨w.heap.size,0,none⟩ (.slice (some ⟨g,0,none⟩) m.al.length cp2)).setCell ⟨w.heap.size,1,none⟩ (.int .i64 m.next)).setCell ⟨g,i * 3+1,none⟩ (.bool false)) :=
     (((ExtBut.setCell w3 ⟨w.heap.size,0,none⟩ (.slice (some ⟨g,0,none⟩) m.al.length cp2)).mono (fun x _ h => .inl h)).trans ((ExtBut.setCell _ ⟨w.heap.size,1,none⟩ (.int .i64 m.next)).mono (fun x _ h => .inl h))).trans ((ExtBut.setCell _ ⟨g,i * 3+1,none⟩ (.bool false)).mono (fun x _ h => .inr h))
    have hXb : ExtBut (fun b=>b=w.heap.size) w3 ((w3.setCell ⟨w.heap.size,0,none⟩ (.slice (some ⟨g,0,none⟩) m.al.length cp2)).setCell ⟨w.heap.size,1,none⟩ (.int .i64 m.next)) :=
     (ExtBut.setCell w3 ⟨w.heap.size,0,none⟩ (.slice (some ⟨g,0,none⟩) m.al.length cp2)).trans (ExtBut.setCell _ ⟨w.heap.size,1,none⟩ (.int .i64 m.next))
    have hOu:=(ExtBut.own hOM.outer hXb (fun b' e h=>by have h' : some g=some b':=e;cases h';omega)).set (i * 3+1) (.bool false)
    rw [trows_set arow arow_len hvi hX.out (by omega : 1 < 3) (show arow _ (ended x)=(arow _ x).set 1 (.bool false) from rfl)] at hOu
    have hownA:=OwnC.keep hown hXa (fun b' e h=>by have:=hsb b' e;omega)
    obtain ⟨w5,hr5,hO5,hX5⟩:=run_clear_own (P:=Tryd.prog) (ty:=0) (t:=24) (k:=5) (n:=x.cells.length) Tryd.underlying24 hci hcz (by rw [hczz];rfl) (by rw [hczz,zcells_zero];exact zcells_one _) hownA
    rw [hczz,zcells_zero] at hO5
    have hOu5:=ExtBut.own hOu hX5 (fun b' e h=>by have h' : some g=some b':=e;cases h';exact (hsb _ h).2.2 rfl)
    have bM5:=((bM3.set 0 (.slice (some ⟨g,0,none⟩) m.al.length cp2)).set 1 (.int .i64 m.next)).other (p:=⟨g,i * 3+1,none⟩) hg0 (.bool false)
    have bM5:=bM5.but hX5 (fun h=>by have:=hsb _ h;omega)
    have bR5:=(bR3.but hXa (by omega)).but hX5 (fun h=>by have:=hsb _ h;omega)
    have hX35 : ExtBut (fun b=>b=w.heap.size∨b=g∨(Value.slice ca x.cells.length ccp).ownBlock=some b) w3 w5:=(hXa.mono (fun x _ h=>by rcases h with h | h;exact .inl h;exact .inr (.inl h))).trans (hX5.mono (fun x _ h => .inr (.inr h)))
    have hF5 : Ext w w5:=ExtBut.ext hF3 hX35 (fun b' h=>by rcases h with h | h | h;omega;omega;(have:=hsb _ h;omega))
    have p0 : w5.cell? ⟨w.heap.size,0,none⟩=some (.slice (some ⟨g,0,none⟩) m.al.length cp2):=bM5.cell 0
    have p1 : w5.cell? ⟨w.heap.size,1,none⟩=some (.int .i64 m.next):=bM5.cell 1
    have r0 : w5.cell? ⟨w.heap.size+1,0,none⟩=some (.slice none 0 0):=bR5.cell 0
    have r1 : w5.cell? ⟨w.heap.size+1,1,none⟩=some (.int .i64 0):=bR5.cell 1
    have rf0:=bR5.frozen 0
    have rf1:=bR5.frozen 1
    have hH:=Lib.hid (And.intro hOM (And.intro hOu5 (And.intro hO5 (And.intro hX35 (And.intro hsb (And.intro hvi hF5))))))
    clear bM bR bM1 bM2 bM3 bR3 m0 m1 hOM hown hsb hfr d0 d1 d2 hXa hXb hOu hownA hO5 hX5 hOu5 bM5 bR5 hX35 hF5
    go_wp2
    rw [hres.out]
    obtain ⟨hOM,hOu5,hO5,hX35,hsb,hvi,hF5⟩:=hH.out
    have hXr:=((ExtBut.setCell w5 ⟨w.heap.size+1,0,none⟩ (.slice (some ⟨g,0,none⟩) m.al.length cp2)).mono (S':=fun b=>b=w.heap.size+1) (fun x _ h=>h)).trans ((ExtBut.setCell _ ⟨w.heap.size+1,1,none⟩ (.int .i64 m.next)).mono (S':=fun b=>b=w.heap.size+1) (fun x _ h=>h))
    have hX37:=(hX35.mono (S':=fun b=>b=w.heap.size∨b=w.heap.size+1∨b=g∨(Value.slice ca x.cells.length ccp).ownBlock=some b) (fun y _ h=>by rcases h with h | h | h;exact .inl h;exact .inr (.inr (.inl h));exact .inr (.inr (.inr h)))).trans (hXr.mono (fun y _ h => .inr (.inl h)))
    refine bodyPost_ret (v := .tuple #[.agg #[.slice (some ⟨g,0,none⟩) m.al.length cp2,.int .i64 m.next],.int .i64 0]) (by simp [results,Tryd.f39,go_sem,r0,r1]) rfl ⟨_,rfl,fun w'' h2=>⟨_,rfl,?_⟩,ExtBut.ext hF5 hXr (fun y h=>by omega)⟩
    have hgw : w.heap.size≤g:=by omega
    refine Als.of_put hOM hil (ExtBut.own (ExtBut.own hOu5 hXr (fun b' e h=>by have h' : some g=some b':=e;cases h';omega)) h2 (fun b' e h=>by have h' : some g=some b':=e;cases h';omega)) ((hX37.mono (S':=fun b=>(b=w.heap.size∨b=w.heap.size+1∨b=g∨(Value.slice ca x.cells.length ccp).ownBlock=some b)∨b < w.heap.size) (fun _ _ h => .inl h)).trans (h2.mono (fun _ _ h => .inr h))) (fun j s1 hne hj g' hg' h => ?_) ?_
    ·have h1:=OM.inner_lt hOM s1 (List.mem_of_getElem? hj) g' hg'
     have h3:=hOM.far s1 (List.mem_of_getElem? hj) g' hg'
     rcases h with (h | h | h | h) | h
     ·omega
     ·omega
     ·exact h3 (by rw [h];rfl)
     ·exact OM.apart' hOM hvi h j s1 hne hj g' hg' rfl
     ·omega
    ·have h3:=(ExtBut.own (ExtBut.own hO5 hXr (fun b' e h=>by have:=hsb b' e;omega)) h2 (fun b' e h=>by have:=hsb b' e;omega)).sl
     show Sl _ 5 _ (List.replicate x.cells.length Cell.zero).length _
     rw [List.length_replicate]
     exact h3
end Go.Proofs.YtoanoodfacmieaaDoor

/- In place: append within an owned row, and the filter that Forget is. -/
namespace Go.Proofs.YtoanoodfacmieaaDoor
set_option maxRecDepth 100000
open Go.RowKit
theorem run_append_fit {P : Program} {w : World} {B : Nat} {t tx ty e e' : TypeId} {i : TypeInfo} {k : Nat} {g n cap j m : Nat} {x : Value} {xs ys : List Value}
  (ht : P.underlying t=some (.slice e)) (htx : P.underlying tx=some (.slice e')) (hi : P.info? e=some i) (hik : i.size=k)
  (hown : Own w B e k (.slice (some ⟨g,0,none⟩) n cap) n xs) (hx : Sl w k x m ys) (h1 : ∀ u ∈ ys,u.oneCell'=true) (hj : j+m≤n) :
  ∃ w',(Builtin.append_ #[t,tx] ty #[.slice (some ⟨g,0,none⟩) j cap,x]).run P w = .ok (.slice (some ⟨g,0,none⟩) (j+m) cap) w' ∧
   Own w' B e k (.slice (some ⟨g,0,none⟩) n cap) n (xs.take (j * k) ++ ys ++ xs.drop ((j+m) * k))∧ExtBut (fun b=>b=g) w w':=by
 subst hik
 have hsrc:=hx.src htx h1
 rcases hown.2 with ⟨h,_⟩ | ⟨g',cap',cur,hv,hbg,hg,hnc,hcm,hcs,htake⟩
 ·cases h
 simp only [Value.slice.injEq,Option.some.injEq,Addr.mk.injEq,and_true,true_and] at hv
 obtain ⟨rfl,rfl⟩:=hv
 have hm1 : (j+m) * i.size≤n * i.size:=Nat.mul_le_mul_right _ hj
 have hm2 : n * i.size≤cap * i.size:=Nat.mul_le_mul_right _ hnc
 have hm3 : (j+m) * i.size=j * i.size+m * i.size:=Nat.add_mul _ _ _
 have hys : ys.length=m * i.size:=hx.len
 have hfit : j * i.size+ys.length≤cur.size:=by rw [hys,hcs];omega
 have hst:=run_storeCells_at P g (j * i.size) e ys 0 cur w hg (by simpa using hfit) h1
 simp only [Nat.add_zero] at hst
 have hroom : j+m≤cap:=by omega
 have hr : (Builtin.append_ #[t,tx] ty #[.slice (some ⟨g,0,none⟩) j cap,x]).run P w =
   .ok (.slice (some ⟨g,0,none⟩) (j+m) cap) (w.setRow g (cur.toList.take (j * i.size) ++ ys ++ cur.toList.drop (j * i.size+ys.length)).toArray):=by
  rcases hsrc.kind with ⟨e',hk⟩ | hk <;> simp [Builtin.append_,run_underlying ht,run_underlying hk,sizeOf,typeInfo,hi,hsrc.len,hroom,hsrc.cells,Addr.add_lit,hst]
 have hxl : xs.length=n * i.size:=hown.1
 refine ⟨_,hr,⟨?_,.inr ⟨g,cap,_,rfl,hbg,setRow_heap w g cur _ e _ hg,hnc,hcm,?_,?_⟩⟩,⟨rfl,rfl,rfl,by simp,fun b hb hne=>setRow_other w g b _ hne⟩⟩
 ·simp only [List.length_append,List.length_take,List.length_drop,hys,hxl]
  omega
 ·simp only [List.size_toArray,List.length_append,List.length_take,List.length_drop,Array.length_toList]
  omega
 ·have hle : j * i.size≤n * i.size:=by omega
  rw [← htake,List.take_append,List.take_of_length_le (by simp only [List.length_append,List.length_take,Array.length_toList,hys];omega)]
  congr 1
  ·congr 1
   rw [List.take_take,Nat.min_eq_left hle]
  ·rw [List.drop_take,hys,hm3,show (cur.toList.take (j * i.size) ++ ys).length=j * i.size+m * i.size by simp only [List.length_append,List.length_take,Array.length_toList,hys];omega,Nat.sub_add_eq]
section
variable (vs : List Value) (l : List Alloc)
def zf (k : Nat) : List (Value × Alloc):=((vs.zip l).take k).filter (fun p=>p.2.live)
def zrows (z : List (Value × Alloc)) : List Value:=z.flatMap fun p=>arow p.1 p.2
variable {vs l}
theorem zf_zero : zf vs l 0=[]:=by simp [zf]
theorem zf_le (k : Nat) : (zf vs l k).length≤k:=Nat.le_trans (List.length_filter_le _ _) (List.length_take_le _ _)
theorem zf_yes {k : Nat} {s : Value} {x : Alloc} (hs : vs[k]? = some s) (hx : l[k]? = some x) (h : x.live=true) : zf vs l (k+1)=zf vs l k ++ [(s,x)]:=by
 have hz : (vs.zip l)[k]? = some (s,x):=by rw [List.getElem?_zip_eq_some];exact ⟨hs,hx⟩
 rw [zf,List.take_add_one,hz,List.filter_append]
 simp [zf,h]
theorem zf_no {k : Nat} {s : Value} {x : Alloc} (hs : vs[k]? = some s) (hx : l[k]? = some x) (h : x.live=false) : zf vs l (k+1)=zf vs l k:=by
 have hz : (vs.zip l)[k]? = some (s,x):=by rw [List.getElem?_zip_eq_some];exact ⟨hs,hx⟩
 rw [zf,List.take_add_one,hz,List.filter_append]
 simp [zf,h]
theorem zf_snd (hl : vs.length=l.length) : (zf vs l l.length).map Prod.snd=l.filter (·.live):=by
 have h1 : (vs.zip l).take l.length=vs.zip l:=List.take_of_length_le (by rw [List.length_zip];omega)
 have h2 : (vs.zip l).map Prod.snd=l:=by rw [← List.unzip_snd,List.unzip_zip_right (by omega)]
 rw [zf,h1]
 conv=>rhs;rw [← h2]
 rw [List.filter_map]
 rfl
theorem zf_rows (z : List (Value × Alloc)) : trows arow (z.map Prod.fst) (z.map Prod.snd)=zrows z:=by
 unfold trows zrows
 congr 1
 induction z with
 | nil=>rfl
 | cons p z ih=>simp [ih]
end
structure FInv (B : Nat) (w3 wr : World) (g cp : Nat) (vs : List Value) (l : List Alloc) (k : Nat) : Prop where
 ys : ∃ ys,Own wr B 101 3 (.slice (some ⟨g,0,none⟩) l.length cp) l.length ys∧ys.take ((zf vs l k).length * 3)=zrows (zf vs l k)∧ys.drop (k * 3)=(trows arow vs l).drop (k * 3)
 keep : ExtBut (fun b=>b=g) w3 wr
theorem FInv.start {B : Nat} {w3 : World} {g cp : Nat} {vs : List Value} {l : List Alloc} (hO : Own w3 B 101 3 (.slice (some ⟨g,0,none⟩) l.length cp) l.length (trows arow vs l)) : FInv B w3 w3 g cp vs l 0 :=
 ⟨⟨_,hO,by simp [zf_zero,zrows],rfl⟩,ExtBut.refl _ _⟩
theorem FInv.skip {B : Nat} {w3 wr w' : World} {g cp : Nat} {vs : List Value} {l : List Alloc} {k : Nat} {s : Value} {x : Alloc} (h : FInv B w3 wr g cp vs l k) (hs : vs[k]? = some s) (hx : l[k]? = some x) (hl : x.live=false) (hE : Ext wr w') : FInv B w3 w' g cp vs l (k+1):=by
 obtain ⟨⟨ys,h1,h2,h3⟩,h4⟩:=h
 refine ⟨⟨ys,h1.ext hE,by rw [zf_no hs hx hl];exact h2,?_⟩,h4.trans (ExtBut.of_ext hE)⟩
 rw [Nat.add_mul,← List.drop_drop,← List.drop_drop,h3]
theorem FInv.cells {B : Nat} {w3 wr : World} {g cp : Nat} {vs : List Value} {l : List Alloc} {k : Nat} {s : Value} {x : Alloc} (h : FInv B w3 wr g cp vs l k) (hs : vs[k]? = some s) (hx : l[k]? = some x) :
  wr.cell? ⟨g,k * 3,none⟩=some (.int .i64 x.num)∧wr.cell? ⟨g,k * 3+1,none⟩=some (.bool x.live)∧wr.cell? ⟨g,k * 3+2,none⟩=some s:=by
 obtain ⟨⟨ys,h1,h2,h3⟩,h4⟩:=h
 have hk : k < l.length:=(List.getElem?_eq_some_iff.1 hx).1
 have t : ∀ j,j < 3→wr.cell? ⟨g,k * 3+j,none⟩=(arow s x)[j]? := fun j hj=>by
  rw [h1.cellAt (k * 3+j) (by omega)]
  have e1 : ys[k * 3+j]? = (ys.drop (k * 3))[j]? := by rw [List.getElem?_drop]
  have e2 : (trows arow vs l)[k * 3+j]? = ((trows arow vs l).drop (k * 3))[j]? := by rw [List.getElem?_drop]
  rw [e1,h3,← e2]
  exact trows_get arow arow_len hs hx hj
 exact ⟨t 0 (by omega),t 1 (by omega),t 2 (by omega)⟩
set_option maxRecDepth 100000 in
theorem FInv.take {B : Nat} {w3 wr wx : World} {g cp : Nat} {vs : List Value} {l : List Alloc} {k : Nat} {s v : Value} {x : Alloc} (h : FInv B w3 wr g cp vs l k) (hs : vs[k]? = some s) (hx : l[k]? = some x) (hl : x.live=true) (hE : Ext wr wx)
  (hv : Sl wx 3 v 1 (arow s x)) (hs1 : s.oneCell'=true) : ∃ w',(Builtin.append_ #[29,29] 29 #[.slice (some ⟨g,0,none⟩) (zf vs l k).length cp,v]).run Tryd.prog wx = .ok (.slice (some ⟨g,0,none⟩) ((zf vs l k).length+1) cp) w'∧FInv B w3 w' g cp vs l (k+1)∧ExtBut (fun b=>b=g) wx w':=by
 obtain ⟨⟨ys,h1,h2,h3⟩,h4⟩:=h
 obtain ⟨i,z,hi,hz,hi3,hz3,hby⟩:=Alloc.infoE
 have hk : k < l.length:=(List.getElem?_eq_some_iff.1 hx).1
 have hle:=zf_le (vs:=vs) (l:=l) k
 have hyl : ys.length=l.length * 3:=h1.1
 obtain ⟨w',hr,hO,hX⟩:=run_append_fit (P:=Tryd.prog) (ty:=29) (j:=(zf vs l k).length) Tryd.underlying29 Tryd.underlying29 hi hi3 (h1.ext hE) hv (by intro u hu;simp only [arow,List.mem_cons,List.not_mem_nil,or_false] at hu;rcases hu with rfl | rfl | rfl;rfl;rfl;exact hs1) (by omega)
 refine ⟨w',hr,⟨⟨_,hO,?_,?_⟩,(h4.trans (ExtBut.of_ext hE)).trans hX⟩,hX⟩
 ·rw [zf_yes hs hx hl,List.length_append,List.length_singleton,zrows,List.flatMap_append,← zrows,← h2,List.take_append,List.take_of_length_le (by simp [arow_len];omega)]
  simp [arow_len,List.length_take]
  left
  omega
 ·rw [List.drop_append,List.drop_of_length_le (by simp [arow_len,List.length_take];omega),List.nil_append]
  have e : (List.take ((zf vs l k).length * 3) ys ++ arow s x).length=(zf vs l k).length * 3+3:=by simp [arow_len,List.length_take];omega
  rw [e,List.drop_drop,show ((zf vs l k).length+1) * 3+((k+1) * 3 - ((zf vs l k).length * 3+3))=k * 3+3 by omega,← List.drop_drop,h3,List.drop_drop]
  congr 1
  omega
theorem Sl.tight {w : World} {k : Nat} {a : Option Addr} {n cap : Nat} {xs : List Value} (h : Sl w k (.slice a n cap) n xs) (hk : n≤maxLen) (hx : a=none→n=0) : Sl w k (.slice a n n) n xs:=by
 obtain ⟨h1,a',cap',e,h3,h4,h5,h6⟩:=h
 simp only [Value.slice.injEq] at e
 obtain ⟨rfl,_,rfl⟩:=e
 exact ⟨h1,a,n,rfl,Nat.le_refl _,hk,hx,h6⟩
theorem FInv.read {B : Nat} {w3 wr w7 : World} {g cp : Nat} {vs : List Value} {l : List Alloc} {S : Nat→Prop} (h : FInv B w3 wr g cp vs l l.length) (hOM : OM w3 B (.slice (some ⟨g,0,none⟩) l.length cp) vs l) (hg : B≤g) (hX : ExtBut S wr w7) (hS : ∀ b,S b→b < B) :
  Als w7 (.slice (some ⟨g,0,none⟩) (zf vs l l.length).length (zf vs l l.length).length) (l.filter (·.live)):=by
 obtain ⟨⟨ys,h1,h2,h3⟩,h4⟩:=h
 have hl:=(All2.iff.1 hOM.inner).1
 have hle:=zf_le (vs:=vs) (l:=l) l.length
 have e1:=zf_snd hl
 refine ⟨(zf vs l l.length).map Prod.fst,?_,?_⟩
 ·rw [← e1]
  refine All2.map _ _ _ fun p hp => ?_
  have hp2:=List.mem_of_mem_take (List.mem_filter.1 hp).1
  obtain ⟨i,hi⟩:=List.mem_iff_getElem?.1 hp2
  rw [List.getElem?_zip_eq_some] at hi
  have hr:=(All2.iff.1 hOM.inner).2 i _ _ hi.1 hi.2
  have h5:=OM.inner_lt hOM p.1 (List.mem_of_getElem? hi.1)
  have h6:=hOM.far p.1 (List.mem_of_getElem? hi.1)
  exact ExtBut.sl (ExtBut.sl (OwnC.read hr) h4 (fun b e hb=>h6 b e (by rw [hb];rfl))) hX (fun b e hb=>by have:=(h5 b e).1;have:=hS b hb;omega)
 ·have h7:=(ExtBut.own h1 hX (fun b e hb=>by have h' : some g=some b:=e;cases h';have:=hS _ hb;omega)).sl
  have h8:=h7.take (zf vs l l.length).length (by omega)
  rw [h2,← zf_rows,e1] at h8
  rw [← e1,List.length_map,e1]
  obtain ⟨_,_,_,_,hcm,_⟩:=h7
  exact h8.tight (by rcases h1.2 with ⟨h,_⟩ | ⟨_,_,_,hv,_,_,hnc,hcm',_⟩;cases h;simp only [Value.slice.injEq] at hv;omega) (fun e=>by cases e)
end Go.Proofs.YtoanoodfacmieaaDoor

/- Contracts: Forget of the program and of the reference. -/
namespace Go.Proofs.YtoanoodfacmieaaDoor
set_option maxRecDepth 100000
open Go.RowKit
end Go.Proofs.YtoanoodfacmieaaDoor
