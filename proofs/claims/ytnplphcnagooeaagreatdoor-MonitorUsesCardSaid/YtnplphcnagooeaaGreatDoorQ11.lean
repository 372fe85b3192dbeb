/- Several texts in one: StkI. -/
import Derived.Test.YtnplphcnagooeaaGreatDoorQ10
/- Contracts: Read, Write, Retag of layer 33, the program's and the reference's. (printed by gen/acts33.py) -/
namespace Go.Proofs.YtnplphcnagooeaaGreatDoor
set_option maxRecDepth 100000
open Go.RowKit
theorem okK_small33 {x : Stk} (h : okK x=true) : x.cells.length≤2 ∧ ∀ s ∈ x.cells,s.length≤600:=by
 unfold okK at h
 simp only [Bool.and_eq_true,decide_eq_true_eq] at h
 refine ⟨h.1.2,fun s hs => ?_⟩
 have:=List.all_eq_true.1 h.2 s hs
 unfold okS at this
 simp only [Bool.and_eq_true,decide_eq_true_eq] at this
 exact this.1
def use33 (x : Stk) (a n tag : Int) (b : Bool) (run : List Int) : Stk × Int × Int:=if ask33 x a n run=0 then eachR (fun l=>useR l tag b run) x a.toNat n.toNat else (Stk.zero,0,ask33 x a n run)
def tag33 (x : Stk) (a n k old : Int) (it : Item) (run : List Int) : Stk × Int × Int:=if ask33 x a n run=0 then (if kindOk k then eachR (fun l=>tagR l k old it run) x a.toNat n.toNat else (Stk.zero,0,2)) else (Stk.zero,0,ask33 x a n run)
theorem use33_bad {x : Stk} {a n tag : Int} {b : Bool} {run : List Int} {e : Int} (h : ask33 x a n run=e) (he : e≠0) : use33 x a n tag b run=(Stk.zero,0,e):=by rw [use33,h,if_neg he]
theorem use33_ok {x : Stk} {a n : Nat} {tag : Int} {b : Bool} {run : List Int} (h : ask33 x a n run=0) : use33 x a n tag b run=eachR (fun l=>useR l tag b run) x a n:=by rw [use33,if_pos h,Int.toNat_natCast,Int.toNat_natCast]
theorem tag33_bad {x : Stk} {a n k old : Int} {it : Item} {run : List Int} {e : Int} (h : ask33 x a n run=e) (he : e≠0) : tag33 x a n k old it run=(Stk.zero,0,e):=by rw [tag33,h,if_neg he]
theorem tag33_arg {x : Stk} {a n k old : Int} {it : Item} {run : List Int} (h : ask33 x a n run=0) (hk : kindOk k=false) : tag33 x a n k old it run=(Stk.zero,0,2):=by rw [tag33,if_pos h,if_neg (by simp [hk])]
theorem tag33_ok {x : Stk} {a n : Nat} {k old : Int} {it : Item} {run : List Int} (h : ask33 x a n run=0) (hk : kindOk k=true) : tag33 x a n k old it run=eachR (fun l=>tagR l k old it run) x a n:=by rw [tag33,if_pos h,if_pos hk,Int.toNat_natCast,Int.toNat_natCast]
theorem oneR_fun0 (tag : Int) (it : Item) (run : List Int) : oneR 0 tag it run=fun l=>useR l tag false run:=rfl
theorem oneR_fun9 (tag : Int) (it : Item) (run : List Int) : oneR 9 tag it run=fun l=>useR l tag true run:=rfl
theorem oneR_funK {k : Int} (tag : Int) (it : Item) (run : List Int) (hk : kindOk k=true) : oneR k tag it run=fun l=>tagR l k tag it run:=by
 funext l
 rcases kind_yes hk with rfl | rfl | rfl | rfl <;> rfl
theorem callFunc_read33 (args : Array Value) (w : World) : (callFunc 86 args).run Tryz.prog w = .ok (.enter 86 args) w:=by kernel_rfl
set_option maxHeartbeats 400000 in
theorem stacks_read1 {run : List Int} {r : Value} (tag : Int) (B1 B2 : Nat) (W : World) (h1 : W.cell? ⟨B1,0,none⟩=some (.int .i64 tag)) (h2 : W.cell? ⟨B2,0,none⟩=some r) (hr : Nts W r run) : PredU 86 #[.pointer (some ⟨B1,0,none⟩),.pointer (some ⟨B2,0,none⟩)] W (fun l=>useR l tag false run):=by
 intro x s w hW hl
 have d1:=hW.cell h1
 have d2:=hW.cell h2
 have hF:=Lib.hid (guard_ReadO tag hl (hr.ext hW))
 obtain ⟨a,cp,rfl,-⟩:=hl.form
 obtain ⟨a2,cp2,rfl,-⟩:=hr.form
 clear h1 h2 hW hl hr
 show Calls Tryz.prog 86 #[.slice a x.length cp,.pointer (some ⟨B1,0,none⟩),.pointer (some ⟨B2,0,none⟩)] w _
 go_enter Tryz.func86,Tryz.ntmps86
 go_wp2_with fail
 refine hF.out.mono ?_
 rintro e w1 ⟨v2,rfl,hv2,hE2⟩
 obtain ⟨b3,d3,rfl,-⟩:=hv2.its.form
 go_wp2
 refine bodyPost_ret (results_tmp3 rfl _ _ _) rfl ?_
 exact ⟨_,rfl,hv2,hE2⟩
theorem callFunc_write33 (args : Array Value) (w : World) : (callFunc 96 args).run Tryz.prog w = .ok (.enter 96 args) w:=by kernel_rfl
set_option maxHeartbeats 400000 in
theorem stacks_write1 {run : List Int} {r : Value} (tag : Int) (B1 B2 : Nat) (W : World) (h1 : W.cell? ⟨B1,0,none⟩=some (.int .i64 tag)) (h2 : W.cell? ⟨B2,0,none⟩=some r) (hr : Nts W r run) : PredU 96 #[.pointer (some ⟨B1,0,none⟩),.pointer (some ⟨B2,0,none⟩)] W (fun l=>useR l tag true run):=by
 intro x s w hW hl
 have d1:=hW.cell h1
 have d2:=hW.cell h2
 have hF:=Lib.hid (guard_WriteO tag hl (hr.ext hW))
 obtain ⟨a,cp,rfl,-⟩:=hl.form
 obtain ⟨a2,cp2,rfl,-⟩:=hr.form
 clear h1 h2 hW hl hr
 show Calls Tryz.prog 96 #[.slice a x.length cp,.pointer (some ⟨B1,0,none⟩),.pointer (some ⟨B2,0,none⟩)] w _
 go_enter Tryz.func96,Tryz.ntmps96
 go_wp2_with fail
 refine hF.out.mono ?_
 rintro e w1 ⟨v2,rfl,hv2,hE2⟩
 obtain ⟨b3,d3,rfl,-⟩:=hv2.its.form
 go_wp2
 refine bodyPost_ret (results_tmp3 rfl _ _ _) rfl ?_
 exact ⟨_,rfl,hv2,hE2⟩
theorem callFunc_retag33 (args : Array Value) (w : World) : (callFunc 100 args).run Tryz.prog w = .ok (.enter 100 args) w:=by kernel_rfl
set_option maxHeartbeats 400000 in
theorem stacks_retag1 {run : List Int} {r : Value} {k : Int} (hk : u8B k) (old p t c : Int) (B0 B1 B2 B3 : Nat) (W : World) (hp : Perms W) (h0 : W.cell? ⟨B0,0,none⟩=some (.int .u8 k)) (h1 : W.cell? ⟨B1,0,none⟩=some (.int .i64 old)) (i0 : W.cell? ⟨B2,0,none⟩=some (.int .u8 p)) (i1 : W.cell? ⟨B2,1,none⟩=some (.int .i64 t)) (i2 : W.cell? ⟨B2,2,none⟩=some (.int .i64 c)) (h2 : W.cell? ⟨B3,0,none⟩=some r) (hr : Nts W r run) : PredU 100 #[.pointer (some ⟨B0,0,none⟩),.pointer (some ⟨B1,0,none⟩),.pointer (some ⟨B2,0,none⟩),.pointer (some ⟨B3,0,none⟩)] W (fun l=>tagR l k old ⟨p,t,c⟩ run):=by
 intro x s w hW hl
 have d0:=hW.cell h0
 have d1:=hW.cell h1
 have d2:=hW.cell h2
 have e0:=hW.cell i0
 have e1:=hW.cell i1
 have e2:=hW.cell i2
 have hF:=Lib.hid (guard_RetagO (hp.ext hW) hk old ⟨p,t,c⟩ hl (hr.ext hW))
 obtain ⟨a,cp,rfl,-⟩:=hl.form
 obtain ⟨a2,cp2,rfl,-⟩:=hr.form
 clear h0 h1 h2 i0 i1 i2 hW hl hr hp hk
 show Calls Tryz.prog 100 #[.slice a x.length cp,.pointer (some ⟨B0,0,none⟩),.pointer (some ⟨B1,0,none⟩),.pointer (some ⟨B2,0,none⟩),.pointer (some ⟨B3,0,none⟩)] w _
 unfold Item.val at hF
 go_enter Tryz.func100,Tryz.ntmps100
 go_wp2_with fail
 refine hF.out.mono ?_
 rintro e w1 ⟨v2,rfl,hv2,hE2⟩
 obtain ⟨b3,d3,rfl,-⟩:=hv2.its.form
 go_wp2
 refine bodyPost_ret (results_tmp3 rfl _ _ _) rfl ?_
 exact ⟨_,rfl,hv2,hE2⟩
set_option maxHeartbeats 3200000 in
theorem stacks_Read {l : List (List Item)} {num a n : Int} {run : List Int} {s v : Value} {w : World} (tag : Int) (hl : Sts w s l) (hr : Nts w v run) :
  Calls Tryz.prog 40 #[.agg #[.int .i64 num,s],.int .i64 a,.int .i64 n,.int .i64 tag,v] w (RetKW w (use33 ⟨num,l⟩ a n tag false run).1 (use33 ⟨num,l⟩ a n tag false run).2.1 (use33 ⟨num,l⟩ a n tag false run).2.2):=by
 obtain ⟨q,cp,rfl,-⟩:=hl.form
 obtain ⟨a2,cp2,rfl,-⟩:=hr.form
 have hE0 : Ext w (World.alloc (World.alloc (World.alloc (World.alloc w (.cells #[.int .i64 num,.slice q l.length cp] 68)) (.cells #[.int .i64 tag] 3)) (.cells #[.slice a2 run.length cp2] 26)) (.cells #[.int .i64 0,.slice none 0 0] 68)):=((((Ext.refl w).alloc (.cells #[.int .i64 num,.slice q l.length cp] 68)).alloc (.cells #[.int .i64 tag] 3)).alloc (.cells #[.slice a2 run.length cp2] 26)).alloc (.cells #[.int .i64 0,.slice none 0 0] 68)
 have bX0:=(((Box.new w 68 #[.int .i64 num,.slice q l.length cp]).ext ((Ext.refl _).alloc (.cells #[.int .i64 tag] 3))).ext ((Ext.refl _).alloc (.cells #[.slice a2 run.length cp2] 26))).ext ((Ext.refl _).alloc (.cells #[.int .i64 0,.slice none 0 0] 68))
 have bX1:=((Box.new (World.alloc w (.cells #[.int .i64 num,.slice q l.length cp] 68)) 3 #[.int .i64 tag]).ext ((Ext.refl _).alloc (.cells #[.slice a2 run.length cp2] 26))).ext ((Ext.refl _).alloc (.cells #[.int .i64 0,.slice none 0 0] 68))
 have bX2:=(Box.new (World.alloc (World.alloc w (.cells #[.int .i64 num,.slice q l.length cp] 68)) (.cells #[.int .i64 tag] 3)) 26 #[.slice a2 run.length cp2]).ext ((Ext.refl _).alloc (.cells #[.int .i64 0,.slice none 0 0] 68))
 have bX3:=Box.new (World.alloc (World.alloc (World.alloc w (.cells #[.int .i64 num,.slice q l.length cp] 68)) (.cells #[.int .i64 tag] 3)) (.cells #[.slice a2 run.length cp2] 26)) 68 #[.int .i64 0,.slice none 0 0]
 simp only [World.size_alloc] at bX0 bX1 bX2 bX3
 have hL:=Lib.hid (hl.ext hE0)
 have hV:=Lib.hid (hr.ext hE0)
 have hmf : ∀ (fn : Fn) (first cap : Array Value) (w : World),(Instr.makeFunc fn first cap).run Tryz.prog w = .ok (.func fn first cap) w:=fun _ _ _ _=>rfl
 clear hl hr
 obtain ⟨w1,hw1⟩ : ∃ z,(World.alloc (World.alloc (World.alloc (World.alloc w (.cells #[.int .i64 num,.slice q l.length cp] 68)) (.cells #[.int .i64 tag] 3)) (.cells #[.slice a2 run.length cp2] 26)) (.cells #[.int .i64 0,.slice none 0 0] 68))=z:=⟨_,rfl⟩
 rw [hw1] at hE0 hL hV bX0 bX1 bX2 bX3
 rcases ask33_cases ⟨num,l⟩ a n run with h8 | h6 | ⟨h0,hok,hkk,hin⟩
 ·have hres:=Lib.hid (use33_bad (tag:=tag) (b:=false) h8 (by decide))
  replace h8:=Lib.hid h8
  go_enter Tryz.func40,Tryz.ntmps40
  have c0_0 : World.cell? w1 ⟨w.heap.size,0,none⟩=some (.int .i64 num):=bX0.cell 0
  have c0_1 : World.cell? w1 ⟨w.heap.size,1,none⟩=some (.slice q l.length cp):=bX0.cell 1
  have c1_0 : World.cell? w1 ⟨w.heap.size+1,0,none⟩=some (.int .i64 tag):=bX1.cell 0
  have c2_0 : World.cell? w1 ⟨w.heap.size+1+1,0,none⟩=some (.slice a2 run.length cp2):=bX2.cell 0
  have c3_0 : World.cell? w1 ⟨w.heap.size+1+1+1,0,none⟩=some (.int .i64 0):=bX3.cell 0
  have c3_1 : World.cell? w1 ⟨w.heap.size+1+1+1,1,none⟩=some (.slice none 0 0):=bX3.cell 1
  go_wp2_with fail
  clear c0_0 c0_1 c1_0 c2_0 c3_0 c3_1
  clear hw1
  refine (stacks_asked hL.out hV.out).mono ?_
  rintro e w2 ⟨rfl,hE2⟩
  rw [h8.out]
  have c0_0 : World.cell? w2 ⟨w.heap.size,0,none⟩=some (.int .i64 num):=(bX0.ext hE2).cell 0
  have c0_1 : World.cell? w2 ⟨w.heap.size,1,none⟩=some (.slice q l.length cp):=(bX0.ext hE2).cell 1
  have c1_0 : World.cell? w2 ⟨w.heap.size+1,0,none⟩=some (.int .i64 tag):=(bX1.ext hE2).cell 0
  have c2_0 : World.cell? w2 ⟨w.heap.size+1+1,0,none⟩=some (.slice a2 run.length cp2):=(bX2.ext hE2).cell 0
  have c3_0 : World.cell? w2 ⟨w.heap.size+1+1+1,0,none⟩=some (.int .i64 0):=(bX3.ext hE2).cell 0
  have c3_1 : World.cell? w2 ⟨w.heap.size+1+1+1,1,none⟩=some (.slice none 0 0):=(bX3.ext hE2).cell 1
  have f0:=(bX3.ext hE2).frozen 0
  have f1:=(bX3.ext hE2).frozen 1
  go_wp2
  rw [hres.out]
  refine bodyPost_ret (v := .tuple #[.agg #[.int .i64 0,.slice none 0 0],.int .u8 0,.int .i64 8]) (by simp [results,Tryz.f40,go_sem,c3_0,c3_1]) rfl ⟨_,[],rfl,OwnS.nil _ _,?_⟩
  have hFF:=hE0.trans hE2
  first | exact hFF | exact (hFF.setCell (by simp <;> omega) _).setCell (by simp <;> omega) _
 ·have hres:=Lib.hid (use33_bad (tag:=tag) (b:=false) h6 (by decide))
  replace h6:=Lib.hid h6
  go_enter Tryz.func40,Tryz.ntmps40
  have c0_0 : World.cell? w1 ⟨w.heap.size,0,none⟩=some (.int .i64 num):=bX0.cell 0
  have c0_1 : World.cell? w1 ⟨w.heap.size,1,none⟩=some (.slice q l.length cp):=bX0.cell 1
  have c1_0 : World.cell? w1 ⟨w.heap.size+1,0,none⟩=some (.int .i64 tag):=bX1.cell 0
  have c2_0 : World.cell? w1 ⟨w.heap.size+1+1,0,none⟩=some (.slice a2 run.length cp2):=bX2.cell 0
  have c3_0 : World.cell? w1 ⟨w.heap.size+1+1+1,0,none⟩=some (.int .i64 0):=bX3.cell 0
  have c3_1 : World.cell? w1 ⟨w.heap.size+1+1+1,1,none⟩=some (.slice none 0 0):=bX3.cell 1
  go_wp2_with fail
  clear c0_0 c0_1 c1_0 c2_0 c3_0 c3_1
  clear hw1
  refine (stacks_asked hL.out hV.out).mono ?_
  rintro e w2 ⟨rfl,hE2⟩
  rw [h6.out]
  have c0_0 : World.cell? w2 ⟨w.heap.size,0,none⟩=some (.int .i64 num):=(bX0.ext hE2).cell 0
  have c0_1 : World.cell? w2 ⟨w.heap.size,1,none⟩=some (.slice q l.length cp):=(bX0.ext hE2).cell 1
  have c1_0 : World.cell? w2 ⟨w.heap.size+1,0,none⟩=some (.int .i64 tag):=(bX1.ext hE2).cell 0
  have c2_0 : World.cell? w2 ⟨w.heap.size+1+1,0,none⟩=some (.slice a2 run.length cp2):=(bX2.ext hE2).cell 0
  have c3_0 : World.cell? w2 ⟨w.heap.size+1+1+1,0,none⟩=some (.int .i64 0):=(bX3.ext hE2).cell 0
  have c3_1 : World.cell? w2 ⟨w.heap.size+1+1+1,1,none⟩=some (.slice none 0 0):=(bX3.ext hE2).cell 1
  have f0:=(bX3.ext hE2).frozen 0
  have f1:=(bX3.ext hE2).frozen 1
  go_wp2
  rw [hres.out]
  refine bodyPost_ret (v := .tuple #[.agg #[.int .i64 0,.slice none 0 0],.int .u8 0,.int .i64 6]) (by simp [results,Tryz.f40,go_sem,c3_0,c3_1]) rfl ⟨_,[],rfl,OwnS.nil _ _,?_⟩
  have hFF:=hE0.trans hE2
  first | exact hFF | exact (hFF.setCell (by simp <;> omega) _).setCell (by simp <;> omega) _
 have hin2:=hin
 unfold inR33 at hin2
 dsimp only at hin2
 obtain ⟨fa,rfl⟩ : ∃ m : Nat,a=m:=⟨a.toNat,by omega⟩
 obtain ⟨fn,rfl⟩ : ∃ m : Nat,n=m:=⟨n.toNat,by omega⟩
 have hin3 : fa < l.length∧1≤fn∧fn≤l.length - fa:=by omega
 have hsm : Hid (l.length≤2 ∧ ∀ s ∈ l,s.length≤600):=Hid.mk (okK_small33 hkk)
 replace hin3:=Lib.hid hin3
 clear hin hin2 hok hkk
 have hres:=Lib.hid (use33_ok (tag:=tag) (b:=false) h0)
 replace h0:=Lib.hid h0
 obtain ⟨⟨⟨yn,yl⟩,u,e3⟩,hy⟩ : ∃ z,eachR (fun l=>useR l tag false run) ⟨num,l⟩ fa fn=z:=⟨_,rfl⟩
 replace hy:=Lib.hid hy
 go_enter Tryz.func40,Tryz.ntmps40
 have c0_0 : World.cell? w1 ⟨w.heap.size,0,none⟩=some (.int .i64 num):=bX0.cell 0
 have c0_1 : World.cell? w1 ⟨w.heap.size,1,none⟩=some (.slice q l.length cp):=bX0.cell 1
 have c1_0 : World.cell? w1 ⟨w.heap.size+1,0,none⟩=some (.int .i64 tag):=bX1.cell 0
 have c2_0 : World.cell? w1 ⟨w.heap.size+1+1,0,none⟩=some (.slice a2 run.length cp2):=bX2.cell 0
 have c3_0 : World.cell? w1 ⟨w.heap.size+1+1+1,0,none⟩=some (.int .i64 0):=bX3.cell 0
 have c3_1 : World.cell? w1 ⟨w.heap.size+1+1+1,1,none⟩=some (.slice none 0 0):=bX3.cell 1
 go_wp2_with fail
 clear c0_0 c0_1 c1_0 c2_0 c3_0 c3_1
 clear hw1
 refine (stacks_asked hL.out hV.out).mono ?_
 rintro e w2 ⟨rfl,hE2⟩
 rw [h0.out]
 have c0_0 : World.cell? w2 ⟨w.heap.size,0,none⟩=some (.int .i64 num):=(bX0.ext hE2).cell 0
 have c0_1 : World.cell? w2 ⟨w.heap.size,1,none⟩=some (.slice q l.length cp):=(bX0.ext hE2).cell 1
 have c1_0 : World.cell? w2 ⟨w.heap.size+1,0,none⟩=some (.int .i64 tag):=(bX1.ext hE2).cell 0
 have c2_0 : World.cell? w2 ⟨w.heap.size+1+1,0,none⟩=some (.slice a2 run.length cp2):=(bX2.ext hE2).cell 0
 have c3_0 : World.cell? w2 ⟨w.heap.size+1+1+1,0,none⟩=some (.int .i64 0):=(bX3.ext hE2).cell 0
 have c3_1 : World.cell? w2 ⟨w.heap.size+1+1+1,1,none⟩=some (.slice none 0 0):=(bX3.ext hE2).cell 1
 have f0:=(bX3.ext hE2).frozen 0
 have f1:=(bX3.ext hE2).frozen 1
 go_wp2_with fail
 refine (stacks_each callFunc_read33 (stacks_read1 tag (w.heap.size+1) (w.heap.size+1+1) _ c1_0 c2_0 (hV.out.ext hE2)) hsm.out hin3.out (hL.out.ext hE2)).mono ?_
 rintro e w4 ⟨v4,vs4,rfl,h4,hE4⟩
 rw [hy.out] at h4 ⊢
 dsimp only at h4 ⊢
 clear c0_0 c0_1 c1_0 c2_0 c3_0 c3_1 f0 f1
 obtain ⟨a4,k4,rfl,-⟩:=h4.sts.form
 replace h4:=Lib.hid h4
 have c0 : World.cell? w4 ⟨w.heap.size+1+1+1,0,none⟩=some (.int .i64 0):=((bX3.ext hE2).ext hE4).cell 0
 have c1 : World.cell? w4 ⟨w.heap.size+1+1+1,1,none⟩=some (.slice none 0 0):=((bX3.ext hE2).ext hE4).cell 1
 have f0:=((bX3.ext hE2).ext hE4).frozen 0
 have f1:=((bX3.ext hE2).ext hE4).frozen 1
 have hlt:=bX3.lt
 have hsz2:=hE2.size
 go_wp2
 rw [hres.out,hy.out]
 have hY:=((ExtBut.setCell w4 ⟨w.heap.size+1+1+1,0,none⟩ (.int .i64 yn)).mono (S':=fun b=>b=w.heap.size+1+1+1) (fun x _ h=>h)).trans ((ExtBut.setCell _ ⟨w.heap.size+1+1+1,1,none⟩ (.slice a4 yl.length k4)).mono (S':=fun b=>b=w.heap.size+1+1+1) (fun x _ h=>h))
 refine bodyPost_ret (v := .tuple #[.agg #[.int .i64 yn,.slice a4 yl.length k4],.int .u8 u,.int .i64 e3]) (by simp [results,Tryz.f40,go_sem,c0,c1]) rfl ⟨_,vs4,rfl,OwnS.mono (B:=w2.heap.size) (B':=w.heap.size) (OwnS.but h4.out hY (fun g e h=>by omega)) (by omega),ExtBut.ext ((hE0.trans hE2).trans hE4) hY (fun x h=>by omega)⟩
set_option maxHeartbeats 3200000 in
theorem ref33_Read {l : List (List Item)} {num a n : Int} {run : List Int} {s v : Value} {w : World} (tag : Int) (hl : Sts w s l) (hr : Nts w v run) :
  Calls Tryz.prog 43 #[.agg #[.int .i64 num,s],.int .i64 a,.int .i64 n,.int .i64 tag,v] w (RetKW w (use33 ⟨num,l⟩ a n tag false run).1 (use33 ⟨num,l⟩ a n tag false run).2.1 (use33 ⟨num,l⟩ a n tag false run).2.2):=by
 obtain ⟨q,cp,rfl,-⟩:=hl.form
 obtain ⟨a2,cp2,rfl,-⟩:=hr.form
 have hE0 : Ext w (World.alloc (World.alloc w (.cells #[.int .i64 num,.slice q l.length cp] 68)) (.cells #[.int .i64 0,.slice none 0 0] 68)):=((Ext.refl w).alloc (.cells #[.int .i64 num,.slice q l.length cp] 68)).alloc (.cells #[.int .i64 0,.slice none 0 0] 68)
 have bX0:=(Box.new w 68 #[.int .i64 num,.slice q l.length cp]).ext ((Ext.refl _).alloc (.cells #[.int .i64 0,.slice none 0 0] 68))
 have bX1:=Box.new (World.alloc w (.cells #[.int .i64 num,.slice q l.length cp] 68)) 68 #[.int .i64 0,.slice none 0 0]
 simp only [World.size_alloc] at bX0 bX1
 have hL:=Lib.hid (hl.ext hE0)
 have hV:=Lib.hid (hr.ext hE0)
 have hmf : ∀ (fn : Fn) (first cap : Array Value) (w : World),(Instr.makeFunc fn first cap).run Tryz.prog w = .ok (.func fn first cap) w:=fun _ _ _ _=>rfl
 clear hl hr
 obtain ⟨w1,hw1⟩ : ∃ z,(World.alloc (World.alloc w (.cells #[.int .i64 num,.slice q l.length cp] 68)) (.cells #[.int .i64 0,.slice none 0 0] 68))=z:=⟨_,rfl⟩
 rw [hw1] at hE0 hL hV bX0 bX1
 rcases ask33_cases ⟨num,l⟩ a n run with h8 | h6 | ⟨h0,hok,hkk,hin⟩
 ·have hres:=Lib.hid (use33_bad (tag:=tag) (b:=false) h8 (by decide))
  replace h8:=Lib.hid h8
  go_enter Tryz.func43,Tryz.ntmps43
  have c0_0 : World.cell? w1 ⟨w.heap.size,0,none⟩=some (.int .i64 num):=bX0.cell 0
  have c0_1 : World.cell? w1 ⟨w.heap.size,1,none⟩=some (.slice q l.length cp):=bX0.cell 1
  have c1_0 : World.cell? w1 ⟨w.heap.size+1,0,none⟩=some (.int .i64 0):=bX1.cell 0
  have c1_1 : World.cell? w1 ⟨w.heap.size+1,1,none⟩=some (.slice none 0 0):=bX1.cell 1
  go_wp2_with fail
  clear c0_0 c0_1 c1_0 c1_1
  clear hw1
  refine (ref33_asked hL.out hV.out).mono ?_
  rintro e w2 ⟨rfl,hE2⟩
  rw [h8.out]
  have c0_0 : World.cell? w2 ⟨w.heap.size,0,none⟩=some (.int .i64 num):=(bX0.ext hE2).cell 0
  have c0_1 : World.cell? w2 ⟨w.heap.size,1,none⟩=some (.slice q l.length cp):=(bX0.ext hE2).cell 1
  have c1_0 : World.cell? w2 ⟨w.heap.size+1,0,none⟩=some (.int .i64 0):=(bX1.ext hE2).cell 0
  have c1_1 : World.cell? w2 ⟨w.heap.size+1,1,none⟩=some (.slice none 0 0):=(bX1.ext hE2).cell 1
  have f0:=(bX1.ext hE2).frozen 0
  have f1:=(bX1.ext hE2).frozen 1
  go_wp2
  rw [hres.out]
  refine bodyPost_ret (v := .tuple #[.agg #[.int .i64 0,.slice none 0 0],.int .u8 0,.int .i64 8]) (by simp [results,Tryz.f43,go_sem,c1_0,c1_1]) rfl ⟨_,[],rfl,OwnS.nil _ _,?_⟩
  have hFF:=hE0.trans hE2
  first | exact hFF | exact (hFF.setCell (by simp <;> omega) _).setCell (by simp <;> omega) _
 ·have hres:=Lib.hid (use33_bad (tag:=tag) (b:=false) h6 (by decide))
  replace h6:=Lib.hid h6
  go_enter Tryz.func43,Tryz.ntmps43
  have c0_0 : World.cell? w1 ⟨w.heap.size,0,none⟩=some (.int .i64 num):=bX0.cell 0
  have c0_1 : World.cell? w1 ⟨w.heap.size,1,none⟩=some (.slice q l.length cp):=bX0.cell 1
  have c1_0 : World.cell? w1 ⟨w.heap.size+1,0,none⟩=some (.int .i64 0):=bX1.cell 0
  have c1_1 : World.cell? w1 ⟨w.heap.size+1,1,none⟩=some (.slice none 0 0):=bX1.cell 1
  go_wp2_with fail
  clear c0_0 c0_1 c1_0 c1_1
  clear hw1
  refine (ref33_asked hL.out hV.out).mono ?_
  rintro e w2 ⟨rfl,hE2⟩
  rw [h6.out]
  have c0_0 : World.cell? w2 ⟨w.heap.size,0,none⟩=some (.int .i64 num):=(bX0.ext hE2).cell 0
  have c0_1 : World.cell? w2 ⟨w.heap.size,1,none⟩=some (.slice q l.length cp):=(bX0.ext hE2).cell 1
  have c1_0 : World.cell? w2 ⟨w.heap.size+1,0,none⟩=some (.int .i64 0):=(bX1.ext hE2).cell 0
  have c1_1 : World.cell? w2 ⟨w.heap.size+1,1,none⟩=some (.slice none 0 0):=(bX1.ext hE2).cell 1
  have f0:=(bX1.ext hE2).frozen 0
  have f1:=(bX1.ext hE2).frozen 1
  go_wp2
  rw [hres.out]
  refine bodyPost_ret (v := .tuple #[.agg #[.int .i64 0,.slice none 0 0],.int .u8 0,.int .i64 6]) (by simp [results,Tryz.f43,go_sem,c1_0,c1_1]) rfl ⟨_,[],rfl,OwnS.nil _ _,?_⟩
  have hFF:=hE0.trans hE2
  first | exact hFF | exact (hFF.setCell (by simp <;> omega) _).setCell (by simp <;> omega) _
 have hin2:=hin
 unfold inR33 at hin2
 dsimp only at hin2
 obtain ⟨fa,rfl⟩ : ∃ m : Nat,a=m:=⟨a.toNat,by omega⟩
 obtain ⟨fn,rfl⟩ : ∃ m : Nat,n=m:=⟨n.toNat,by omega⟩
 have hin3 : fa < l.length∧1≤fn∧fn≤l.length - fa:=by omega
 have hsm : Hid (l.length≤2 ∧ ∀ s ∈ l,s.length≤600):=Hid.mk (okK_small33 hkk)
 replace hin3:=Lib.hid hin3
 clear hin hin2 hok hkk
 have hres:=Lib.hid (use33_ok (tag:=tag) (b:=false) h0)
 replace h0:=Lib.hid h0
 obtain ⟨⟨⟨yn,yl⟩,u,e3⟩,hy⟩ : ∃ z,eachR (fun l=>useR l tag false run) ⟨num,l⟩ fa fn=z:=⟨_,rfl⟩
 replace hy:=Lib.hid hy
 go_enter Tryz.func43,Tryz.ntmps43
 have c0_0 : World.cell? w1 ⟨w.heap.size,0,none⟩=some (.int .i64 num):=bX0.cell 0
 have c0_1 : World.cell? w1 ⟨w.heap.size,1,none⟩=some (.slice q l.length cp):=bX0.cell 1
 have c1_0 : World.cell? w1 ⟨w.heap.size+1,0,none⟩=some (.int .i64 0):=bX1.cell 0
 have c1_1 : World.cell? w1 ⟨w.heap.size+1,1,none⟩=some (.slice none 0 0):=bX1.cell 1
 go_wp2_with fail
 clear c0_0 c0_1 c1_0 c1_1
 clear hw1
 refine (ref33_asked hL.out hV.out).mono ?_
 rintro e w2 ⟨rfl,hE2⟩
 rw [h0.out]
 have c0_0 : World.cell? w2 ⟨w.heap.size,0,none⟩=some (.int .i64 num):=(bX0.ext hE2).cell 0
 have c0_1 : World.cell? w2 ⟨w.heap.size,1,none⟩=some (.slice q l.length cp):=(bX0.ext hE2).cell 1
 have c1_0 : World.cell? w2 ⟨w.heap.size+1,0,none⟩=some (.int .i64 0):=(bX1.ext hE2).cell 0
 have c1_1 : World.cell? w2 ⟨w.heap.size+1,1,none⟩=some (.slice none 0 0):=(bX1.ext hE2).cell 1
 have f0:=(bX1.ext hE2).frozen 0
 have f1:=(bX1.ext hE2).frozen 1
 go_wp2_with fail
 refine (ref33_ranged (kind:=0) ⟨by decide,by decide⟩ tag ⟨0,0,0⟩ hsm.out hin3.out (hL.out.ext hE2) (hV.out.ext hE2)).mono ?_
 rintro e w4 ⟨v4,vs4,rfl,h4,hE4⟩
 rw [oneR_fun0] at h4 ⊢
 rw [hy.out] at h4 ⊢
 dsimp only at h4 ⊢
 clear c0_0 c0_1 c1_0 c1_1 f0 f1
 obtain ⟨a4,k4,rfl,-⟩:=h4.sts.form
 replace h4:=Lib.hid h4
 have c0 : World.cell? w4 ⟨w.heap.size+1,0,none⟩=some (.int .i64 0):=((bX1.ext hE2).ext hE4).cell 0
 have c1 : World.cell? w4 ⟨w.heap.size+1,1,none⟩=some (.slice none 0 0):=((bX1.ext hE2).ext hE4).cell 1
 have f0:=((bX1.ext hE2).ext hE4).frozen 0
 have f1:=((bX1.ext hE2).ext hE4).frozen 1
 have hlt:=bX1.lt
 have hsz2:=hE2.size
 go_wp2
 rw [hres.out,hy.out]
 have hY:=((ExtBut.setCell w4 ⟨w.heap.size+1,0,none⟩ (.int .i64 yn)).mono (S':=fun b=>b=w.heap.size+1) (fun x _ h=>h)).trans ((ExtBut.setCell _ ⟨w.heap.size+1,1,none⟩ (.slice a4 yl.length k4)).mono (S':=fun b=>b=w.heap.size+1) (fun x _ h=>h))
 refine bodyPost_ret (v := .tuple #[.agg #[.int .i64 yn,.slice a4 yl.length k4],.int .u8 u,.int .i64 e3]) (by simp [results,Tryz.f43,go_sem,c0,c1]) rfl ⟨_,vs4,rfl,OwnS.mono (B:=w2.heap.size) (B':=w.heap.size) (OwnS.but h4.out hY (fun g e h=>by omega)) (by omega),ExtBut.ext ((hE0.trans hE2).trans hE4) hY (fun x h=>by omega)⟩
set_option maxHeartbeats 3200000 in
theorem stacks_Write {l : List (List Item)} {num a n : Int} {run : List Int} {s v : Value} {w : World} (tag : Int) (hl : Sts w s l) (hr : Nts w v run) :
  Calls Tryz.prog 45 #[.agg #[.int .i64 num,s],.int .i64 a,.int .i64 n,.int .i64 tag,v] w (RetKW w (use33 ⟨num,l⟩ a n tag true run).1 (use33 ⟨num,l⟩ a n tag true run).2.1 (use33 ⟨num,l⟩ a n tag true run).2.2):=by
 obtain ⟨q,cp,rfl,-⟩:=hl.form
 obtain ⟨a2,cp2,rfl,-⟩:=hr.form
 have hE0 : Ext w (World.alloc (World.alloc (World.alloc (World.alloc w (.cells #[.int .i64 num,.slice q l.length cp] 68)) (.cells #[.int .i64 tag] 3)) (.cells #[.slice a2 run.length cp2] 26)) (.cells #[.int .i64 0,.slice none 0 0] 68)):=((((Ext.refl w).alloc (.cells #[.int .i64 num,.slice q l.length cp] 68)).alloc (.cells #[.int .i64 tag] 3)).alloc (.cells #[.slice a2 run.length cp2] 26)).alloc (.cells #[.int .i64 0,.slice none 0 0] 68)
 have bX0:=(((Box.new w 68 #[.int .i64 num,.slice q l.length cp]).ext ((Ext.refl _).alloc (.cells #[.int .i64 tag] 3))).ext ((Ext.refl _).alloc (.cells #[.slice a2 run.length cp2] 26))).ext ((Ext.refl _).alloc (.cells #[.int .i64 0,.slice none 0 0] 68))
 have bX1:=((Box.new (World.alloc w (.cells #[.int .i64 num,.slice q l.length cp] 68)) 3 #[.int .i64 tag]).ext ((Ext.refl _).alloc (.cells #[.slice a2 run.length cp2] 26))).ext ((Ext.refl _).alloc (.cells #[.int .i64 0,.slice none 0 0] 68))
 have bX2:=(Box.new (World.alloc (World.alloc w (.cells #[.int .i64 num,.slice q l.length cp] 68)) (.cells #[.int .i64 tag] 3)) 26 #[.slice a2 run.length cp2]).ext ((Ext.refl _).alloc (.cells #[.int .i64 0,.slice none 0 0] 68))
 have bX3:=Box.new (World.alloc (World.alloc (World.alloc w (.cells #[.int .i64 num,.slice q l.length cp] 68)) (.cells #[.int .i64 tag] 3)) (.cells #[.slice a2 run.length cp2] 26)) 68 #[.int .i64 0,.slice none 0 0]
 simp only [World.size_alloc] at bX0 bX1 bX2 bX3
 have hL:=Lib.hid (hl.ext hE0)
 have hV:=Lib.hid (hr.ext hE0)
 have hmf : ∀ (fn : Fn) (first cap : Array Value) (w : World),(Instr.makeFunc fn first cap).run Tryz.prog w = .ok (.func fn first cap) w:=fun _ _ _ _=>rfl
 clear hl hr
 obtain ⟨w1,hw1⟩ : ∃ z,(World.alloc (World.alloc (World.alloc (World.alloc w (.cells #[.int .i64 num,.slice q l.length cp] 68)) (.cells #[.int .i64 tag] 3)) (.cells #[.slice a2 run.length cp2] 26)) (.cells #[.int .i64 0,.slice none 0 0] 68))=z:=⟨_,rfl⟩
 rw [hw1] at hE0 hL hV bX0 bX1 bX2 bX3
 rcases ask33_cases ⟨num,l⟩ a n run with h8 | h6 | ⟨h0,hok,hkk,hin⟩
 ·have hres:=Lib.hid (use33_bad (tag:=tag) (b:=true) h8 (by decide))
  replace h8:=Lib.hid h8
  go_enter Tryz.func45,Tryz.ntmps45
  have c0_0 : World.cell? w1 ⟨w.heap.size,0,none⟩=some (.int .i64 num):=bX0.cell 0
  have c0_1 : World.cell? w1 ⟨w.heap.size,1,none⟩=some (.slice q l.length cp):=bX0.cell 1
  have c1_0 : World.cell? w1 ⟨w.heap.size+1,0,none⟩=some (.int .i64 tag):=bX1.cell 0
  have c2_0 : World.cell? w1 ⟨w.heap.size+1+1,0,none⟩=some (.slice a2 run.length cp2):=bX2.cell 0
  have c3_0 : World.cell? w1 ⟨w.heap.size+1+1+1,0,none⟩=some (.int .i64 0):=bX3.cell 0
  have c3_1 : World.cell? w1 ⟨w.heap.size+1+1+1,1,none⟩=some (.slice none 0 0):=bX3.cell 1
  go_wp2_with fail
  clear c0_0 c0_1 c1_0 c2_0 c3_0 c3_1
  clear hw1
  refine (stacks_asked hL.out hV.out).mono ?_
  rintro e w2 ⟨rfl,hE2⟩
  rw [h8.out]
  have c0_0 : World.cell? w2 ⟨w.heap.size,0,none⟩=some (.int .i64 num):=(bX0.ext hE2).cell 0
  have c0_1 : World.cell? w2 ⟨w.heap.size,1,none⟩=some (.slice q l.length cp):=(bX0.ext hE2).cell 1
  have c1_0 : World.cell? w2 ⟨w.heap.size+1,0,none⟩=some (.int .i64 tag):=(bX1.ext hE2).cell 0
  have c2_0 : World.cell? w2 ⟨w.heap.size+1+1,0,none⟩=some (.slice a2 run.length cp2):=(bX2.ext hE2).cell 0
  have c3_0 : World.cell? w2 ⟨w.heap.size+1+1+1,0,none⟩=some (.int .i64 0):=(bX3.ext hE2).cell 0
  have c3_1 : World.cell? w2 ⟨w.heap.size+1+1+1,1,none⟩=some (.slice none 0 0):=(bX3.ext hE2).cell 1
  have f0:=(bX3.ext hE2).frozen 0
  have f1:=(bX3.ext hE2).frozen 1
  go_wp2
  rw [hres.out]
  refine bodyPost_ret (v := .tuple #[.agg #[.int .i64 0,.slice none 0 0],.int .u8 0,.int .i64 8]) (by simp [results,Tryz.f45,go_sem,c3_0,c3_1]) rfl ⟨_,[],rfl,OwnS.nil _ _,?_⟩
  have hFF:=hE0.trans hE2
  first | exact hFF | exact (hFF.setCell (by simp <;> omega) _).setCell (by simp <;> omega) _
 ·have hres:=Lib.hid (use33_bad (tag:=tag) (b:=true) h6 (by decide))
  replace h6:=Lib.hid h6
  go_enter Tryz.func45,Tryz.ntmps45
  have c0_0 : World.cell? w1 ⟨w.heap.size,0,none⟩=some (.int .i64 num):=bX0.cell 0
  have c0_1 : World.cell? w1 ⟨w.heap.size,1,none⟩=some (.slice q l.length cp):=bX0.cell 1
  have c1_0 : World.cell? w1 ⟨w.heap.size+1,0,none⟩=some (.int .i64 tag):=bX1.cell 0
  have c2_0 : World.cell? w1 ⟨w.heap.size+1+1,0,none⟩=some (.slice a2 run.length cp2):=bX2.cell 0
  have c3_0 : World.cell? w1 ⟨w.heap.size+1+1+1,0,none⟩=some (.int .i64 0):=bX3.cell 0
  have c3_1 : World.cell? w1 ⟨w.heap.size+1+1+1,1,none⟩=some (.slice none 0 0):=bX3.cell 1
  go_wp2_with fail
  clear c0_0 c0_1 c1_0 c2_0 c3_0 c3_1
  clear hw1
  refine (stacks_asked hL.out hV.out).mono ?_
  rintro e w2 ⟨rfl,hE2⟩
  rw [h6.out]
  have c0_0 : World.cell? w2 ⟨w.heap.size,0,none⟩=some (.int .i64 num):=(bX0.ext hE2).cell 0
  have c0_1 : World.cell? w2 ⟨w.heap.size,1,none⟩=some (.slice q l.length cp):=(bX0.ext hE2).cell 1
  have c1_0 : World.cell? w2 ⟨w.heap.size+1,0,none⟩=some (.int .i64 tag):=(bX1.ext hE2).cell 0
  have c2_0 : World.cell? w2 ⟨w.heap.size+1+1,0,none⟩=some (.slice a2 run.length cp2):=(bX2.ext hE2).cell 0
  have c3_0 : World.cell? w2 ⟨w.heap.size+1+1+1,0,none⟩=some (.int .i64 0):=(bX3.ext hE2).cell 0
  have c3_1 : World.cell? w2 ⟨w.heap.size+1+1+1,1,none⟩=some (.slice none 0 0):=(bX3.ext hE2).cell 1
  have f0:=(bX3.ext hE2).frozen 0
  have f1:=(bX3.ext hE2).frozen 1
  go_wp2
  rw [hres.out]
  refine bodyPost_ret (v := .tuple #[.agg #[.int .i64 0,.slice none 0 0],.int .u8 0,.int .i64 6]) (by simp [results,Tryz.f45,go_sem,c3_0,c3_1]) rfl ⟨_,[],rfl,OwnS.nil _ _,?_⟩
  have hFF:=hE0.trans hE2
  first | exact hFF | exact (hFF.setCell (by simp <;> omega) _).setCell (by simp <;> omega) _
 have hin2:=hin
 unfold inR33 at hin2
 dsimp only at hin2
 obtain ⟨fa,rfl⟩ : ∃ m : Nat,a=m:=⟨a.toNat,by omega⟩
 obtain ⟨fn,rfl⟩ : ∃ m : Nat,n=m:=⟨n.toNat,by omega⟩
 have hin3 : fa < l.length∧1≤fn∧fn≤l.length - fa:=by omega
 have hsm : Hid (l.length≤2 ∧ ∀ s ∈ l,s.length≤600):=Hid.mk (okK_small33 hkk)
 replace hin3:=Lib.hid hin3
 clear hin hin2 hok hkk
 have hres:=Lib.hid (use33_ok (tag:=tag) (b:=true) h0)
 replace h0:=Lib.hid h0
 obtain ⟨⟨⟨yn,yl⟩,u,e3⟩,hy⟩ : ∃ z,eachR (fun l=>useR l tag true run) ⟨num,l⟩ fa fn=z:=⟨_,rfl⟩
 replace hy:=Lib.hid hy
 go_enter Tryz.func45,Tryz.ntmps45
 have c0_0 : World.cell? w1 ⟨w.heap.size,0,none⟩=some (.int .i64 num):=bX0.cell 0
 have c0_1 : World.cell? w1 ⟨w.heap.size,1,none⟩=some (.slice q l.length cp):=bX0.cell 1
 have c1_0 : World.cell? w1 ⟨w.heap.size+1,0,none⟩=some (.int .i64 tag):=bX1.cell 0
 have c2_0 : World.cell? w1 ⟨w.heap.size+1+1,0,none⟩=some (.slice a2 run.length cp2):=bX2.cell 0
 have c3_0 : World.cell? w1 ⟨w.heap.size+1+1+1,0,none⟩=some (.int .i64 0):=bX3.cell 0
 have c3_1 : World.cell? w1 ⟨w.heap.size+1+1+1,1,none⟩=some (.slice none 0 0):=bX3.cell 1
 go_wp2_with fail
 clear c0_0 c0_1 c1_0 c2_0 c3_0 c3_1
 clear hw1
 refine (stacks_asked hL.out hV.out).mono ?_
 rintro e w2 ⟨rfl,hE2⟩
 rw [h0.out]
 have c0_0 : World.cell? w2 ⟨w.heap.size,0,none⟩=some (.int .i64 num):=(bX0.ext hE2).cell 0
 have c0_1 : World.cell? w2 ⟨w.heap.size,1,none⟩=some (.slice q l.length cp):=(bX0.ext hE2).cell 1
 have c1_0 : World.cell? w2 ⟨w.heap.size+1,0,none⟩=some (.int .i64 tag):=(bX1.ext hE2).cell 0
 have c2_0 : World.cell? w2 ⟨w.heap.size+1+1,0,none⟩=some (.slice a2 run.length cp2):=(bX2.ext hE2).cell 0
 have c3_0 : World.cell? w2 ⟨w.heap.size+1+1+1,0,none⟩=some (.int .i64 0):=(bX3.ext hE2).cell 0
 have c3_1 : World.cell? w2 ⟨w.heap.size+1+1+1,1,none⟩=some (.slice none 0 0):=(bX3.ext hE2).cell 1
 have f0:=(bX3.ext hE2).frozen 0
 have f1:=(bX3.ext hE2).frozen 1
 go_wp2_with fail
 refine (stacks_each callFunc_write33 (stacks_write1 tag (w.heap.size+1) (w.heap.size+1+1) _ c1_0 c2_0 (hV.out.ext hE2)) hsm.out hin3.out (hL.out.ext hE2)).mono ?_
 rintro e w4 ⟨v4,vs4,rfl,h4,hE4⟩
 rw [hy.out] at h4 ⊢
 dsimp only at h4 ⊢
 clear c0_0 c0_1 c1_0 c2_0 c3_0 c3_1 f0 f1
 obtain ⟨a4,k4,rfl,-⟩:=h4.sts.form
 replace h4:=Lib.hid h4
 have c0 : World.cell? w4 ⟨w.heap.size+1+1+1,0,none⟩=some (.int .i64 0):=((bX3.ext hE2).ext hE4).cell 0
 have c1 : World.cell? w4 ⟨w.heap.size+1+1+1,1,none⟩=some (.slice none 0 0):=((bX3.ext hE2).ext hE4).cell 1
 have f0:=((bX3.ext hE2).ext hE4).frozen 0
 have f1:=((bX3.ext hE2).ext hE4).frozen 1
 have hlt:=bX3.lt
 have hsz2:=hE2.size
 go_wp2
 rw [hres.out,hy.out]
 have hY:=((ExtBut.setCell w4 ⟨w.heap.size+1+1+1,0,none⟩ (.int .i64 yn)).mono (S':=fun b=>b=w.heap.size+1+1+1) (fun x _ h=>h)).trans ((ExtBut.setCell _ ⟨w.heap.size+1+1+1,1,none⟩ (.slice a4 yl.length k4)).mono (S':=fun b=>b=w.heap.size+1+1+1) (fun x _ h=>h))
 refine bodyPost_ret (v := .tuple #[.agg #[.int .i64 yn,.slice a4 yl.length k4],.int .u8 u,.int .i64 e3]) (by simp [results,Tryz.f45,go_sem,c0,c1]) rfl ⟨_,vs4,rfl,OwnS.mono (B:=w2.heap.size) (B':=w.heap.size) (OwnS.but h4.out hY (fun g e h=>by omega)) (by omega),ExtBut.ext ((hE0.trans hE2).trans hE4) hY (fun x h=>by omega)⟩
set_option maxHeartbeats 3200000 in
theorem ref33_Write {l : List (List Item)} {num a n : Int} {run : List Int} {s v : Value} {w : World} (tag : Int) (hl : Sts w s l) (hr : Nts w v run) :
  Calls Tryz.prog 47 #[.agg #[.int .i64 num,s],.int .i64 a,.int .i64 n,.int .i64 tag,v] w (RetKW w (use33 ⟨num,l⟩ a n tag true run).1 (use33 ⟨num,l⟩ a n tag true run).2.1 (use33 ⟨num,l⟩ a n tag true run).2.2):=by
 obtain ⟨q,cp,rfl,-⟩:=hl.form
 obtain ⟨a2,cp2,rfl,-⟩:=hr.form
 have hE0 : Ext w (World.alloc (World.alloc w (.cells #[.int .i64 num,.slice q l.length cp] 68)) (.cells #[.int .i64 0,.slice none 0 0] 68)):=((Ext.refl w).alloc (.cells #[.int .i64 num,.slice q l.length cp] 68)).alloc (.cells #[.int .i64 0,.slice none 0 0] 68)
 have bX0:=(Box.new w 68 #[.int .i64 num,.slice q l.length cp]).ext ((Ext.refl _).alloc (.cells #[.int .i64 0,.slice none 0 0] 68))
 have bX1:=Box.new (World.alloc w (.cells #[.int .i64 num,.slice q l.length cp] 68)) 68 #[.int .i64 0,.slice none 0 0]
 simp only [World.size_alloc] at bX0 bX1
 have hL:=Lib.hid (hl.ext hE0)
 have hV:=Lib.hid (hr.ext hE0)
 have hmf : ∀ (fn : Fn) (first cap : Array Value) (w : World),(Instr.makeFunc fn first cap).run Tryz.prog w = .ok (.func fn first cap) w:=fun _ _ _ _=>rfl
 clear hl hr
 obtain ⟨w1,hw1⟩ : ∃ z,(World.alloc (World.alloc w (.cells #[.int .i64 num,.slice q l.length cp] 68)) (.cells #[.int .i64 0,.slice none 0 0] 68))=z:=⟨_,rfl⟩
 rw [hw1] at hE0 hL hV bX0 bX1
 rcases ask33_cases ⟨num,l⟩ a n run with h8 | h6 | ⟨h0,hok,hkk,hin⟩
 ·have hres:=Lib.hid (use33_bad (tag:=tag) (b:=true) h8 (by decide))
  replace h8:=Lib.hid h8
  go_enter Tryz.func47,Tryz.ntmps47
  have c0_0 : World.cell? w1 ⟨w.heap.size,0,none⟩=some (.int .i64 num):=bX0.cell 0
  have c0_1 : World.cell? w1 ⟨w.heap.size,1,none⟩=some (.slice q l.length cp):=bX0.cell 1
  have c1_0 : World.cell? w1 ⟨w.heap.size+1,0,none⟩=some (.int .i64 0):=bX1.cell 0
  have c1_1 : World.cell? w1 ⟨w.heap.size+1,1,none⟩=some (.slice none 0 0):=bX1.cell 1
  go_wp2_with fail
  clear c0_0 c0_1 c1_0 c1_1
  clear hw1
  refine (ref33_asked hL.out hV.out).mono ?_
  rintro e w2 ⟨rfl,hE2⟩
  rw [h8.out]
  have c0_0 : World.cell? w2 ⟨w.heap.size,0,none⟩=some (.int .i64 num):=(bX0.ext hE2).cell 0
  have c0_1 : World.cell? w2 ⟨w.heap.size,1,none⟩=some (.slice q l.length cp):=(bX0.ext hE2).cell 1
  have c1_0 : World.cell? w2 ⟨w.heap.size+1,0,none⟩=some (.int .i64 0):=(bX1.ext hE2).cell 0
  have c1_1 : World.cell? w2 ⟨w.heap.size+1,1,none⟩=some (.slice none 0 0):=(bX1.ext hE2).cell 1
  have f0:=(bX1.ext hE2).frozen 0
  have f1:=(bX1.ext hE2).frozen 1
  go_wp2
  rw [hres.out]
  refine bodyPost_ret (v := .tuple #[.agg #[.int .i64 0,.slice none 0 0],.int .u8 0,.int .i64 8]) (by simp [results,Tryz.f47,go_sem,c1_0,c1_1]) rfl ⟨_,[],rfl,OwnS.nil _ _,?_⟩
  have hFF:=hE0.trans hE2
  first | exact hFF | exact (hFF.setCell (by simp <;> omega) _).setCell (by simp <;> omega) _
 ·have hres:=Lib.hid (use33_bad (tag:=tag) (b:=true) h6 (by decide))
  replace h6:=Lib.hid h6
  go_enter Tryz.func47,Tryz.ntmps47
  have c0_0 : World.cell? w1 ⟨w.heap.size,0,none⟩=some (.int .i64 num):=bX0.cell 0
  have c0_1 : World.cell? w1 ⟨w.heap.size,1,none⟩=some (.slice q l.length cp):=bX0.cell 1
  have c1_0 : World.cell? w1 ⟨w.heap.size+1,0,none⟩=some (.int .i64 0):=bX1.cell 0
  have c1_1 : World.cell? w1 ⟨w.heap.size+1,1,none⟩=some (.slice none 0 0):=bX1.cell 1
  go_wp2_with fail
  clear c0_0 c0_1 c1_0 c1_1
  clear hw1
  refine (ref33_asked hL.out hV.out).mono ?_
  rintro e w2 ⟨rfl,hE2⟩
  rw [h6.out]
  have c0_0 : World.cell? w2 ⟨w.heap.size,0,none⟩=some (.int .i64 num):=(bX0.ext hE2).cell 0
  have c0_1 : World.cell? w2 ⟨w.heap.size,1,none⟩=some (.slice q l.length cp):=(bX0.ext hE2).cell 1
  have c1_0 : World.cell? w2 ⟨w.heap.size+1,0,none⟩=some (.int .i64 0):=(bX1.ext hE2).cell 0
  have c1_1 : World.cell? w2 ⟨w.heap.size+1,1,none⟩=some (.slice none 0 0):=(bX1.ext hE2).cell 1
  have f0:=(bX1.ext hE2).frozen 0
  have f1:=(bX1.ext hE2).frozen 1
  go_wp2
  rw [hres.out]
  refine bodyPost_ret (v := .tuple #[.agg #[.int .i64 0,.slice none 0 0],.int .u8 0,.int .i64 6]) (by simp [results,Tryz.f47,go_sem,c1_0,c1_1]) rfl ⟨_,[],rfl,OwnS.nil _ _,?_⟩
  have hFF:=hE0.trans hE2
  first | exact hFF | exact (hFF.setCell (by simp <;> omega) _).setCell (by simp <;> omega) _
 have hin2:=hin
 unfold inR33 at hin2
 dsimp only at hin2
 obtain ⟨fa,rfl⟩ : ∃ m : Nat,a=m:=⟨a.toNat,by omega⟩
 obtain ⟨fn,rfl⟩ : ∃ m : Nat,n=m:=⟨n.toNat,by omega⟩
 have hin3 : fa < l.length∧1≤fn∧fn≤l.length - fa:=by omega
 have hsm : Hid (l.length≤2 ∧ ∀ s ∈ l,s.length≤600):=Hid.mk (okK_small33 hkk)
 replace hin3:=Lib.hid hin3
 clear hin hin2 hok hkk
 have hres:=Lib.hid (use33_ok (tag:=tag) (b:=true) h0)
 replace h0:=Lib.hid h0
 obtain ⟨⟨⟨yn,yl⟩,u,e3⟩,hy⟩ : ∃ z,eachR (fun l=>useR l tag true run) ⟨num,l⟩ fa fn=z:=⟨_,rfl⟩
 replace hy:=Lib.hid hy
 go_enter Tryz.func47,Tryz.ntmps47
 have c0_0 : World.cell? w1 ⟨w.heap.size,0,none⟩=some (.int .i64 num):=bX0.cell 0
 have c0_1 : World.cell? w1 ⟨w.heap.size,1,none⟩=some (.slice q l.length cp):=bX0.cell 1
 have c1_0 : World.cell? w1 ⟨w.heap.size+1,0,none⟩=some (.int .i64 0):=bX1.cell 0
 have c1_1 : World.cell? w1 ⟨w.heap.size+1,1,none⟩=some (.slice none 0 0):=bX1.cell 1
 go_wp2_with fail
 clear c0_0 c0_1 c1_0 c1_1
 clear hw1
 refine (ref33_asked hL.out hV.out).mono ?_
 rintro e w2 ⟨rfl,hE2⟩
 rw [h0.out]
 have c0_0 : World.cell? w2 ⟨w.heap.size,0,none⟩=some (.int .i64 num):=(bX0.ext hE2).cell 0
 have c0_1 : World.cell? w2 ⟨w.heap.size,1,none⟩=some (.slice q l.length cp):=(bX0.ext hE2).cell 1
 have c1_0 : World.cell? w2 ⟨w.heap.size+1,0,none⟩=some (.int .i64 0):=(bX1.ext hE2).cell 0
 have c1_1 : World.cell? w2 ⟨w.heap.size+1,1,none⟩=some (.slice none 0 0):=(bX1.ext hE2).cell 1
 have f0:=(bX1.ext hE2).frozen 0
 have f1:=(bX1.ext hE2).frozen 1
 go_wp2_with fail
 refine (ref33_ranged (kind:=9) ⟨by decide,by decide⟩ tag ⟨0,0,0⟩ hsm.out hin3.out (hL.out.ext hE2) (hV.out.ext hE2)).mono ?_
 rintro e w4 ⟨v4,vs4,rfl,h4,hE4⟩
 rw [oneR_fun9] at h4 ⊢
 rw [hy.out] at h4 ⊢
 dsimp only at h4 ⊢
 clear c0_0 c0_1 c1_0 c1_1 f0 f1
 obtain ⟨a4,k4,rfl,-⟩:=h4.sts.form
 replace h4:=Lib.hid h4
 have c0 : World.cell? w4 ⟨w.heap.size+1,0,none⟩=some (.int .i64 0):=((bX1.ext hE2).ext hE4).cell 0
 have c1 : World.cell? w4 ⟨w.heap.size+1,1,none⟩=some (.slice none 0 0):=((bX1.ext hE2).ext hE4).cell 1
 have f0:=((bX1.ext hE2).ext hE4).frozen 0
 have f1:=((bX1.ext hE2).ext hE4).frozen 1
 have hlt:=bX1.lt
 have hsz2:=hE2.size
 go_wp2
 rw [hres.out,hy.out]
 have hY:=((ExtBut.setCell w4 ⟨w.heap.size+1,0,none⟩ (.int .i64 yn)).mono (S':=fun b=>b=w.heap.size+1) (fun x _ h=>h)).trans ((ExtBut.setCell _ ⟨w.heap.size+1,1,none⟩ (.slice a4 yl.length k4)).mono (S':=fun b=>b=w.heap.size+1) (fun x _ h=>h))
 refine bodyPost_ret (v := .tuple #[.agg #[.int .i64 yn,.slice a4 yl.length k4],.int .u8 u,.int .i64 e3]) (by simp [results,Tryz.f47,go_sem,c0,c1]) rfl ⟨_,vs4,rfl,OwnS.mono (B:=w2.heap.size) (B':=w.heap.size) (OwnS.but h4.out hY (fun g e h=>by omega)) (by omega),ExtBut.ext ((hE0.trans hE2).trans hE4) hY (fun x h=>by omega)⟩
set_option maxHeartbeats 3200000 in
theorem stacks_Retag {l : List (List Item)} {num a n : Int} {kind : Int} {run : List Int} {s v : Value} {w : World} (hp : Perms w) (hk : u8B kind) (tag : Int) (it : Item) (hl : Sts w s l) (hr : Nts w v run) :
  Calls Tryz.prog 50 #[.agg #[.int .i64 num,s],.int .i64 a,.int .i64 n,.int .u8 kind,.int .i64 tag,it.val,v] w (RetKW w (tag33 ⟨num,l⟩ a n kind tag it run).1 (tag33 ⟨num,l⟩ a n kind tag it run).2.1 (tag33 ⟨num,l⟩ a n kind tag it run).2.2):=by
 obtain ⟨p,t,c⟩:=it
 obtain ⟨q,cp,rfl,-⟩:=hl.form
 obtain ⟨a2,cp2,rfl,-⟩:=hr.form
 have hE0 : Ext w (World.alloc (World.alloc (World.alloc (World.alloc (World.alloc (World.alloc w (.cells #[.int .i64 num,.slice q l.length cp] 68)) (.cells #[.int .u8 kind] 5)) (.cells #[.int .i64 tag] 3)) (.cells #[.int .u8 p,.int .i64 t,.int .i64 c] 70)) (.cells #[.slice a2 run.length cp2] 26)) (.cells #[.int .i64 0,.slice none 0 0] 68)):=((((((Ext.refl w).alloc (.cells #[.int .i64 num,.slice q l.length cp] 68)).alloc (.cells #[.int .u8 kind] 5)).alloc (.cells #[.int .i64 tag] 3)).alloc (.cells #[.int .u8 p,.int .i64 t,.int .i64 c] 70)).alloc (.cells #[.slice a2 run.length cp2] 26)).alloc (.cells #[.int .i64 0,.slice none 0 0] 68)
 have bX0:=(((((Box.new w 68 #[.int .i64 num,.slice q l.length cp]).ext ((Ext.refl _).alloc (.cells #[.int .u8 kind] 5))).ext ((Ext.refl _).alloc (.cells #[.int .i64 tag] 3))).ext ((Ext.refl _).alloc (.cells #[.int .u8 p,.int .i64 t,.int .i64 c] 70))).ext ((Ext.refl _).alloc (.cells #[.slice a2 run.length cp2] 26))).ext ((Ext.refl _).alloc (.cells #[.int .i64 0,.slice none 0 0] 68))
 have bX1:=((((Box.new (World.alloc w (.cells #[.int .i64 num,.slice q l.length cp] 68)) 5 #[.int .u8 kind]).ext ((Ext.refl _).alloc (.cells #[.int .i64 tag] 3))).ext ((Ext.refl _).alloc (.cells #[.int .u8 p,.int .i64 t,.int .i64 c] 70))).ext ((Ext.refl _).alloc (.cells #[.slice a2 run.length cp2] 26))).ext ((Ext.refl _).alloc (.cells #[.int .i64 0,.slice none 0 0] 68))
 have bX2:=(((Box.new (World.alloc (World.alloc w (.cells #[.int .i64 num,.slice q l.length cp] 68)) (.cells #[.int .u8 kind] 5)) 3 #[.int .i64 tag]).ext ((Ext.refl _).alloc (.cells #[.int .u8 p,.int .i64 t,.int .i64 c] 70))).ext ((Ext.refl _).alloc (.cells #[.slice a2 run.length cp2] 26))).ext ((Ext.refl _).alloc (.cells #[.int .i64 0,.slice none 0 0] 68))
 have bX3:=((Box.new (World.alloc (World.alloc (World.alloc w (.cells #[.int .i64 num,.slice q l.length cp] 68)) (.cells #[.int .u8 kind] 5)) (.cells #[.int .i64 tag] 3)) 70 #[.int .u8 p,.int .i64 t,.int .i64 c]).ext ((Ext.refl _).alloc (.cells #[.slice a2 run.length cp2] 26))).ext ((Ext.refl _).alloc (.cells #[.int .i64 0,.slice none 0 0] 68))
 have bX4:=(Box.new (World.alloc (World.alloc (World.alloc (World.alloc w (.cells #[.int .i64 num,.slice q l.length cp] 68)) (.cells #[.int .u8 kind] 5)) (.cells #[.int .i64 tag] 3)) (.cells #[.int .u8 p,.int .i64 t,.int .i64 c] 70)) 26 #[.slice a2 run.length cp2]).ext ((Ext.refl _).alloc (.cells #[.int .i64 0,.slice none 0 0] 68))
 have bX5:=Box.new (World.alloc (World.alloc (World.alloc (World.alloc (World.alloc w (.cells #[.int .i64 num,.slice q l.length cp] 68)) (.cells #[.int .u8 kind] 5)) (.cells #[.int .i64 tag] 3)) (.cells #[.int .u8 p,.int .i64 t,.int .i64 c] 70)) (.cells #[.slice a2 run.length cp2] 26)) 68 #[.int .i64 0,.slice none 0 0]
 simp only [World.size_alloc] at bX0 bX1 bX2 bX3 bX4 bX5
 have hL:=Lib.hid (hl.ext hE0)
 have hV:=Lib.hid (hr.ext hE0)
 have hP:=Lib.hid (hp.ext hE0)
 clear hp
 replace hk:=Lib.hid hk
 unfold Item.val
 have hmf : ∀ (fn : Fn) (first cap : Array Value) (w : World),(Instr.makeFunc fn first cap).run Tryz.prog w = .ok (.func fn first cap) w:=fun _ _ _ _=>rfl
 clear hl hr
 obtain ⟨w1,hw1⟩ : ∃ z,(World.alloc (World.alloc (World.alloc (World.alloc (World.alloc (World.alloc w (.cells #[.int .i64 num,.slice q l.length cp] 68)) (.cells #[.int .u8 kind] 5)) (.cells #[.int .i64 tag] 3)) (.cells #[.int .u8 p,.int .i64 t,.int .i64 c] 70)) (.cells #[.slice a2 run.length cp2] 26)) (.cells #[.int .i64 0,.slice none 0 0] 68))=z:=⟨_,rfl⟩
 rw [hw1] at hE0 hL hV hP bX0 bX1 bX2 bX3 bX4 bX5
 rcases ask33_cases ⟨num,l⟩ a n run with h8 | h6 | ⟨h0,hok,hkk,hin⟩
 ·have hres:=Lib.hid (tag33_bad (k:=kind) (old:=tag) (it:=⟨p,t,c⟩) h8 (by decide))
  replace h8:=Lib.hid h8
  go_enter Tryz.func50,Tryz.ntmps50
  have c0_0 : World.cell? w1 ⟨w.heap.size,0,none⟩=some (.int .i64 num):=bX0.cell 0
  have c0_1 : World.cell? w1 ⟨w.heap.size,1,none⟩=some (.slice q l.length cp):=bX0.cell 1
  have c1_0 : World.cell? w1 ⟨w.heap.size+1,0,none⟩=some (.int .u8 kind):=bX1.cell 0
  have c2_0 : World.cell? w1 ⟨w.heap.size+1+1,0,none⟩=some (.int .i64 tag):=bX2.cell 0
  have c3_0 : World.cell? w1 ⟨w.heap.size+1+1+1,0,none⟩=some (.int .u8 p):=bX3.cell 0
  have c3_1 : World.cell? w1 ⟨w.heap.size+1+1+1,1,none⟩=some (.int .i64 t):=bX3.cell 1
  have c3_2 : World.cell? w1 ⟨w.heap.size+1+1+1,2,none⟩=some (.int .i64 c):=bX3.cell 2
  have c4_0 : World.cell? w1 ⟨w.heap.size+1+1+1+1,0,none⟩=some (.slice a2 run.length cp2):=bX4.cell 0
  have c5_0 : World.cell? w1 ⟨w.heap.size+1+1+1+1+1,0,none⟩=some (.int .i64 0):=bX5.cell 0
  have c5_1 : World.cell? w1 ⟨w.heap.size+1+1+1+1+1,1,none⟩=some (.slice none 0 0):=bX5.cell 1
  go_wp2_with fail
  clear c0_0 c0_1 c1_0 c2_0 c3_0 c3_1 c3_2 c4_0 c5_0 c5_1
  clear hw1
  refine (stacks_asked hL.out hV.out).mono ?_
  rintro e w2 ⟨rfl,hE2⟩
  rw [h8.out]
  have c0_0 : World.cell? w2 ⟨w.heap.size,0,none⟩=some (.int .i64 num):=(bX0.ext hE2).cell 0
  have c0_1 : World.cell? w2 ⟨w.heap.size,1,none⟩=some (.slice q l.length cp):=(bX0.ext hE2).cell 1
  have c1_0 : World.cell? w2 ⟨w.heap.size+1,0,none⟩=some (.int .u8 kind):=(bX1.ext hE2).cell 0
  have c2_0 : World.cell? w2 ⟨w.heap.size+1+1,0,none⟩=some (.int .i64 tag):=(bX2.ext hE2).cell 0
  have c3_0 : World.cell? w2 ⟨w.heap.size+1+1+1,0,none⟩=some (.int .u8 p):=(bX3.ext hE2).cell 0
  have c3_1 : World.cell? w2 ⟨w.heap.size+1+1+1,1,none⟩=some (.int .i64 t):=(bX3.ext hE2).cell 1
  have c3_2 : World.cell? w2 ⟨w.heap.size+1+1+1,2,none⟩=some (.int .i64 c):=(bX3.ext hE2).cell 2
  have c4_0 : World.cell? w2 ⟨w.heap.size+1+1+1+1,0,none⟩=some (.slice a2 run.length cp2):=(bX4.ext hE2).cell 0
  have c5_0 : World.cell? w2 ⟨w.heap.size+1+1+1+1+1,0,none⟩=some (.int .i64 0):=(bX5.ext hE2).cell 0
  have c5_1 : World.cell? w2 ⟨w.heap.size+1+1+1+1+1,1,none⟩=some (.slice none 0 0):=(bX5.ext hE2).cell 1
  have f0:=(bX5.ext hE2).frozen 0
  have f1:=(bX5.ext hE2).frozen 1
  go_wp2
  rw [hres.out]
  refine bodyPost_ret (v := .tuple #[.agg #[.int .i64 0,.slice none 0 0],.int .u8 0,.int .i64 8]) (by simp [results,Tryz.f50,go_sem,c5_0,c5_1]) rfl ⟨_,[],rfl,OwnS.nil _ _,?_⟩
  have hFF:=hE0.trans hE2
  first | exact hFF | exact (hFF.setCell (by simp <;> omega) _).setCell (by simp <;> omega) _
 ·have hres:=Lib.hid (tag33_bad (k:=kind) (old:=tag) (it:=⟨p,t,c⟩) h6 (by decide))
  replace h6:=Lib.hid h6
  go_enter Tryz.func50,Tryz.ntmps50
  have c0_0 : World.cell? w1 ⟨w.heap.size,0,none⟩=some (.int .i64 num):=bX0.cell 0
  have c0_1 : World.cell? w1 ⟨w.heap.size,1,none⟩=some (.slice q l.length cp):=bX0.cell 1
  have c1_0 : World.cell? w1 ⟨w.heap.size+1,0,none⟩=some (.int .u8 kind):=bX1.cell 0
  have c2_0 : World.cell? w1 ⟨w.heap.size+1+1,0,none⟩=some (.int .i64 tag):=bX2.cell 0
  have c3_0 : World.cell? w1 ⟨w.heap.size+1+1+1,0,none⟩=some (.int .u8 p):=bX3.cell 0
  have c3_1 : World.cell? w1 ⟨w.heap.size+1+1+1,1,none⟩=some (.int .i64 t):=bX3.cell 1
  have c3_2 : World.cell? w1 ⟨w.heap.size+1+1+1,2,none⟩=some (.int .i64 c):=bX3.cell 2
  have c4_0 : World.cell? w1 ⟨w.heap.size+1+1+1+1,0,none⟩=some (.slice a2 run.length cp2):=bX4.cell 0
  have c5_0 : World.cell? w1 ⟨w.heap.size+1+1+1+1+1,0,none⟩=some (.int .i64 0):=bX5.cell 0
  have c5_1 : World.cell? w1 ⟨w.heap.size+1+1+1+1+1,1,none⟩=some (.slice none 0 0):=bX5.cell 1
  go_wp2_with fail
  clear c0_0 c0_1 c1_0 c2_0 c3_0 c3_1 c3_2 c4_0 c5_0 c5_1
  clear hw1
  refine (stacks_asked hL.out hV.out).mono ?_
  rintro e w2 ⟨rfl,hE2⟩
  rw [h6.out]
  have c0_0 : World.cell? w2 ⟨w.heap.size,0,none⟩=some (.int .i64 num):=(bX0.ext hE2).cell 0
  have c0_1 : World.cell? w2 ⟨w.heap.size,1,none⟩=some (.slice q l.length cp):=(bX0.ext hE2).cell 1
  have c1_0 : World.cell? w2 ⟨w.heap.size+1,0,none⟩=some (.int .u8 kind):=(bX1.ext hE2).cell 0
  have c2_0 : World.cell? w2 ⟨w.heap.size+1+1,0,none⟩=some (.int .i64 tag):=(bX2.ext hE2).cell 0
  have c3_0 : World.cell? w2 ⟨w.heap.size+1+1+1,0,none⟩=some (.int .u8 p):=(bX3.ext hE2).cell 0
  have c3_1 : World.cell? w2 ⟨w.heap.size+1+1+1,1,none⟩=some (.int .i64 t):=(bX3.ext hE2).cell 1
  have c3_2 : World.cell? w2 ⟨w.heap.size+1+1+1,2,none⟩=some (.int .i64 c):=(bX3.ext hE2).cell 2
  have c4_0 : World.cell? w2 ⟨w.heap.size+1+1+1+1,0,none⟩=some (.slice a2 run.length cp2):=(bX4.ext hE2).cell 0
  have c5_0 : World.cell? w2 ⟨w.heap.size+1+1+1+1+1,0,none⟩=some (.int .i64 0):=(bX5.ext hE2).cell 0
  have c5_1 : World.cell? w2 ⟨w.heap.size+1+1+1+1+1,1,none⟩=some (.slice none 0 0):=(bX5.ext hE2).cell 1
  have f0:=(bX5.ext hE2).frozen 0
  have f1:=(bX5.ext hE2).frozen 1
  go_wp2
  rw [hres.out]
  refine bodyPost_ret (v := .tuple #[.agg #[.int .i64 0,.slice none 0 0],.int .u8 0,.int .i64 6]) (by simp [results,Tryz.f50,go_sem,c5_0,c5_1]) rfl ⟨_,[],rfl,OwnS.nil _ _,?_⟩
  have hFF:=hE0.trans hE2
  first | exact hFF | exact (hFF.setCell (by simp <;> omega) _).setCell (by simp <;> omega) _
 have hin2:=hin
 unfold inR33 at hin2
 dsimp only at hin2
 obtain ⟨fa,rfl⟩ : ∃ m : Nat,a=m:=⟨a.toNat,by omega⟩
 obtain ⟨fn,rfl⟩ : ∃ m : Nat,n=m:=⟨n.toNat,by omega⟩
 have hin3 : fa < l.length∧1≤fn∧fn≤l.length - fa:=by omega
 have hsm : Hid (l.length≤2 ∧ ∀ s ∈ l,s.length≤600):=Hid.mk (okK_small33 hkk)
 replace hin3:=Lib.hid hin3
 clear hin hin2 hok hkk
 cases hko : kindOk kind
 ·have hres:=Lib.hid (tag33_arg (old:=tag) (it:=⟨p,t,c⟩) h0 hko)
  have hke:=Lib.hid (kindErr_no hko)
  have hkk:=kind_no hko hk.out
  replace h0:=Lib.hid h0
  clear hko
  go_enter Tryz.func50,Tryz.ntmps50
  have c0_0 : World.cell? w1 ⟨w.heap.size,0,none⟩=some (.int .i64 num):=bX0.cell 0
  have c0_1 : World.cell? w1 ⟨w.heap.size,1,none⟩=some (.slice q l.length cp):=bX0.cell 1
  have c1_0 : World.cell? w1 ⟨w.heap.size+1,0,none⟩=some (.int .u8 kind):=bX1.cell 0
  have c2_0 : World.cell? w1 ⟨w.heap.size+1+1,0,none⟩=some (.int .i64 tag):=bX2.cell 0
  have c3_0 : World.cell? w1 ⟨w.heap.size+1+1+1,0,none⟩=some (.int .u8 p):=bX3.cell 0
  have c3_1 : World.cell? w1 ⟨w.heap.size+1+1+1,1,none⟩=some (.int .i64 t):=bX3.cell 1
  have c3_2 : World.cell? w1 ⟨w.heap.size+1+1+1,2,none⟩=some (.int .i64 c):=bX3.cell 2
  have c4_0 : World.cell? w1 ⟨w.heap.size+1+1+1+1,0,none⟩=some (.slice a2 run.length cp2):=bX4.cell 0
  have c5_0 : World.cell? w1 ⟨w.heap.size+1+1+1+1+1,0,none⟩=some (.int .i64 0):=bX5.cell 0
  have c5_1 : World.cell? w1 ⟨w.heap.size+1+1+1+1+1,1,none⟩=some (.slice none 0 0):=bX5.cell 1
  go_wp2_with fail
  clear c0_0 c0_1 c1_0 c2_0 c3_0 c3_1 c3_2 c4_0 c5_0 c5_1
  clear hw1
  refine (stacks_asked hL.out hV.out).mono ?_
  rintro e w2 ⟨rfl,hE2⟩
  rw [h0.out]
  have c0_0 : World.cell? w2 ⟨w.heap.size,0,none⟩=some (.int .i64 num):=(bX0.ext hE2).cell 0
  have c0_1 : World.cell? w2 ⟨w.heap.size,1,none⟩=some (.slice q l.length cp):=(bX0.ext hE2).cell 1
  have c1_0 : World.cell? w2 ⟨w.heap.size+1,0,none⟩=some (.int .u8 kind):=(bX1.ext hE2).cell 0
  have c2_0 : World.cell? w2 ⟨w.heap.size+1+1,0,none⟩=some (.int .i64 tag):=(bX2.ext hE2).cell 0
  have c3_0 : World.cell? w2 ⟨w.heap.size+1+1+1,0,none⟩=some (.int .u8 p):=(bX3.ext hE2).cell 0
  have c3_1 : World.cell? w2 ⟨w.heap.size+1+1+1,1,none⟩=some (.int .i64 t):=(bX3.ext hE2).cell 1
  have c3_2 : World.cell? w2 ⟨w.heap.size+1+1+1,2,none⟩=some (.int .i64 c):=(bX3.ext hE2).cell 2
  have c4_0 : World.cell? w2 ⟨w.heap.size+1+1+1+1,0,none⟩=some (.slice a2 run.length cp2):=(bX4.ext hE2).cell 0
  have c5_0 : World.cell? w2 ⟨w.heap.size+1+1+1+1+1,0,none⟩=some (.int .i64 0):=(bX5.ext hE2).cell 0
  have c5_1 : World.cell? w2 ⟨w.heap.size+1+1+1+1+1,1,none⟩=some (.slice none 0 0):=(bX5.ext hE2).cell 1
  have f0:=(bX5.ext hE2).frozen 0
  have f1:=(bX5.ext hE2).frozen 1
  go_wp2_with fail
  refine (grant_Check _ hk.out).mono ?_
  rintro e w3 ⟨rfl,rfl⟩
  rw [hke.out]
  go_wp2
  rw [hres.out]
  refine bodyPost_ret (v := .tuple #[.agg #[.int .i64 0,.slice none 0 0],.int .u8 0,.int .i64 2]) (by simp [results,Tryz.f50,go_sem,c5_0,c5_1]) rfl ⟨_,[],rfl,OwnS.nil _ _,?_⟩
  have hFF:=hE0.trans hE2
  first | exact hFF | exact (hFF.setCell (by simp <;> omega) _).setCell (by simp <;> omega) _
 have hres:=Lib.hid (tag33_ok (old:=tag) (it:=⟨p,t,c⟩) h0 hko)
 have hke:=Lib.hid (kindErr_yes hko)
 have hof:=Lib.hid (oneR_funK tag ⟨p,t,c⟩ run hko)
 have hk4 : 1≤kind∧kind≤4:=by rcases kind_yes hko with rfl | rfl | rfl | rfl <;> omega
 have g1 : decide (kind < 1)=false:=decide_eq_false (by omega)
 have g2 : decide (4 < kind)=false:=decide_eq_false (by omega)
 clear hko hk4
 replace h0:=Lib.hid h0
 obtain ⟨⟨⟨yn,yl⟩,u,e3⟩,hy⟩ : ∃ z,eachR (fun l=>tagR l kind tag ⟨p,t,c⟩ run) ⟨num,l⟩ fa fn=z:=⟨_,rfl⟩
 replace hy:=Lib.hid hy
 go_enter Tryz.func50,Tryz.ntmps50
 have c0_0 : World.cell? w1 ⟨w.heap.size,0,none⟩=some (.int .i64 num):=bX0.cell 0
 have c0_1 : World.cell? w1 ⟨w.heap.size,1,none⟩=some (.slice q l.length cp):=bX0.cell 1
 have c1_0 : World.cell? w1 ⟨w.heap.size+1,0,none⟩=some (.int .u8 kind):=bX1.cell 0
 have c2_0 : World.cell? w1 ⟨w.heap.size+1+1,0,none⟩=some (.int .i64 tag):=bX2.cell 0
 have c3_0 : World.cell? w1 ⟨w.heap.size+1+1+1,0,none⟩=some (.int .u8 p):=bX3.cell 0
 have c3_1 : World.cell? w1 ⟨w.heap.size+1+1+1,1,none⟩=some (.int .i64 t):=bX3.cell 1
 have c3_2 : World.cell? w1 ⟨w.heap.size+1+1+1,2,none⟩=some (.int .i64 c):=bX3.cell 2
 have c4_0 : World.cell? w1 ⟨w.heap.size+1+1+1+1,0,none⟩=some (.slice a2 run.length cp2):=bX4.cell 0
 have c5_0 : World.cell? w1 ⟨w.heap.size+1+1+1+1+1,0,none⟩=some (.int .i64 0):=bX5.cell 0
 have c5_1 : World.cell? w1 ⟨w.heap.size+1+1+1+1+1,1,none⟩=some (.slice none 0 0):=bX5.cell 1
 go_wp2_with fail
 clear c0_0 c0_1 c1_0 c2_0 c3_0 c3_1 c3_2 c4_0 c5_0 c5_1
 clear hw1
 refine (stacks_asked hL.out hV.out).mono ?_
 rintro e w2 ⟨rfl,hE2⟩
 rw [h0.out]
 have c0_0 : World.cell? w2 ⟨w.heap.size,0,none⟩=some (.int .i64 num):=(bX0.ext hE2).cell 0
 have c0_1 : World.cell? w2 ⟨w.heap.size,1,none⟩=some (.slice q l.length cp):=(bX0.ext hE2).cell 1
 have c1_0 : World.cell? w2 ⟨w.heap.size+1,0,none⟩=some (.int .u8 kind):=(bX1.ext hE2).cell 0
 have c2_0 : World.cell? w2 ⟨w.heap.size+1+1,0,none⟩=some (.int .i64 tag):=(bX2.ext hE2).cell 0
 have c3_0 : World.cell? w2 ⟨w.heap.size+1+1+1,0,none⟩=some (.int .u8 p):=(bX3.ext hE2).cell 0
 have c3_1 : World.cell? w2 ⟨w.heap.size+1+1+1,1,none⟩=some (.int .i64 t):=(bX3.ext hE2).cell 1
 have c3_2 : World.cell? w2 ⟨w.heap.size+1+1+1,2,none⟩=some (.int .i64 c):=(bX3.ext hE2).cell 2
 have c4_0 : World.cell? w2 ⟨w.heap.size+1+1+1+1,0,none⟩=some (.slice a2 run.length cp2):=(bX4.ext hE2).cell 0
 have c5_0 : World.cell? w2 ⟨w.heap.size+1+1+1+1+1,0,none⟩=some (.int .i64 0):=(bX5.ext hE2).cell 0
 have c5_1 : World.cell? w2 ⟨w.heap.size+1+1+1+1+1,1,none⟩=some (.slice none 0 0):=(bX5.ext hE2).cell 1
 have f0:=(bX5.ext hE2).frozen 0
 have f1:=(bX5.ext hE2).frozen 1
 go_wp2_with fail
 refine (grant_Check _ hk.out).mono ?_
 rintro e w3 ⟨rfl,rfl⟩
 rw [hke.out]
 go_wp2_with fail
 refine (stacks_each callFunc_retag33 (stacks_retag1 hk.out tag p t c (w.heap.size+1) (w.heap.size+1+1) (w.heap.size+1+1+1) (w.heap.size+1+1+1+1) _ (hP.out.ext hE2) c1_0 c2_0 c3_0 c3_1 c3_2 c4_0 (hV.out.ext hE2)) hsm.out hin3.out (hL.out.ext hE2)).mono ?_
 rintro e w4 ⟨v4,vs4,rfl,h4,hE4⟩
 rw [hy.out] at h4 ⊢
 dsimp only at h4 ⊢
 clear c0_0 c0_1 c1_0 c2_0 c3_0 c3_1 c3_2 c4_0 c5_0 c5_1 f0 f1
 obtain ⟨a4,k4,rfl,-⟩:=h4.sts.form
 replace h4:=Lib.hid h4
 have c0 : World.cell? w4 ⟨w.heap.size+1+1+1+1+1,0,none⟩=some (.int .i64 0):=((bX5.ext hE2).ext hE4).cell 0
 have c1 : World.cell? w4 ⟨w.heap.size+1+1+1+1+1,1,none⟩=some (.slice none 0 0):=((bX5.ext hE2).ext hE4).cell 1
 have f0:=((bX5.ext hE2).ext hE4).frozen 0
 have f1:=((bX5.ext hE2).ext hE4).frozen 1
 have hlt:=bX5.lt
 have hsz2:=hE2.size
 go_wp2
 rw [hres.out,hy.out]
 have hY:=((ExtBut.setCell w4 ⟨w.heap.size+1+1+1+1+1,0,none⟩ (.int .i64 yn)).mono (S':=fun b=>b=w.heap.size+1+1+1+1+1) (fun x _ h=>h)).trans ((ExtBut.setCell _ ⟨w.heap.size+1+1+1+1+1,1,none⟩ (.slice a4 yl.length k4)).mono (S':=fun b=>b=w.heap.size+1+1+1+1+1) (fun x _ h=>h))
 refine bodyPost_ret (v := .tuple #[.agg #[.int .i64 yn,.slice a4 yl.length k4],.int .u8 u,.int .i64 e3]) (by simp [results,Tryz.f50,go_sem,c0,c1]) rfl ⟨_,vs4,rfl,OwnS.mono (B:=w2.heap.size) (B':=w.heap.size) (OwnS.but h4.out hY (fun g e h=>by omega)) (by omega),ExtBut.ext ((hE0.trans hE2).trans hE4) hY (fun x h=>by omega)⟩
set_option maxHeartbeats 3200000 in
theorem ref33_Retag {l : List (List Item)} {num a n : Int} {kind : Int} {run : List Int} {s v : Value} {w : World} (hk : u8B kind) (tag : Int) (it : Item) (hl : Sts w s l) (hr : Nts w v run) :
  Calls Tryz.prog 53 #[.agg #[.int .i64 num,s],.int .i64 a,.int .i64 n,.int .u8 kind,.int .i64 tag,it.val,v] w (RetKW w (tag33 ⟨num,l⟩ a n kind tag it run).1 (tag33 ⟨num,l⟩ a n kind tag it run).2.1 (tag33 ⟨num,l⟩ a n kind tag it run).2.2):=by
 obtain ⟨p,t,c⟩:=it
 obtain ⟨q,cp,rfl,-⟩:=hl.form
 obtain ⟨a2,cp2,rfl,-⟩:=hr.form
 have hE0 : Ext w (World.alloc (World.alloc (World.alloc w (.cells #[.int .i64 num,.slice q l.length cp] 68)) (.cells #[.int .u8 p,.int .i64 t,.int .i64 c] 70)) (.cells #[.int .i64 0,.slice none 0 0] 68)):=(((Ext.refl w).alloc (.cells #[.int .i64 num,.slice q l.length cp] 68)).alloc (.cells #[.int .u8 p,.int .i64 t,.int .i64 c] 70)).alloc (.cells #[.int .i64 0,.slice none 0 0] 68)
 have bX0:=((Box.new w 68 #[.int .i64 num,.slice q l.length cp]).ext ((Ext.refl _).alloc (.cells #[.int .u8 p,.int .i64 t,.int .i64 c] 70))).ext ((Ext.refl _).alloc (.cells #[.int .i64 0,.slice none 0 0] 68))
 have bX1:=(Box.new (World.alloc w (.cells #[.int .i64 num,.slice q l.length cp] 68)) 70 #[.int .u8 p,.int .i64 t,.int .i64 c]).ext ((Ext.refl _).alloc (.cells #[.int .i64 0,.slice none 0 0] 68))
 have bX2:=Box.new (World.alloc (World.alloc w (.cells #[.int .i64 num,.slice q l.length cp] 68)) (.cells #[.int .u8 p,.int .i64 t,.int .i64 c] 70)) 68 #[.int .i64 0,.slice none 0 0]
 simp only [World.size_alloc] at bX0 bX1 bX2
 have hL:=Lib.hid (hl.ext hE0)
 have hV:=Lib.hid (hr.ext hE0)
 replace hk:=Lib.hid hk
 unfold Item.val
 have hmf : ∀ (fn : Fn) (first cap : Array Value) (w : World),(Instr.makeFunc fn first cap).run Tryz.prog w = .ok (.func fn first cap) w:=fun _ _ _ _=>rfl
 clear hl hr
 obtain ⟨w1,hw1⟩ : ∃ z,(World.alloc (World.alloc (World.alloc w (.cells #[.int .i64 num,.slice q l.length cp] 68)) (.cells #[.int .u8 p,.int .i64 t,.int .i64 c] 70)) (.cells #[.int .i64 0,.slice none 0 0] 68))=z:=⟨_,rfl⟩
 rw [hw1] at hE0 hL hV bX0 bX1 bX2
 rcases ask33_cases ⟨num,l⟩ a n run with h8 | h6 | ⟨h0,hok,hkk,hin⟩
 ·have hres:=Lib.hid (tag33_bad (k:=kind) (old:=tag) (it:=⟨p,t,c⟩) h8 (by decide))
  replace h8:=Lib.hid h8
  go_enter Tryz.func53,Tryz.ntmps53
  have c0_0 : World.cell? w1 ⟨w.heap.size,0,none⟩=some (.int .i64 num):=bX0.cell 0
  have c0_1 : World.cell? w1 ⟨w.heap.size,1,none⟩=some (.slice q l.length cp):=bX0.cell 1
  have c1_0 : World.cell? w1 ⟨w.heap.size+1,0,none⟩=some (.int .u8 p):=bX1.cell 0
  have c1_1 : World.cell? w1 ⟨w.heap.size+1,1,none⟩=some (.int .i64 t):=bX1.cell 1
  have c1_2 : World.cell? w1 ⟨w.heap.size+1,2,none⟩=some (.int .i64 c):=bX1.cell 2
  have c2_0 : World.cell? w1 ⟨w.heap.size+1+1,0,none⟩=some (.int .i64 0):=bX2.cell 0
  have c2_1 : World.cell? w1 ⟨w.heap.size+1+1,1,none⟩=some (.slice none 0 0):=bX2.cell 1
  go_wp2_with fail
  clear c0_0 c0_1 c1_0 c1_1 c1_2 c2_0 c2_1
  clear hw1
  refine (ref33_asked hL.out hV.out).mono ?_
  rintro e w2 ⟨rfl,hE2⟩
  rw [h8.out]
  have c0_0 : World.cell? w2 ⟨w.heap.size,0,none⟩=some (.int .i64 num):=(bX0.ext hE2).cell 0
  have c0_1 : World.cell? w2 ⟨w.heap.size,1,none⟩=some (.slice q l.length cp):=(bX0.ext hE2).cell 1
  have c1_0 : World.cell? w2 ⟨w.heap.size+1,0,none⟩=some (.int .u8 p):=(bX1.ext hE2).cell 0
  have c1_1 : World.cell? w2 ⟨w.heap.size+1,1,none⟩=some (.int .i64 t):=(bX1.ext hE2).cell 1
  have c1_2 : World.cell? w2 ⟨w.heap.size+1,2,none⟩=some (.int .i64 c):=(bX1.ext hE2).cell 2
  have c2_0 : World.cell? w2 ⟨w.heap.size+1+1,0,none⟩=some (.int .i64 0):=(bX2.ext hE2).cell 0
  have c2_1 : World.cell? w2 ⟨w.heap.size+1+1,1,none⟩=some (.slice none 0 0):=(bX2.ext hE2).cell 1
  have f0:=(bX2.ext hE2).frozen 0
  have f1:=(bX2.ext hE2).frozen 1
  go_wp2
  rw [hres.out]
  refine bodyPost_ret (v := .tuple #[.agg #[.int .i64 0,.slice none 0 0],.int .u8 0,.int .i64 8]) (by simp [results,Tryz.f53,go_sem,c2_0,c2_1]) rfl ⟨_,[],rfl,OwnS.nil _ _,?_⟩
  have hFF:=hE0.trans hE2
  first | exact hFF | exact (hFF.setCell (by simp <;> omega) _).setCell (by simp <;> omega) _
 ·have hres:=Lib.hid (tag33_bad (k:=kind) (old:=tag) (it:=⟨p,t,c⟩) h6 (by decide))
  replace h6:=Lib.hid h6
  go_enter Tryz.func53,Tryz.ntmps53
  have c0_0 : World.cell? w1 ⟨w.heap.size,0,none⟩=some (.int .i64 num):=bX0.cell 0
  have c0_1 : World.cell? w1 ⟨w.heap.size,1,none⟩=some (.slice q l.length cp):=bX0.cell 1
  have c1_0 : World.cell? w1 ⟨w.heap.size+1,0,none⟩=some (.int .u8 p):=bX1.cell 0
  have c1_1 : World.cell? w1 ⟨w.heap.size+1,1,none⟩=some (.int .i64 t):=bX1.cell 1
  have c1_2 : World.cell? w1 ⟨w.heap.size+1,2,none⟩=some (.int .i64 c):=bX1.cell 2
  have c2_0 : World.cell? w1 ⟨w.heap.size+1+1,0,none⟩=some (.int .i64 0):=bX2.cell 0
  have c2_1 : World.cell? w1 ⟨w.heap.size+1+1,1,none⟩=some (.slice none 0 0):=bX2.cell 1
  go_wp2_with fail
  clear c0_0 c0_1 c1_0 c1_1 c1_2 c2_0 c2_1
  clear hw1
  refine (ref33_asked hL.out hV.out).mono ?_
  rintro e w2 ⟨rfl,hE2⟩
  rw [h6.out]
  have c0_0 : World.cell? w2 ⟨w.heap.size,0,none⟩=some (.int .i64 num):=(bX0.ext hE2).cell 0
  have c0_1 : World.cell? w2 ⟨w.heap.size,1,none⟩=some (.slice q l.length cp):=(bX0.ext hE2).cell 1
  have c1_0 : World.cell? w2 ⟨w.heap.size+1,0,none⟩=some (.int .u8 p):=(bX1.ext hE2).cell 0
  have c1_1 : World.cell? w2 ⟨w.heap.size+1,1,none⟩=some (.int .i64 t):=(bX1.ext hE2).cell 1
  have c1_2 : World.cell? w2 ⟨w.heap.size+1,2,none⟩=some (.int .i64 c):=(bX1.ext hE2).cell 2
  have c2_0 : World.cell? w2 ⟨w.heap.size+1+1,0,none⟩=some (.int .i64 0):=(bX2.ext hE2).cell 0
  have c2_1 : World.cell? w2 ⟨w.heap.size+1+1,1,none⟩=some (.slice none 0 0):=(bX2.ext hE2).cell 1
  have f0:=(bX2.ext hE2).frozen 0
  have f1:=(bX2.ext hE2).frozen 1
  go_wp2
  rw [hres.out]
  refine bodyPost_ret (v := .tuple #[.agg #[.int .i64 0,.slice none 0 0],.int .u8 0,.int .i64 6]) (by simp [results,Tryz.f53,go_sem,c2_0,c2_1]) rfl ⟨_,[],rfl,OwnS.nil _ _,?_⟩
  have hFF:=hE0.trans hE2
  first | exact hFF | exact (hFF.setCell (by simp <;> omega) _).setCell (by simp <;> omega) _
 have hin2:=hin
 unfold inR33 at hin2
 dsimp only at hin2
 obtain ⟨fa,rfl⟩ : ∃ m : Nat,a=m:=⟨a.toNat,by omega⟩
 obtain ⟨fn,rfl⟩ : ∃ m : Nat,n=m:=⟨n.toNat,by omega⟩
 have hin3 : fa < l.length∧1≤fn∧fn≤l.length - fa:=by omega
 have hsm : Hid (l.length≤2 ∧ ∀ s ∈ l,s.length≤600):=Hid.mk (okK_small33 hkk)
 replace hin3:=Lib.hid hin3
 clear hin hin2 hok hkk
 cases hko : kindOk kind
 ·have hres:=Lib.hid (tag33_arg (old:=tag) (it:=⟨p,t,c⟩) h0 hko)
  have hke:=Lib.hid (kindErr_no hko)
  have hkk:=kind_no hko hk.out
  replace h0:=Lib.hid h0
  clear hko
  rcases hkk with hkz | hk5
  ·have g1 : decide (kind < 1)=true:=decide_eq_true (by omega)
   go_enter Tryz.func53,Tryz.ntmps53
   have c0_0 : World.cell? w1 ⟨w.heap.size,0,none⟩=some (.int .i64 num):=bX0.cell 0
   have c0_1 : World.cell? w1 ⟨w.heap.size,1,none⟩=some (.slice q l.length cp):=bX0.cell 1
   have c1_0 : World.cell? w1 ⟨w.heap.size+1,0,none⟩=some (.int .u8 p):=bX1.cell 0
   have c1_1 : World.cell? w1 ⟨w.heap.size+1,1,none⟩=some (.int .i64 t):=bX1.cell 1
   have c1_2 : World.cell? w1 ⟨w.heap.size+1,2,none⟩=some (.int .i64 c):=bX1.cell 2
   have c2_0 : World.cell? w1 ⟨w.heap.size+1+1,0,none⟩=some (.int .i64 0):=bX2.cell 0
   have c2_1 : World.cell? w1 ⟨w.heap.size+1+1,1,none⟩=some (.slice none 0 0):=bX2.cell 1
   go_wp2_with fail
   clear c0_0 c0_1 c1_0 c1_1 c1_2 c2_0 c2_1
   clear hw1
   refine (ref33_asked hL.out hV.out).mono ?_
   rintro e w2 ⟨rfl,hE2⟩
   rw [h0.out]
   have c0_0 : World.cell? w2 ⟨w.heap.size,0,none⟩=some (.int .i64 num):=(bX0.ext hE2).cell 0
   have c0_1 : World.cell? w2 ⟨w.heap.size,1,none⟩=some (.slice q l.length cp):=(bX0.ext hE2).cell 1
   have c1_0 : World.cell? w2 ⟨w.heap.size+1,0,none⟩=some (.int .u8 p):=(bX1.ext hE2).cell 0
   have c1_1 : World.cell? w2 ⟨w.heap.size+1,1,none⟩=some (.int .i64 t):=(bX1.ext hE2).cell 1
   have c1_2 : World.cell? w2 ⟨w.heap.size+1,2,none⟩=some (.int .i64 c):=(bX1.ext hE2).cell 2
   have c2_0 : World.cell? w2 ⟨w.heap.size+1+1,0,none⟩=some (.int .i64 0):=(bX2.ext hE2).cell 0
   have c2_1 : World.cell? w2 ⟨w.heap.size+1+1,1,none⟩=some (.slice none 0 0):=(bX2.ext hE2).cell 1
   have f0:=(bX2.ext hE2).frozen 0
   have f1:=(bX2.ext hE2).frozen 1
   go_wp2
   rw [hres.out]
   refine bodyPost_ret (v := .tuple #[.agg #[.int .i64 0,.slice none 0 0],.int .u8 0,.int .i64 2]) (by simp [results,Tryz.f53,go_sem,c2_0,c2_1]) rfl ⟨_,[],rfl,OwnS.nil _ _,?_⟩
   have hFF:=hE0.trans hE2
   first | exact hFF | exact (hFF.setCell (by simp <;> omega) _).setCell (by simp <;> omega) _
  ·have g1 : decide (kind < 1)=false:=decide_eq_false (by omega)
   have g2 : decide (4 < kind)=true:=decide_eq_true (by omega)
   go_enter Tryz.func53,Tryz.ntmps53
   have c0_0 : World.cell? w1 ⟨w.heap.size,0,none⟩=some (.int .i64 num):=bX0.cell 0
   have c0_1 : World.cell? w1 ⟨w.heap.size,1,none⟩=some (.slice q l.length cp):=bX0.cell 1
   have c1_0 : World.cell? w1 ⟨w.heap.size+1,0,none⟩=some (.int .u8 p):=bX1.cell 0
   have c1_1 : World.cell? w1 ⟨w.heap.size+1,1,none⟩=some (.int .i64 t):=bX1.cell 1
   have c1_2 : World.cell? w1 ⟨w.heap.size+1,2,none⟩=some (.int .i64 c):=bX1.cell 2
   have c2_0 : World.cell? w1 ⟨w.heap.size+1+1,0,none⟩=some (.int .i64 0):=bX2.cell 0
   have c2_1 : World.cell? w1 ⟨w.heap.size+1+1,1,none⟩=some (.slice none 0 0):=bX2.cell 1
   go_wp2_with fail
   clear c0_0 c0_1 c1_0 c1_1 c1_2 c2_0 c2_1
   clear hw1
   refine (ref33_asked hL.out hV.out).mono ?_
   rintro e w2 ⟨rfl,hE2⟩
   rw [h0.out]
   have c0_0 : World.cell? w2 ⟨w.heap.size,0,none⟩=some (.int .i64 num):=(bX0.ext hE2).cell 0
   have c0_1 : World.cell? w2 ⟨w.heap.size,1,none⟩=some (.slice q l.length cp):=(bX0.ext hE2).cell 1
   have c1_0 : World.cell? w2 ⟨w.heap.size+1,0,none⟩=some (.int .u8 p):=(bX1.ext hE2).cell 0
   have c1_1 : World.cell? w2 ⟨w.heap.size+1,1,none⟩=some (.int .i64 t):=(bX1.ext hE2).cell 1
   have c1_2 : World.cell? w2 ⟨w.heap.size+1,2,none⟩=some (.int .i64 c):=(bX1.ext hE2).cell 2
   have c2_0 : World.cell? w2 ⟨w.heap.size+1+1,0,none⟩=some (.int .i64 0):=(bX2.ext hE2).cell 0
   have c2_1 : World.cell? w2 ⟨w.heap.size+1+1,1,none⟩=some (.slice none 0 0):=(bX2.ext hE2).cell 1
   have f0:=(bX2.ext hE2).frozen 0
   have f1:=(bX2.ext hE2).frozen 1
   go_wp2
   rw [hres.out]
   refine bodyPost_ret (v := .tuple #[.agg #[.int .i64 0,.slice none 0 0],.int .u8 0,.int .i64 2]) (by simp [results,Tryz.f53,go_sem,c2_0,c2_1]) rfl ⟨_,[],rfl,OwnS.nil _ _,?_⟩
   have hFF:=hE0.trans hE2
   first | exact hFF | exact (hFF.setCell (by simp <;> omega) _).setCell (by simp <;> omega) _
 have hres:=Lib.hid (tag33_ok (old:=tag) (it:=⟨p,t,c⟩) h0 hko)
 have hke:=Lib.hid (kindErr_yes hko)
 have hof:=Lib.hid (oneR_funK tag ⟨p,t,c⟩ run hko)
 have hk4 : 1≤kind∧kind≤4:=by rcases kind_yes hko with rfl | rfl | rfl | rfl <;> omega
 have g1 : decide (kind < 1)=false:=decide_eq_false (by omega)
 have g2 : decide (4 < kind)=false:=decide_eq_false (by omega)
 clear hko hk4
 replace h0:=Lib.hid h0
 obtain ⟨⟨⟨yn,yl⟩,u,e3⟩,hy⟩ : ∃ z,eachR (fun l=>tagR l kind tag ⟨p,t,c⟩ run) ⟨num,l⟩ fa fn=z:=⟨_,rfl⟩
 replace hy:=Lib.hid hy
 go_enter Tryz.func53,Tryz.ntmps53
 have c0_0 : World.cell? w1 ⟨w.heap.size,0,none⟩=some (.int .i64 num):=bX0.cell 0
 have c0_1 : World.cell? w1 ⟨w.heap.size,1,none⟩=some (.slice q l.length cp):=bX0.cell 1
 have c1_0 : World.cell? w1 ⟨w.heap.size+1,0,none⟩=some (.int .u8 p):=bX1.cell 0
 have c1_1 : World.cell? w1 ⟨w.heap.size+1,1,none⟩=some (.int .i64 t):=bX1.cell 1
 have c1_2 : World.cell? w1 ⟨w.heap.size+1,2,none⟩=some (.int .i64 c):=bX1.cell 2
 have c2_0 : World.cell? w1 ⟨w.heap.size+1+1,0,none⟩=some (.int .i64 0):=bX2.cell 0
 have c2_1 : World.cell? w1 ⟨w.heap.size+1+1,1,none⟩=some (.slice none 0 0):=bX2.cell 1
 go_wp2_with fail
 clear c0_0 c0_1 c1_0 c1_1 c1_2 c2_0 c2_1
 clear hw1
 refine (ref33_asked hL.out hV.out).mono ?_
 rintro e w2 ⟨rfl,hE2⟩
 rw [h0.out]
 have c0_0 : World.cell? w2 ⟨w.heap.size,0,none⟩=some (.int .i64 num):=(bX0.ext hE2).cell 0
 have c0_1 : World.cell? w2 ⟨w.heap.size,1,none⟩=some (.slice q l.length cp):=(bX0.ext hE2).cell 1
 have c1_0 : World.cell? w2 ⟨w.heap.size+1,0,none⟩=some (.int .u8 p):=(bX1.ext hE2).cell 0
 have c1_1 : World.cell? w2 ⟨w.heap.size+1,1,none⟩=some (.int .i64 t):=(bX1.ext hE2).cell 1
 have c1_2 : World.cell? w2 ⟨w.heap.size+1,2,none⟩=some (.int .i64 c):=(bX1.ext hE2).cell 2
 have c2_0 : World.cell? w2 ⟨w.heap.size+1+1,0,none⟩=some (.int .i64 0):=(bX2.ext hE2).cell 0
 have c2_1 : World.cell? w2 ⟨w.heap.size+1+1,1,none⟩=some (.slice none 0 0):=(bX2.ext hE2).cell 1
 have f0:=(bX2.ext hE2).frozen 0
 have f1:=(bX2.ext hE2).frozen 1
 go_wp2_with fail
 refine (ref33_ranged hk.out tag ⟨p,t,c⟩ hsm.out hin3.out (hL.out.ext hE2) (hV.out.ext hE2)).mono ?_
 rintro e w4 ⟨v4,vs4,rfl,h4,hE4⟩
 rw [hof.out] at h4 ⊢
 rw [hy.out] at h4 ⊢
 dsimp only at h4 ⊢
 clear c0_0 c0_1 c1_0 c1_1 c1_2 c2_0 c2_1 f0 f1
 obtain ⟨a4,k4,rfl,-⟩:=h4.sts.form
 replace h4:=Lib.hid h4
 have c0 : World.cell? w4 ⟨w.heap.size+1+1,0,none⟩=some (.int .i64 0):=((bX2.ext hE2).ext hE4).cell 0
 have c1 : World.cell? w4 ⟨w.heap.size+1+1,1,none⟩=some (.slice none 0 0):=((bX2.ext hE2).ext hE4).cell 1
 have f0:=((bX2.ext hE2).ext hE4).frozen 0
 have f1:=((bX2.ext hE2).ext hE4).frozen 1
 have hlt:=bX2.lt
 have hsz2:=hE2.size
 go_wp2
 rw [hres.out,hy.out]
 have hY:=((ExtBut.setCell w4 ⟨w.heap.size+1+1,0,none⟩ (.int .i64 yn)).mono (S':=fun b=>b=w.heap.size+1+1) (fun x _ h=>h)).trans ((ExtBut.setCell _ ⟨w.heap.size+1+1,1,none⟩ (.slice a4 yl.length k4)).mono (S':=fun b=>b=w.heap.size+1+1) (fun x _ h=>h))
 refine bodyPost_ret (v := .tuple #[.agg #[.int .i64 yn,.slice a4 yl.length k4],.int .u8 u,.int .i64 e3]) (by simp [results,Tryz.f53,go_sem,c0,c1]) rfl ⟨_,vs4,rfl,OwnS.mono (B:=w2.heap.size) (B':=w.heap.size) (OwnS.but h4.out hY (fun g e h=>by omega)) (by omega),ExtBut.ext ((hE0.trans hE2).trans hE4) hY (fun x h=>by omega)⟩
end Go.Proofs.YtnplphcnagooeaaGreatDoor
