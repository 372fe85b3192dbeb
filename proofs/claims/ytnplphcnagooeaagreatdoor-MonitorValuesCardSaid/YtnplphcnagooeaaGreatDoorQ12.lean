/- Several texts in one: MonM, StkE, StkF, StkG. -/
import Derived.Test.YtnplphcnagooeaaGreatDoorQ11
import Derived.Test.YtnplphcnagooeaaGreatDoorQ07
import Derived.Test.YtnplphcnagooeaaGreatDoorQ08
/- Contracts: monitor.Alloc. (printed by gen/mon35f.py) -/
namespace Go.Proofs.YtnplphcnagooeaaGreatDoor
set_option maxRecDepth 100000
open Go.RowKit
theorem allocM_bad {m : Mon} {size : Int} (h : okMon m=false) : allocM m size=(Mon.zero,Ptr.zero,8):=by simp [allocM,h]
theorem allocM_add {m : Mon} {size : Int} (h : okMon m=true) (he : (addR m.mem size).2.2≠0) : allocM m size=(Mon.zero,Ptr.zero,(addR m.mem size).2.2):=by rw [allocM,if_pos h,if_neg he]
theorem allocM_full {m : Mon} {size : Int} (h : okMon m=true) (he : (addR m.mem size).2.2=0) (ht : m.tag=1000000) : allocM m size=(Mon.zero,Ptr.zero,18):=by rw [allocM,if_pos h,if_pos he,if_pos ht]
theorem allocM_ok {m : Mon} {size : Int} (h : okMon m=true) (he : (addR m.mem size).2.2=0) (ht : ¬ m.tag=1000000) :
  allocM m size=(⟨(addR m.mem size).1,m.stks ++ [⟨(addR m.mem size).2.1,based size.toNat m.tag⟩],m.run,m.tag+1,m.call⟩,⟨(addR m.mem size).2.1,0,m.tag⟩,0):=by rw [allocM,if_pos h,if_pos he,if_neg ht]
theorem addR_zero {m x : Mem} {size n : Int} (hok : m.ok=true) (h : addR m size=(x,n,0)) : x=⟨m.al ++ [newAlloc m.next size.toNat],m.next+1⟩∧1≤size∧size≤2∧(0≤n∧n≤1000000)∧m.al.length < 400∧n=m.next∧m.next < 1000000:=by
 have hb:=ok_bounds hok
 by_cases h1 : size < 1∨2 < size
 ·rw [addR_arg hok h1] at h;simp at h
 by_cases h2 : m.al.length=400∨m.next=1000000
 ·rw [addR_full hok h1 h2] at h;simp at h
 rw [addR_yes hok h1 h2] at h
 simp only [Prod.mk.injEq,and_true] at h
 obtain ⟨rfl,rfl⟩:=h
 refine ⟨rfl,?_,?_,?_,?_,rfl,?_⟩ <;> omega
set_option maxRecDepth 100000 in
set_option maxHeartbeats 6400000 in
theorem monitor_Alloc {m : Mon} {sa ss sr : Value} {w : World} (size : Int) (hA : Als w sa m.mem.al) (hn : i64B m.mem.next) (hK : Kts w ss m.stks) (hR : Nts w sr m.run) :
  Calls Tryz.prog 28 #[.agg #[sa,.int .i64 m.mem.next,ss,sr,.int .i64 m.tag,.int .i64 m.call],.int .i64 size] w (RetF w (fun v => .tuple #[v,(allocM m size).2.1.val,.int .i64 (allocM m size).2.2]) (allocM m size).1):=by
 obtain ⟨aa,ac,rfl,hac,hacm,-⟩:=hA.form
 obtain ⟨ka,kc,rfl,hkc,hkcm,-⟩:=hK.form
 obtain ⟨ra,rc,rfl,hrc,hrcm,-⟩:=hR.form
 unfold maxLen at hacm hkcm hrcm
 have hE0 : Ext w (World.alloc (World.alloc (World.alloc w (.cells #[.slice aa m.mem.al.length ac,.int .i64 m.mem.next,.slice ka m.stks.length kc,.slice ra m.run.length rc,.int .i64 m.tag,.int .i64 m.call] 28)) (.cells #[.slice none 0 0,.int .i64 0,.slice none 0 0,.slice none 0 0,.int .i64 0,.int .i64 0] 28)) (.cells #[.int .i64 0,.int .i64 0,.int .i64 0] 30)):=by repeat (first | exact Ext.refl _ | refine Ext.alloc ?_ _)
 have bM : Box (World.alloc (World.alloc (World.alloc w (.cells #[.slice aa m.mem.al.length ac,.int .i64 m.mem.next,.slice ka m.stks.length kc,.slice ra m.run.length rc,.int .i64 m.tag,.int .i64 m.call] 28)) (.cells #[.slice none 0 0,.int .i64 0,.slice none 0 0,.slice none 0 0,.int .i64 0,.int .i64 0] 28)) (.cells #[.int .i64 0,.int .i64 0,.int .i64 0] 30)) (w.heap.size) 28 #[.slice aa m.mem.al.length ac,.int .i64 m.mem.next,.slice ka m.stks.length kc,.slice ra m.run.length rc,.int .i64 m.tag,.int .i64 m.call]:=(by
  have h:=Box.new w 28 #[.slice aa m.mem.al.length ac,.int .i64 m.mem.next,.slice ka m.stks.length kc,.slice ra m.run.length rc,.int .i64 m.tag,.int .i64 m.call]
  replace h:=Box.ext h ((Ext.refl _).alloc (.cells #[.slice none 0 0,.int .i64 0,.slice none 0 0,.slice none 0 0,.int .i64 0,.int .i64 0] 28))
  replace h:=Box.ext h ((Ext.refl _).alloc (.cells #[.int .i64 0,.int .i64 0,.int .i64 0] 30))
  exact h)
 have bR : Box (World.alloc (World.alloc (World.alloc w (.cells #[.slice aa m.mem.al.length ac,.int .i64 m.mem.next,.slice ka m.stks.length kc,.slice ra m.run.length rc,.int .i64 m.tag,.int .i64 m.call] 28)) (.cells #[.slice none 0 0,.int .i64 0,.slice none 0 0,.slice none 0 0,.int .i64 0,.int .i64 0] 28)) (.cells #[.int .i64 0,.int .i64 0,.int .i64 0] 30)) (w.heap.size+1) 28 #[.slice none 0 0,.int .i64 0,.slice none 0 0,.slice none 0 0,.int .i64 0,.int .i64 0]:=(by
  have h:=Box.new (World.alloc w (.cells #[.slice aa m.mem.al.length ac,.int .i64 m.mem.next,.slice ka m.stks.length kc,.slice ra m.run.length rc,.int .i64 m.tag,.int .i64 m.call] 28)) 28 #[.slice none 0 0,.int .i64 0,.slice none 0 0,.slice none 0 0,.int .i64 0,.int .i64 0]
  simp only [World.size_alloc] at h
  replace h:=Box.ext h ((Ext.refl _).alloc (.cells #[.int .i64 0,.int .i64 0,.int .i64 0] 30))
  exact h)
 have bP : Box (World.alloc (World.alloc (World.alloc w (.cells #[.slice aa m.mem.al.length ac,.int .i64 m.mem.next,.slice ka m.stks.length kc,.slice ra m.run.length rc,.int .i64 m.tag,.int .i64 m.call] 28)) (.cells #[.slice none 0 0,.int .i64 0,.slice none 0 0,.slice none 0 0,.int .i64 0,.int .i64 0] 28)) (.cells #[.int .i64 0,.int .i64 0,.int .i64 0] 30)) (w.heap.size+2) 30 #[.int .i64 0,.int .i64 0,.int .i64 0]:=(by
  have h:=Box.new (World.alloc (World.alloc w (.cells #[.slice aa m.mem.al.length ac,.int .i64 m.mem.next,.slice ka m.stks.length kc,.slice ra m.run.length rc,.int .i64 m.tag,.int .i64 m.call] 28)) (.cells #[.slice none 0 0,.int .i64 0,.slice none 0 0,.slice none 0 0,.int .i64 0,.int .i64 0] 28)) 30 #[.int .i64 0,.int .i64 0,.int .i64 0]
  simp only [World.size_alloc] at h
  exact h)
 obtain ⟨w0,hw0⟩ : ∃ z,(World.alloc (World.alloc (World.alloc w (.cells #[.slice aa m.mem.al.length ac,.int .i64 m.mem.next,.slice ka m.stks.length kc,.slice ra m.run.length rc,.int .i64 m.tag,.int .i64 m.call] 28)) (.cells #[.slice none 0 0,.int .i64 0,.slice none 0 0,.slice none 0 0,.int .i64 0,.int .i64 0] 28)) (.cells #[.int .i64 0,.int .i64 0,.int .i64 0] 30))=z:=⟨_,rfl⟩
 rw [hw0] at hE0 bM bR bP
 have hs0 : w0.heap.size=w.heap.size+3:=by rw [← hw0];simp
 replace hs0:=Lib.hid hs0
 replace hA:=Lib.hid hA
 replace hK:=Lib.hid hK
 replace hR:=Lib.hid hR
 replace hn:=Lib.hid hn
 cases hok : okMon m
 ·skip
  have hce:=Lib.hid (monErr_not hok)
  have hres:=Lib.hid (allocM_bad (size:=size) hok)
  clear hok
  go_enter Tryz.func28,Tryz.ntmps28
  obtain ⟨bM_0,bM_1,bM_2,bM_3,bM_4,bM_5,bM_l⟩:=bM.c6
  go_wp2_with fail
  clear bM_0 bM_1 bM_2 bM_3 bM_4 bM_5 bM_l
  refine (mon_Check' (hA.out.ext hE0) hn.out (hK.out.ext hE0) (hR.out.ext hE0)).mono ?_
  rintro e w1 ⟨rfl,hE1⟩
  replace bM:=bM.ext hE1
  replace bR:=bR.ext hE1
  replace bP:=bP.ext hE1
  have hF1:=Ext.trans hE0 hE1
  rw [hce.out]
  clear hw0
  obtain ⟨bM_0,bM_1,bM_2,bM_3,bM_4,bM_5,bM_l⟩:=bM.c6
  have bR_0 : World.cell? w1 ⟨w.heap.size+1,0,none⟩=some (.slice none 0 0):=bR.cell 0
  have bR_1 : World.cell? w1 ⟨w.heap.size+1,1,none⟩=some (.int .i64 0):=bR.cell 1
  have bR_2 : World.cell? w1 ⟨w.heap.size+1,2,none⟩=some (.slice none 0 0):=bR.cell 2
  have bR_3 : World.cell? w1 ⟨w.heap.size+1,3,none⟩=some (.slice none 0 0):=bR.cell 3
  have bR_4 : World.cell? w1 ⟨w.heap.size+1,4,none⟩=some (.int .i64 0):=bR.cell 4
  have bR_5 : World.cell? w1 ⟨w.heap.size+1,5,none⟩=some (.int .i64 0):=bR.cell 5
  have bR_f0 : World.frozen? w1 ⟨w.heap.size+1,0,none⟩=false:=bR.frozen 0
  have bR_f1 : World.frozen? w1 ⟨w.heap.size+1,1,none⟩=false:=bR.frozen 1
  have bR_f2 : World.frozen? w1 ⟨w.heap.size+1,2,none⟩=false:=bR.frozen 2
  have bR_f3 : World.frozen? w1 ⟨w.heap.size+1,3,none⟩=false:=bR.frozen 3
  have bR_f4 : World.frozen? w1 ⟨w.heap.size+1,4,none⟩=false:=bR.frozen 4
  have bR_f5 : World.frozen? w1 ⟨w.heap.size+1,5,none⟩=false:=bR.frozen 5
  have bR_l:=bR.lt
  have bP_0 : World.cell? w1 ⟨w.heap.size+2,0,none⟩=some (.int .i64 0):=bP.cell 0
  have bP_1 : World.cell? w1 ⟨w.heap.size+2,1,none⟩=some (.int .i64 0):=bP.cell 1
  have bP_2 : World.cell? w1 ⟨w.heap.size+2,2,none⟩=some (.int .i64 0):=bP.cell 2
  have bP_f0 : World.frozen? w1 ⟨w.heap.size+2,0,none⟩=false:=bP.frozen 0
  have bP_f1 : World.frozen? w1 ⟨w.heap.size+2,1,none⟩=false:=bP.frozen 1
  have bP_f2 : World.frozen? w1 ⟨w.heap.size+2,2,none⟩=false:=bP.frozen 2
  have bP_l:=bP.lt
  go_wp2
  rw [hres.out]
  have hXe : ExtBut (fun b=>w.heap.size≤b∧b < w.heap.size+3) w1 (World.setCell (World.setCell (World.setCell (World.setCell (World.setCell (World.setCell (World.setCell (World.setCell (World.setCell w1 ⟨w.heap.size+1,0,none⟩ (.slice none 0 0)) ⟨w.heap.size+1,1,none⟩ (.int .i64 0)) ⟨w.heap.size+1,2,none⟩ (.slice none 0 0)) ⟨w.heap.size+1,3,none⟩ (.slice none 0 0)) ⟨w.heap.size+1,4,none⟩ (.int .i64 0)) ⟨w.heap.size+1,5,none⟩ (.int .i64 0)) ⟨w.heap.size+2,0,none⟩ (.int .i64 0)) ⟨w.heap.size+2,1,none⟩ (.int .i64 0)) ⟨w.heap.size+2,2,none⟩ (.int .i64 0)):=by (repeat' with_reducible first | exact ExtBut.refl _ _ | refine ExtBut.dr ?_ | refine ExtBut.sc ?_ ?_ | fail) <;> dsimp only <;> omega
  refine bodyPost_ret (v := .tuple #[.agg #[.slice none 0 0,.int .i64 0,.slice none 0 0,.slice none 0 0,.int .i64 0,.int .i64 0],.agg #[.int .i64 0,.int .i64 0,.int .i64 0],.int .i64 8]) (by simp [results,Tryz.f28,go_sem,bR_0,bR_1,bR_2,bR_3,bR_4,bR_5,bP_0,bP_1,bP_2]) rfl ?_
  have hFe:=ExtBut.ext hF1 hXe (fun b h=>h.1)
  exact ⟨_,rfl,FrMon.zero _ _,hFe⟩
 have hMok:=MonOk.of hok
 have hce:=Lib.hid (monErr_of hok)
 have hcl:=Lib.hid hMok.small
 obtain ⟨⟨x,n,er⟩,har⟩ : ∃ z,addR m.mem size=z:=⟨_,rfl⟩
 by_cases he : er=0
 rotate_left
 ·skip
  have q1 : (er != 0)=true:=by simpa using he
  have hres:=Lib.hid (allocM_add hok (by rw [har];exact he) : allocM m size=_)
  rw [har] at hres
  have harh:=Lib.hid har
  clear hok hMok he har
  go_enter Tryz.func28,Tryz.ntmps28
  obtain ⟨bM_0,bM_1,bM_2,bM_3,bM_4,bM_5,bM_l⟩:=bM.c6
  go_wp2_with fail
  clear bM_0 bM_1 bM_2 bM_3 bM_4 bM_5 bM_l
  refine (mon_Check' (hA.out.ext hE0) hn.out (hK.out.ext hE0) (hR.out.ext hE0)).mono ?_
  rintro e w1 ⟨rfl,hE1⟩
  replace bM:=bM.ext hE1
  replace bR:=bR.ext hE1
  replace bP:=bP.ext hE1
  have hF1:=Ext.trans hE0 hE1
  rw [hce.out]
  clear hw0
  obtain ⟨bM_0,bM_1,bM_2,bM_3,bM_4,bM_5,bM_l⟩:=bM.c6
  go_wp2_with fail
  clear bM_0 bM_1 bM_2 bM_3 bM_4 bM_5 bM_l
  have hXas:=Lib.hid (by have:=bP.lt;omega : w.heap.size+3≤w1.heap.size)
  refine (allocs_Add size (hA.out.ext hF1) hn.out).mono ?_
  rintro e w2 ⟨v,rfl,fM,hE2⟩
  replace bM:=bM.ext hE2
  replace bR:=bR.ext hE2
  replace bP:=bP.ext hE2
  have hF2:=Ext.trans hF1 hE2
  rw [harh.out] at fM ⊢
  obtain ⟨sx,rfl,hx⟩:=FrM.fs fM
  clear fM
  have hv:=hx.read.form
  obtain ⟨xa,xc,rfl,-⟩:=hv
  dsimp only at hx ⊢
  replace hx:=Lib.hid hx
  have hXa:=Lib.hid (ExtBut.refl (fun b=>w.heap.size≤b∧b < w.heap.size+3) w2)
  obtain ⟨bM_0,bM_1,bM_2,bM_3,bM_4,bM_5,bM_l⟩:=bM.c6
  go_upto_region 6 with fail
  clear bM_0 bM_1 bM_2 bM_3 bM_4 bM_5 bM_l
  have szbQ:=Lib.hid (by have:=bP.lt;omega : w.heap.size+3≤w2.heap.size)
  have bQ:=Box.new w2 24 #[.slice xa x.al.length xc,.int .i64 x.next]
  have hzb0 : (World.alloc w2 (.cells #[.slice xa x.al.length xc,.int .i64 x.next] 24)).heap.size=w2.heap.size+1:=by rw [World.size_alloc]
  have hx3 : Ext w2 (World.alloc w2 (.cells #[.slice xa x.al.length xc,.int .i64 x.next] 24)):=(Ext.refl _).alloc _
  obtain ⟨w3b,hw3⟩ : ∃ z,World.alloc w2 (.cells #[.slice xa x.al.length xc,.int .i64 x.next] 24)=z:=⟨_,rfl⟩
  rw [hw3] at bQ hx3 hzb0 ⊢
  clear hw3
  replace bM:=bM.ext hx3
  replace bR:=bR.ext hx3
  replace bP:=bP.ext hx3
  replace hXa:=Lib.hid (ExtBut.trans hXa.out (ExtBut.of_ext hx3))
  have hF4:=Ext.trans hF2 hx3
  clear hzb0
  obtain ⟨bM_0,bM_1,bM_2,bM_3,bM_4,bM_5,bM_l⟩:=bM.c6
  have bR_0 : World.cell? w3b ⟨w.heap.size+1,0,none⟩=some (.slice none 0 0):=bR.cell 0
  have bR_1 : World.cell? w3b ⟨w.heap.size+1,1,none⟩=some (.int .i64 0):=bR.cell 1
  have bR_2 : World.cell? w3b ⟨w.heap.size+1,2,none⟩=some (.slice none 0 0):=bR.cell 2
  have bR_3 : World.cell? w3b ⟨w.heap.size+1,3,none⟩=some (.slice none 0 0):=bR.cell 3
  have bR_4 : World.cell? w3b ⟨w.heap.size+1,4,none⟩=some (.int .i64 0):=bR.cell 4
  have bR_5 : World.cell? w3b ⟨w.heap.size+1,5,none⟩=some (.int .i64 0):=bR.cell 5
  have bR_f0 : World.frozen? w3b ⟨w.heap.size+1,0,none⟩=false:=bR.frozen 0
  have bR_f1 : World.frozen? w3b ⟨w.heap.size+1,1,none⟩=false:=bR.frozen 1
  have bR_f2 : World.frozen? w3b ⟨w.heap.size+1,2,none⟩=false:=bR.frozen 2
  have bR_f3 : World.frozen? w3b ⟨w.heap.size+1,3,none⟩=false:=bR.frozen 3
  have bR_f4 : World.frozen? w3b ⟨w.heap.size+1,4,none⟩=false:=bR.frozen 4
  have bR_f5 : World.frozen? w3b ⟨w.heap.size+1,5,none⟩=false:=bR.frozen 5
  have bR_l:=bR.lt
  have bP_0 : World.cell? w3b ⟨w.heap.size+2,0,none⟩=some (.int .i64 0):=bP.cell 0
  have bP_1 : World.cell? w3b ⟨w.heap.size+2,1,none⟩=some (.int .i64 0):=bP.cell 1
  have bP_2 : World.cell? w3b ⟨w.heap.size+2,2,none⟩=some (.int .i64 0):=bP.cell 2
  have bP_f0 : World.frozen? w3b ⟨w.heap.size+2,0,none⟩=false:=bP.frozen 0
  have bP_f1 : World.frozen? w3b ⟨w.heap.size+2,1,none⟩=false:=bP.frozen 1
  have bP_f2 : World.frozen? w3b ⟨w.heap.size+2,2,none⟩=false:=bP.frozen 2
  have bP_l:=bP.lt
  go_wp2
  rw [hres.out]
  have hXe : ExtBut (fun b=>w.heap.size≤b∧b < w.heap.size+3) w3b (World.setCell (World.setCell (World.setCell (World.setCell (World.setCell (World.setCell (World.setCell (World.setCell (World.setCell w3b ⟨w.heap.size+1,0,none⟩ (.slice none 0 0)) ⟨w.heap.size+1,1,none⟩ (.int .i64 0)) ⟨w.heap.size+1,2,none⟩ (.slice none 0 0)) ⟨w.heap.size+1,3,none⟩ (.slice none 0 0)) ⟨w.heap.size+1,4,none⟩ (.int .i64 0)) ⟨w.heap.size+1,5,none⟩ (.int .i64 0)) ⟨w.heap.size+2,0,none⟩ (.int .i64 0)) ⟨w.heap.size+2,1,none⟩ (.int .i64 0)) ⟨w.heap.size+2,2,none⟩ (.int .i64 0)):=by (repeat' with_reducible first | exact ExtBut.refl _ _ | refine ExtBut.dr ?_ | refine ExtBut.sc ?_ ?_ | fail) <;> dsimp only <;> omega
  refine bodyPost_ret (v := .tuple #[.agg #[.slice none 0 0,.int .i64 0,.slice none 0 0,.slice none 0 0,.int .i64 0,.int .i64 0],.agg #[.int .i64 0,.int .i64 0,.int .i64 0],.int .i64 er]) (by simp [results,Tryz.f28,go_sem,bR_0,bR_1,bR_2,bR_3,bR_4,bR_5,bP_0,bP_1,bP_2]) rfl ?_
  have hFe:=ExtBut.ext hF4 hXe (fun b h=>h.1)
  have hXae:=ExtBut.trans hXa.out hXe
  exact ⟨_,rfl,FrMon.zero _ _,hFe⟩
 subst he
 have had:=addR_zero hMok.memOk har
 have harh:=Lib.hid har
 by_cases ht : m.tag=1000000
 ·skip
  have q2 : (m.tag == 1000000)=true:=by rw [ht];rfl
  have hres:=Lib.hid (allocM_full hok (by rw [har]) ht : allocM m size=_)
  clear hok hMok had har ht
  go_enter Tryz.func28,Tryz.ntmps28
  obtain ⟨bM_0,bM_1,bM_2,bM_3,bM_4,bM_5,bM_l⟩:=bM.c6
  go_wp2_with fail
  clear bM_0 bM_1 bM_2 bM_3 bM_4 bM_5 bM_l
  refine (mon_Check' (hA.out.ext hE0) hn.out (hK.out.ext hE0) (hR.out.ext hE0)).mono ?_
  rintro e w1 ⟨rfl,hE1⟩
  replace bM:=bM.ext hE1
  replace bR:=bR.ext hE1
  replace bP:=bP.ext hE1
  have hF1:=Ext.trans hE0 hE1
  rw [hce.out]
  clear hw0
  obtain ⟨bM_0,bM_1,bM_2,bM_3,bM_4,bM_5,bM_l⟩:=bM.c6
  go_wp2_with fail
  clear bM_0 bM_1 bM_2 bM_3 bM_4 bM_5 bM_l
  have hXas:=Lib.hid (by have:=bP.lt;omega : w.heap.size+3≤w1.heap.size)
  refine (allocs_Add size (hA.out.ext hF1) hn.out).mono ?_
  rintro e w2 ⟨v,rfl,fM,hE2⟩
  replace bM:=bM.ext hE2
  replace bR:=bR.ext hE2
  replace bP:=bP.ext hE2
  have hF2:=Ext.trans hF1 hE2
  rw [harh.out] at fM ⊢
  obtain ⟨sx,rfl,hx⟩:=FrM.fs fM
  clear fM
  have hv:=hx.read.form
  obtain ⟨xa,xc,rfl,-⟩:=hv
  dsimp only at hx ⊢
  replace hx:=Lib.hid hx
  have hXa:=Lib.hid (ExtBut.refl (fun b=>w.heap.size≤b∧b < w.heap.size+3) w2)
  obtain ⟨bM_0,bM_1,bM_2,bM_3,bM_4,bM_5,bM_l⟩:=bM.c6
  go_upto_region 8 with fail
  clear bM_0 bM_1 bM_2 bM_3 bM_4 bM_5 bM_l
  have szbQ:=Lib.hid (by have:=bP.lt;omega : w.heap.size+3≤w2.heap.size)
  have bQ:=Box.new w2 24 #[.slice xa x.al.length xc,.int .i64 x.next]
  have hzb0 : (World.alloc w2 (.cells #[.slice xa x.al.length xc,.int .i64 x.next] 24)).heap.size=w2.heap.size+1:=by rw [World.size_alloc]
  have hx3 : Ext w2 (World.alloc w2 (.cells #[.slice xa x.al.length xc,.int .i64 x.next] 24)):=(Ext.refl _).alloc _
  obtain ⟨w3b,hw3⟩ : ∃ z,World.alloc w2 (.cells #[.slice xa x.al.length xc,.int .i64 x.next] 24)=z:=⟨_,rfl⟩
  rw [hw3] at bQ hx3 hzb0 ⊢
  clear hw3
  replace bM:=bM.ext hx3
  replace bR:=bR.ext hx3
  replace bP:=bP.ext hx3
  replace hXa:=Lib.hid (ExtBut.trans hXa.out (ExtBut.of_ext hx3))
  have hF4:=Ext.trans hF2 hx3
  clear hzb0
  obtain ⟨bM_0,bM_1,bM_2,bM_3,bM_4,bM_5,bM_l⟩:=bM.c6
  have bR_0 : World.cell? w3b ⟨w.heap.size+1,0,none⟩=some (.slice none 0 0):=bR.cell 0
  have bR_1 : World.cell? w3b ⟨w.heap.size+1,1,none⟩=some (.int .i64 0):=bR.cell 1
  have bR_2 : World.cell? w3b ⟨w.heap.size+1,2,none⟩=some (.slice none 0 0):=bR.cell 2
  have bR_3 : World.cell? w3b ⟨w.heap.size+1,3,none⟩=some (.slice none 0 0):=bR.cell 3
  have bR_4 : World.cell? w3b ⟨w.heap.size+1,4,none⟩=some (.int .i64 0):=bR.cell 4
  have bR_5 : World.cell? w3b ⟨w.heap.size+1,5,none⟩=some (.int .i64 0):=bR.cell 5
  have bR_f0 : World.frozen? w3b ⟨w.heap.size+1,0,none⟩=false:=bR.frozen 0
  have bR_f1 : World.frozen? w3b ⟨w.heap.size+1,1,none⟩=false:=bR.frozen 1
  have bR_f2 : World.frozen? w3b ⟨w.heap.size+1,2,none⟩=false:=bR.frozen 2
  have bR_f3 : World.frozen? w3b ⟨w.heap.size+1,3,none⟩=false:=bR.frozen 3
  have bR_f4 : World.frozen? w3b ⟨w.heap.size+1,4,none⟩=false:=bR.frozen 4
  have bR_f5 : World.frozen? w3b ⟨w.heap.size+1,5,none⟩=false:=bR.frozen 5
  have bR_l:=bR.lt
  have bP_0 : World.cell? w3b ⟨w.heap.size+2,0,none⟩=some (.int .i64 0):=bP.cell 0
  have bP_1 : World.cell? w3b ⟨w.heap.size+2,1,none⟩=some (.int .i64 0):=bP.cell 1
  have bP_2 : World.cell? w3b ⟨w.heap.size+2,2,none⟩=some (.int .i64 0):=bP.cell 2
  have bP_f0 : World.frozen? w3b ⟨w.heap.size+2,0,none⟩=false:=bP.frozen 0
  have bP_f1 : World.frozen? w3b ⟨w.heap.size+2,1,none⟩=false:=bP.frozen 1
  have bP_f2 : World.frozen? w3b ⟨w.heap.size+2,2,none⟩=false:=bP.frozen 2
  have bP_l:=bP.lt
  go_wp2
  rw [hres.out]
  have hXe : ExtBut (fun b=>w.heap.size≤b∧b < w.heap.size+3) w3b (World.setCell (World.setCell (World.setCell (World.setCell (World.setCell (World.setCell (World.setCell (World.setCell (World.setCell w3b ⟨w.heap.size+1,0,none⟩ (.slice none 0 0)) ⟨w.heap.size+1,1,none⟩ (.int .i64 0)) ⟨w.heap.size+1,2,none⟩ (.slice none 0 0)) ⟨w.heap.size+1,3,none⟩ (.slice none 0 0)) ⟨w.heap.size+1,4,none⟩ (.int .i64 0)) ⟨w.heap.size+1,5,none⟩ (.int .i64 0)) ⟨w.heap.size+2,0,none⟩ (.int .i64 0)) ⟨w.heap.size+2,1,none⟩ (.int .i64 0)) ⟨w.heap.size+2,2,none⟩ (.int .i64 0)):=by (repeat' with_reducible first | exact ExtBut.refl _ _ | refine ExtBut.dr ?_ | refine ExtBut.sc ?_ ?_ | fail) <;> dsimp only <;> omega
  refine bodyPost_ret (v := .tuple #[.agg #[.slice none 0 0,.int .i64 0,.slice none 0 0,.slice none 0 0,.int .i64 0,.int .i64 0],.agg #[.int .i64 0,.int .i64 0,.int .i64 0],.int .i64 18]) (by simp [results,Tryz.f28,go_sem,bR_0,bR_1,bR_2,bR_3,bR_4,bR_5,bP_0,bP_1,bP_2]) rfl ?_
  have hFe:=ExtBut.ext hF4 hXe (fun b h=>h.1)
  have hXae:=ExtBut.trans hXa.out hXe
  exact ⟨_,rfl,FrMon.zero _ _,hFe⟩
 have q2 : (m.tag == 1000000)=false:=beq_eq_false_iff_ne.2 ht
 have hres:=allocM_ok hok (by rw [har]) ht (size:=size)
 rw [har] at hres
 have htb:=hMok.tag
 have w1 : IntKind.i64.wrap (m.tag+1)=m.tag+1:=IntWalk.i64_in _ (by omega)
 have hnb : Hid (0≤n∧n≤1000000):=Hid.mk had.2.2.2.1
 have hsb : Hid (1≤size∧size≤2):=Hid.mk ⟨had.2.1,had.2.2.1⟩
 have htB : Hid (inB m.tag=true):=Hid.mk (by simp [inB];omega)
 have hll:=Lib.hid (by rw [hMok.len];exact had.2.2.2.2.1 : m.stks.length < 400)
 obtain ⟨BS,hBS⟩ : ∃ z,based size.toNat m.tag=z:=⟨_,rfl⟩
 rw [hBS] at hres
 replace hres:=Lib.hid hres;replace hBS:=Lib.hid hBS
 clear hok hMok had har ht htb
 obtain ⟨ii,iz,hi,hz,hi3,hz3,hby⟩:=Stacks.infoE
 replace hi:=Lib.hid hi;replace hz:=Lib.hid hz;replace hi3:=Lib.hid hi3;replace hz3:=Lib.hid hz3;replace hby:=Lib.hid hby
 go_enter Tryz.func28,Tryz.ntmps28
 obtain ⟨bM_0,bM_1,bM_2,bM_3,bM_4,bM_5,bM_l⟩:=bM.c6
 go_wp2_with fail
 clear bM_0 bM_1 bM_2 bM_3 bM_4 bM_5 bM_l
 refine (mon_Check' (hA.out.ext hE0) hn.out (hK.out.ext hE0) (hR.out.ext hE0)).mono ?_
 rintro e w1 ⟨rfl,hE1⟩
 replace bM:=bM.ext hE1
 replace bR:=bR.ext hE1
 replace bP:=bP.ext hE1
 have hF1:=Ext.trans hE0 hE1
 rw [hce.out]
 clear hw0
 obtain ⟨bM_0,bM_1,bM_2,bM_3,bM_4,bM_5,bM_l⟩:=bM.c6
 go_wp2_with fail
 clear bM_0 bM_1 bM_2 bM_3 bM_4 bM_5 bM_l
 have hXas:=Lib.hid (by have:=bP.lt;omega : w.heap.size+3≤w1.heap.size)
 refine (allocs_Add size (hA.out.ext hF1) hn.out).mono ?_
 rintro e w2 ⟨v,rfl,fM,hE2⟩
 replace bM:=bM.ext hE2
 replace bR:=bR.ext hE2
 replace bP:=bP.ext hE2
 have hF2:=Ext.trans hF1 hE2
 rw [harh.out] at fM ⊢
 obtain ⟨sx,rfl,hx⟩:=FrM.fs fM
 clear fM
 have hv:=hx.read.form
 obtain ⟨xa,xc,rfl,-⟩:=hv
 dsimp only at hx ⊢
 replace hx:=Lib.hid hx
 have hXa:=Lib.hid (ExtBut.refl (fun b=>w.heap.size≤b∧b < w.heap.size+3) w2)
 obtain ⟨bM_0,bM_1,bM_2,bM_3,bM_4,bM_5,bM_l⟩:=bM.c6
 go_wp2_with fail
 clear bM_0 bM_1 bM_2 bM_3 bM_4 bM_5 bM_l
 have szbQ:=Lib.hid (by have:=bP.lt;omega : w.heap.size+3≤w2.heap.size)
 have bQ:=Box.new w2 24 #[.slice xa x.al.length xc,.int .i64 x.next]
 have hzb0 : (World.alloc w2 (.cells #[.slice xa x.al.length xc,.int .i64 x.next] 24)).heap.size=w2.heap.size+1:=by rw [World.size_alloc]
 have hx3 : Ext w2 (World.alloc w2 (.cells #[.slice xa x.al.length xc,.int .i64 x.next] 24)):=(Ext.refl _).alloc _
 obtain ⟨w3b,hw3⟩ : ∃ z,World.alloc w2 (.cells #[.slice xa x.al.length xc,.int .i64 x.next] 24)=z:=⟨_,rfl⟩
 rw [hw3] at bQ hx3 hzb0 ⊢
 clear hw3
 replace bM:=bM.ext hx3
 replace bR:=bR.ext hx3
 replace bP:=bP.ext hx3
 replace hXa:=Lib.hid (ExtBut.trans hXa.out (ExtBut.of_ext hx3))
 have hF4:=Ext.trans hF2 hx3
 clear hzb0
 have hXks:=Lib.hid (by have:=bP.lt;omega : w.heap.size+3≤w3b.heap.size)
 have hXa_hXk:=Lib.hid hXa.out.size
 refine (stacks_New_go n size m.tag _ hnb.out hsb.out htB.out).mono ?_
 rintro e w5 ⟨vk,us,rfl,hOk,hE5⟩
 replace bM:=bM.ext hE5
 replace bR:=bR.ext hE5
 replace bP:=bP.ext hE5
 replace bQ:=bQ.ext hE5
 replace hXa:=Lib.hid (ExtBut.trans hXa.out (ExtBut.of_ext hE5))
 have hF5:=Ext.trans hF4 hE5
 rw [hBS.out] at hOk
 have hk:=OwnS.fs hOk
 clear hOk
 have hv:=hk.read.form
 obtain ⟨ska,skc,rfl,-⟩:=hv
 dsimp only at hk ⊢
 replace hk:=Lib.hid hk
 have hXk:=Lib.hid (ExtBut.refl (fun b=>w.heap.size≤b∧b < w.heap.size+3) w5)
 have hKs:=Lib.hid (hE5.size)
 obtain ⟨bM_0,bM_1,bM_2,bM_3,bM_4,bM_5,bM_l⟩:=bM.c6
 go_wp2_with fail
 clear bM_0 bM_1 bM_2 bM_3 bM_4 bM_5 bM_l
 have szbX:=Lib.hid (by have:=bP.lt;omega : w.heap.size+3≤w5.heap.size)
 have bX:=Box.new w5 68 #[.int .i64 n,.slice ska BS.length skc]
 have hzb0 : (World.alloc w5 (.cells #[.int .i64 n,.slice ska BS.length skc] 68)).heap.size=w5.heap.size+1:=by rw [World.size_alloc]
 have hx6 : Ext w5 (World.alloc w5 (.cells #[.int .i64 n,.slice ska BS.length skc] 68)):=(Ext.refl _).alloc _
 obtain ⟨w6b,hw6⟩ : ∃ z,World.alloc w5 (.cells #[.int .i64 n,.slice ska BS.length skc] 68)=z:=⟨_,rfl⟩
 rw [hw6] at bX hx6 hzb0 ⊢
 clear hw6
 replace bM:=bM.ext hx6
 replace bR:=bR.ext hx6
 replace bP:=bP.ext hx6
 replace bQ:=bQ.ext hx6
 replace hXa:=Lib.hid (ExtBut.trans hXa.out (ExtBut.of_ext hx6))
 replace hXk:=Lib.hid (ExtBut.trans hXk.out (ExtBut.of_ext hx6))
 have hF7:=Ext.trans hF5 hx6
 have szbPp:=szbX
 have bPp:=Box.new w6b 30 #[.int .i64 n,.int .i64 0,.int .i64 m.tag]
 rw [hzb0] at bPp
 have hzb1 : (World.alloc w6b (.cells #[.int .i64 n,.int .i64 0,.int .i64 m.tag] 30)).heap.size=w5.heap.size+2:=by rw [World.size_alloc,hzb0]
 have hx8 : Ext w6b (World.alloc w6b (.cells #[.int .i64 n,.int .i64 0,.int .i64 m.tag] 30)):=(Ext.refl _).alloc _
 obtain ⟨w8b,hw8⟩ : ∃ z,World.alloc w6b (.cells #[.int .i64 n,.int .i64 0,.int .i64 m.tag] 30)=z:=⟨_,rfl⟩
 rw [hw8] at bPp hx8 hzb1 ⊢
 clear hw8 hzb0
 replace bM:=bM.ext hx8
 replace bR:=bR.ext hx8
 replace bP:=bP.ext hx8
 replace bQ:=bQ.ext hx8
 replace bX:=bX.ext hx8
 replace hXa:=Lib.hid (ExtBut.trans hXa.out (ExtBut.of_ext hx8))
 replace hXk:=Lib.hid (ExtBut.trans hXk.out (ExtBut.of_ext hx8))
 have hF9:=Ext.trans hF7 hx8
 clear hzb1
 have hPl:=Lib.hid bPp.lt
 have hXcs:=Lib.hid (by have:=bP.lt;omega : w.heap.size+3≤w8b.heap.size)
 have hXa_hXc:=Lib.hid hXa.out.size
 have hXk_hXc:=Lib.hid hXk.out.size
 refine (monitor_clone (hA.out.ext hF9) (hK.out.ext hF9) (hR.out.ext hF9) hcl.out.1 hcl.out.2.1 hcl.out.2.2).mono ?_
 rintro e w10 ⟨c,ca,ck,cr,vs,rfl,hC,hE10⟩
 replace bM:=bM.ext hE10
 replace bR:=bR.ext hE10
 replace bP:=bP.ext hE10
 replace bQ:=bQ.ext hE10
 replace bX:=bX.ext hE10
 replace bPp:=bPp.ext hE10
 replace hXa:=Lib.hid (ExtBut.trans hXa.out (ExtBut.of_ext hE10))
 replace hXk:=Lib.hid (ExtBut.trans hXk.out (ExtBut.of_ext hE10))
 have hF10:=Ext.trans hF9 hE10
 have hv:=hC.al.read.form
 obtain ⟨ca,cac,rfl,-⟩:=hv
 have hv:=hC.outer.sl.slice_form
 obtain ⟨ck,ckc,rfl,-⟩:=hv
 have hv:=hC.run.read.form
 obtain ⟨cr,crc,rfl,-⟩:=hv
 replace hC:=Lib.hid hC
 have hXc:=Lib.hid (ExtBut.refl (fun b=>w.heap.size≤b∧b < w.heap.size+3) w10)
 have bM_0 : World.cell? w10 ⟨w.heap.size,0,none⟩=some (.slice aa m.mem.al.length ac):=bM.cell 0
 have bM_1 : World.cell? w10 ⟨w.heap.size,1,none⟩=some (.int .i64 m.mem.next):=bM.cell 1
 have bM_2 : World.cell? w10 ⟨w.heap.size,2,none⟩=some (.slice ka m.stks.length kc):=bM.cell 2
 have bM_3 : World.cell? w10 ⟨w.heap.size,3,none⟩=some (.slice ra m.run.length rc):=bM.cell 3
 have bM_4 : World.cell? w10 ⟨w.heap.size,4,none⟩=some (.int .i64 m.tag):=bM.cell 4
 have bM_5 : World.cell? w10 ⟨w.heap.size,5,none⟩=some (.int .i64 m.call):=bM.cell 5
 have bM_f0 : World.frozen? w10 ⟨w.heap.size,0,none⟩=false:=bM.frozen 0
 have bM_f1 : World.frozen? w10 ⟨w.heap.size,1,none⟩=false:=bM.frozen 1
 have bM_f2 : World.frozen? w10 ⟨w.heap.size,2,none⟩=false:=bM.frozen 2
 have bM_f3 : World.frozen? w10 ⟨w.heap.size,3,none⟩=false:=bM.frozen 3
 have bM_f4 : World.frozen? w10 ⟨w.heap.size,4,none⟩=false:=bM.frozen 4
 have bM_f5 : World.frozen? w10 ⟨w.heap.size,5,none⟩=false:=bM.frozen 5
 have bM_l:=bM.lt
 go_upto_region 12 with fail
 clear bM_0 bM_1 bM_2 bM_3 bM_4 bM_5 bM_f0 bM_f1 bM_f2 bM_f3 bM_f4 bM_f5 bM_l
 have hS11 : ExtBut (fun b=>w.heap.size≤b∧b < w.heap.size+3) w10 (World.setCell (World.setCell (World.setCell (World.setCell (World.setCell (World.setCell w10 ⟨w.heap.size,0,none⟩ (.slice ca m.mem.al.length cac)) ⟨w.heap.size,1,none⟩ (.int .i64 m.mem.next)) ⟨w.heap.size,2,none⟩ (.slice ck m.stks.length ckc)) ⟨w.heap.size,3,none⟩ (.slice cr m.run.length crc)) ⟨w.heap.size,4,none⟩ (.int .i64 m.tag)) ⟨w.heap.size,5,none⟩ (.int .i64 m.call)):=by (repeat' with_reducible first | exact ExtBut.refl _ _ | refine ExtBut.dr ?_ | refine ExtBut.sc ?_ ?_ | fail) <;> dsimp only <;> omega
 replace bM:=(Box.setL (Box.setL (Box.setL (Box.setL (Box.setL (Box.setL bM 0 (.slice ca m.mem.al.length cac)) 1 (.int .i64 m.mem.next)) 2 (.slice ck m.stks.length ckc)) 3 (.slice cr m.run.length crc)) 4 (.int .i64 m.tag)) 5 (.int .i64 m.call))
 simp only [List.set_cons_zero,List.set_cons_succ] at bM
 replace bR:=(Box.other (Box.other (Box.other (Box.other (Box.other (Box.other bR (p:=⟨w.heap.size,0,none⟩) (by simp) (.slice ca m.mem.al.length cac)) (p:=⟨w.heap.size,1,none⟩) (by simp) (.int .i64 m.mem.next)) (p:=⟨w.heap.size,2,none⟩) (by simp) (.slice ck m.stks.length ckc)) (p:=⟨w.heap.size,3,none⟩) (by simp) (.slice cr m.run.length crc)) (p:=⟨w.heap.size,4,none⟩) (by simp) (.int .i64 m.tag)) (p:=⟨w.heap.size,5,none⟩) (by simp) (.int .i64 m.call))
 replace bP:=(Box.other (Box.other (Box.other (Box.other (Box.other (Box.other bP (p:=⟨w.heap.size,0,none⟩) (by simp) (.slice ca m.mem.al.length cac)) (p:=⟨w.heap.size,1,none⟩) (by simp) (.int .i64 m.mem.next)) (p:=⟨w.heap.size,2,none⟩) (by simp) (.slice ck m.stks.length ckc)) (p:=⟨w.heap.size,3,none⟩) (by simp) (.slice cr m.run.length crc)) (p:=⟨w.heap.size,4,none⟩) (by simp) (.int .i64 m.tag)) (p:=⟨w.heap.size,5,none⟩) (by simp) (.int .i64 m.call))
 replace bQ:=(Box.other (Box.other (Box.other (Box.other (Box.other (Box.other bQ (p:=⟨w.heap.size,0,none⟩) (by have:=szbQ.out;show w.heap.size≠w2.heap.size;omega) (.slice ca m.mem.al.length cac)) (p:=⟨w.heap.size,1,none⟩) (by have:=szbQ.out;show w.heap.size≠w2.heap.size;omega) (.int .i64 m.mem.next)) (p:=⟨w.heap.size,2,none⟩) (by have:=szbQ.out;show w.heap.size≠w2.heap.size;omega) (.slice ck m.stks.length ckc)) (p:=⟨w.heap.size,3,none⟩) (by have:=szbQ.out;show w.heap.size≠w2.heap.size;omega) (.slice cr m.run.length crc)) (p:=⟨w.heap.size,4,none⟩) (by have:=szbQ.out;show w.heap.size≠w2.heap.size;omega) (.int .i64 m.tag)) (p:=⟨w.heap.size,5,none⟩) (by have:=szbQ.out;show w.heap.size≠w2.heap.size;omega) (.int .i64 m.call))
 replace bX:=(Box.other (Box.other (Box.other (Box.other (Box.other (Box.other bX (p:=⟨w.heap.size,0,none⟩) (by have:=szbX.out;show w.heap.size≠w5.heap.size;omega) (.slice ca m.mem.al.length cac)) (p:=⟨w.heap.size,1,none⟩) (by have:=szbX.out;show w.heap.size≠w5.heap.size;omega) (.int .i64 m.mem.next)) (p:=⟨w.heap.size,2,none⟩) (by have:=szbX.out;show w.heap.size≠w5.heap.size;omega) (.slice ck m.stks.length ckc)) (p:=⟨w.heap.size,3,none⟩) (by have:=szbX.out;show w.heap.size≠w5.heap.size;omega) (.slice cr m.run.length crc)) (p:=⟨w.heap.size,4,none⟩) (by have:=szbX.out;show w.heap.size≠w5.heap.size;omega) (.int .i64 m.tag)) (p:=⟨w.heap.size,5,none⟩) (by have:=szbX.out;show w.heap.size≠w5.heap.size;omega) (.int .i64 m.call))
 replace bPp:=(Box.other (Box.other (Box.other (Box.other (Box.other (Box.other bPp (p:=⟨w.heap.size,0,none⟩) (by have:=szbPp.out;show w.heap.size≠w5.heap.size+1;omega) (.slice ca m.mem.al.length cac)) (p:=⟨w.heap.size,1,none⟩) (by have:=szbPp.out;show w.heap.size≠w5.heap.size+1;omega) (.int .i64 m.mem.next)) (p:=⟨w.heap.size,2,none⟩) (by have:=szbPp.out;show w.heap.size≠w5.heap.size+1;omega) (.slice ck m.stks.length ckc)) (p:=⟨w.heap.size,3,none⟩) (by have:=szbPp.out;show w.heap.size≠w5.heap.size+1;omega) (.slice cr m.run.length crc)) (p:=⟨w.heap.size,4,none⟩) (by have:=szbPp.out;show w.heap.size≠w5.heap.size+1;omega) (.int .i64 m.tag)) (p:=⟨w.heap.size,5,none⟩) (by have:=szbPp.out;show w.heap.size≠w5.heap.size+1;omega) (.int .i64 m.call))
 obtain ⟨w11s,hw11⟩ : ∃ z,(World.setCell (World.setCell (World.setCell (World.setCell (World.setCell (World.setCell w10 ⟨w.heap.size,0,none⟩ (.slice ca m.mem.al.length cac)) ⟨w.heap.size,1,none⟩ (.int .i64 m.mem.next)) ⟨w.heap.size,2,none⟩ (.slice ck m.stks.length ckc)) ⟨w.heap.size,3,none⟩ (.slice cr m.run.length crc)) ⟨w.heap.size,4,none⟩ (.int .i64 m.tag)) ⟨w.heap.size,5,none⟩ (.int .i64 m.call))=z:=⟨_,rfl⟩
 rw [hw11] at hS11 bM bR bP bQ bX bPp ⊢
 clear hw11
 have hF11:=ExtBut.ext hF10 hS11 (fun b h=>h.1)
 replace hXa:=Lib.hid (ExtBut.trans hXa.out hS11)
 replace hXk:=Lib.hid (ExtBut.trans hXk.out hS11)
 replace hXc:=Lib.hid (ExtBut.trans hXc.out hS11)
 clear hS11
 have bM_0 : World.cell? w11s ⟨w.heap.size,0,none⟩=some (.slice ca m.mem.al.length cac):=bM.cell 0
 have bM_1 : World.cell? w11s ⟨w.heap.size,1,none⟩=some (.int .i64 m.mem.next):=bM.cell 1
 have bM_2 : World.cell? w11s ⟨w.heap.size,2,none⟩=some (.slice ck m.stks.length ckc):=bM.cell 2
 have bM_3 : World.cell? w11s ⟨w.heap.size,3,none⟩=some (.slice cr m.run.length crc):=bM.cell 3
 have bM_4 : World.cell? w11s ⟨w.heap.size,4,none⟩=some (.int .i64 m.tag):=bM.cell 4
 have bM_5 : World.cell? w11s ⟨w.heap.size,5,none⟩=some (.int .i64 m.call):=bM.cell 5
 have bM_f0 : World.frozen? w11s ⟨w.heap.size,0,none⟩=false:=bM.frozen 0
 have bM_f1 : World.frozen? w11s ⟨w.heap.size,1,none⟩=false:=bM.frozen 1
 have bM_f2 : World.frozen? w11s ⟨w.heap.size,2,none⟩=false:=bM.frozen 2
 have bM_f3 : World.frozen? w11s ⟨w.heap.size,3,none⟩=false:=bM.frozen 3
 have bM_f4 : World.frozen? w11s ⟨w.heap.size,4,none⟩=false:=bM.frozen 4
 have bM_f5 : World.frozen? w11s ⟨w.heap.size,5,none⟩=false:=bM.frozen 5
 have bM_l:=bM.lt
 obtain ⟨bQ_0,bQ_1,bQ_l⟩:=bQ.c2
 go_upto_region 13 with fail
 clear bM_0 bM_1 bM_2 bM_3 bM_4 bM_5 bM_f0 bM_f1 bM_f2 bM_f3 bM_f4 bM_f5 bM_l bQ_0 bQ_1 bQ_l
 have hS12 : ExtBut (fun b=>w.heap.size≤b∧b < w.heap.size+3) w11s (World.setCell (World.setCell w11s ⟨w.heap.size,0,none⟩ (.slice xa x.al.length xc)) ⟨w.heap.size,1,none⟩ (.int .i64 x.next)):=by (repeat' with_reducible first | exact ExtBut.refl _ _ | refine ExtBut.dr ?_ | refine ExtBut.sc ?_ ?_ | fail) <;> dsimp only <;> omega
 replace bM:=(Box.setL (Box.setL bM 0 (.slice xa x.al.length xc)) 1 (.int .i64 x.next))
 simp only [List.set_cons_zero,List.set_cons_succ] at bM
 replace bR:=(Box.other (Box.other bR (p:=⟨w.heap.size,0,none⟩) (by simp) (.slice xa x.al.length xc)) (p:=⟨w.heap.size,1,none⟩) (by simp) (.int .i64 x.next))
 replace bP:=(Box.other (Box.other bP (p:=⟨w.heap.size,0,none⟩) (by simp) (.slice xa x.al.length xc)) (p:=⟨w.heap.size,1,none⟩) (by simp) (.int .i64 x.next))
 replace bQ:=(Box.other (Box.other bQ (p:=⟨w.heap.size,0,none⟩) (by have:=szbQ.out;show w.heap.size≠w2.heap.size;omega) (.slice xa x.al.length xc)) (p:=⟨w.heap.size,1,none⟩) (by have:=szbQ.out;show w.heap.size≠w2.heap.size;omega) (.int .i64 x.next))
 replace bX:=(Box.other (Box.other bX (p:=⟨w.heap.size,0,none⟩) (by have:=szbX.out;show w.heap.size≠w5.heap.size;omega) (.slice xa x.al.length xc)) (p:=⟨w.heap.size,1,none⟩) (by have:=szbX.out;show w.heap.size≠w5.heap.size;omega) (.int .i64 x.next))
 replace bPp:=(Box.other (Box.other bPp (p:=⟨w.heap.size,0,none⟩) (by have:=szbPp.out;show w.heap.size≠w5.heap.size+1;omega) (.slice xa x.al.length xc)) (p:=⟨w.heap.size,1,none⟩) (by have:=szbPp.out;show w.heap.size≠w5.heap.size+1;omega) (.int .i64 x.next))
 obtain ⟨w12s,hw12⟩ : ∃ z,(World.setCell (World.setCell w11s ⟨w.heap.size,0,none⟩ (.slice xa x.al.length xc)) ⟨w.heap.size,1,none⟩ (.int .i64 x.next))=z:=⟨_,rfl⟩
 rw [hw12] at hS12 bM bR bP bQ bX bPp ⊢
 clear hw12
 have hF12:=ExtBut.ext hF11 hS12 (fun b h=>h.1)
 replace hXa:=Lib.hid (ExtBut.trans hXa.out hS12)
 replace hXk:=Lib.hid (ExtBut.trans hXk.out hS12)
 replace hXc:=Lib.hid (ExtBut.trans hXc.out hS12)
 clear hS12
 have hOK : OwnK w12s w3b.heap.size (.slice ck m.stks.length ckc) vs m.stks:=OwnK.mono (OwnK.but (Cloned.own hC.out) hXc.out (fun b h1 h2=>by have:=hXcs.out;omega)) (by have h1:=hXk_hXc.out;have h2:=hKs.out;omega)
 have hRun : Fq (fun b=>w.heap.size+3≤b∧(Value.slice ck m.stks.length ckc).ownBlock≠some b) w12s (fun w=>Nts w (.slice cr m.run.length crc) m.run):=hC.out.run.to hXc.out (fun b h1 _ h2=>by have:=hXcs.out;omega) (fun b h1 _=>⟨by have:=hXcs.out;omega,fun e=>by have:=hC.out.out0 b e;omega⟩)
 have hMem : Fq (fun b=>w.heap.size+3≤b∧(Value.slice ck m.stks.length ckc).ownBlock≠some b) w12s (fun w=>Als w (.slice xa x.al.length xc) x.al):=hx.out.to hXa.out (fun b h1 _ h2=>by have:=hXas.out;omega) (fun b h1 h2=>⟨by have:=hXas.out;omega,fun e=>by have h3:=(hC.out.outer.lt e).1;have h4:=hXa_hXc.out;omega⟩)
 have hStk : Fq (fun b=>w3b.heap.size≤b∧(Value.slice ck m.stks.length ckc).ownBlock≠some b) w12s (fun w=>Sts w (.slice ska BS.length skc) BS):=hk.out.to hXk.out (fun b h1 _ h2=>by have:=hXks.out;omega) (fun b h1 h2=>⟨h1,fun e=>by have h3:=(hC.out.outer.lt e).1;have h4:=hXk_hXc.out;omega⟩)
 replace hOK:=Lib.hid hOK;replace hRun:=Lib.hid hRun;replace hMem:=Lib.hid hMem;replace hStk:=Lib.hid hStk
 have hB : Hid (w3b.heap.size≤w12s.heap.size):=Hid.mk (by have h1:=hXk.out.size;have h2:=hKs.out;omega)
 have bM_0 : World.cell? w12s ⟨w.heap.size,0,none⟩=some (.slice xa x.al.length xc):=bM.cell 0
 have bM_1 : World.cell? w12s ⟨w.heap.size,1,none⟩=some (.int .i64 x.next):=bM.cell 1
 have bM_2 : World.cell? w12s ⟨w.heap.size,2,none⟩=some (.slice ck m.stks.length ckc):=bM.cell 2
 have bM_3 : World.cell? w12s ⟨w.heap.size,3,none⟩=some (.slice cr m.run.length crc):=bM.cell 3
 have bM_4 : World.cell? w12s ⟨w.heap.size,4,none⟩=some (.int .i64 m.tag):=bM.cell 4
 have bM_5 : World.cell? w12s ⟨w.heap.size,5,none⟩=some (.int .i64 m.call):=bM.cell 5
 have bM_f0 : World.frozen? w12s ⟨w.heap.size,0,none⟩=false:=bM.frozen 0
 have bM_f1 : World.frozen? w12s ⟨w.heap.size,1,none⟩=false:=bM.frozen 1
 have bM_f2 : World.frozen? w12s ⟨w.heap.size,2,none⟩=false:=bM.frozen 2
 have bM_f3 : World.frozen? w12s ⟨w.heap.size,3,none⟩=false:=bM.frozen 3
 have bM_f4 : World.frozen? w12s ⟨w.heap.size,4,none⟩=false:=bM.frozen 4
 have bM_f5 : World.frozen? w12s ⟨w.heap.size,5,none⟩=false:=bM.frozen 5
 have bM_l:=bM.lt
 obtain ⟨bX_0,bX_1,bX_l⟩:=bX.c2
 go_wp2_with (at_builtin;refine Hid.out ?_)
 clear bM_0 bM_1 bM_2 bM_3 bM_4 bM_5 bM_f0 bM_f1 bM_f2 bM_f3 bM_f4 bM_f5 bM_l bX_0 bX_1 bX_l
 refine Hid.mk ?_
 have hEx : Ext w12s (World.alloc w12s (.cells #[.int .i64 n,.slice ska BS.length skc] 68)):=(Ext.refl _).alloc _
 have hlit : Sl (World.alloc w12s (.cells #[.int .i64 n,.slice ska BS.length skc] 68)) 2 (.slice (some ⟨w12s.heap.size,0,none⟩) 1 1) 1 (krow (.slice ska BS.length skc) ⟨n,BS⟩):=(Own.lit' (B:=0) (e:=68) (k:=2) w12s #[.int .i64 n,.slice ska BS.length skc] 1 (Nat.zero_le _) (by simp [maxLen]) rfl).sl
 refine wpList_append_any rfl _ _ 25 25 rfl rfl rfl Tryz.underlying25 Tryz.underlying25 hi.out hz.out hi3.out hz3.out (hOK.out.ext hEx).outer hlit (by simp [krow,Value.oneCell']) (by have:=hll.out;simp [maxLen];omega) (by rw [hby.out];have:=hll.out;omega) (Nat.le_trans hB.out hEx.size) ?_
 intro v' wap hO' hK' hb' _
 have hv:=hO'.sl.slice_form
 obtain ⟨va,vc,rfl,-⟩:=hv
 have hP:=OwnK.push (x:=⟨n,BS⟩) (hOK.out.ext hEx) (Fq.ext hStk.out hEx) hO' hK' hb'
 have hRun2:=Fq.keeps (Fq.ext hRun.out hEx) hK' hb'
 have hMem2:=Fq.keeps (Fq.ext hMem.out hEx) hK' hb'
 have hSk:=ExtBut.of_keeps hK'
 have hown : ∀ b,(Value.slice ck m.stks.length ckc).ownBlock=some b→w8b.heap.size≤b:=fun b e=>(hC.out.outer.lt e).1
 replace bM:=Box.but (Box.ext bM hEx) hSk (fun h=>by have h1:=hown _ h;have h2:=hXcs.out;omega)
 replace bR:=Box.but (Box.ext bR hEx) hSk (fun h=>by have h1:=hown _ h;have h2:=hXcs.out;omega)
 replace bP:=Box.but (Box.ext bP hEx) hSk (fun h=>by have h1:=hown _ h;have h2:=hXcs.out;omega)
 replace bPp:=Box.but (Box.ext bPp hEx) hSk (fun h=>by have h1:=hown _ h;have h2:=hPl.out;omega)
 have hFap:=ExtBut.ext (Ext.trans hF12 hEx) hSk (fun b h=>by have h1:=hown b h;have h2:=hXcs.out;omega)
 replace hP:=Lib.hid hP;replace hRun2:=Lib.hid hRun2;replace hMem2:=Lib.hid hMem2
 clear hO' hK' hb' hSk hown hlit hEx hOK hRun hMem hStk bQ bX hXa hXk hXc
 have hXz:=Lib.hid (ExtBut.refl (fun b=>w.heap.size≤b∧b < w.heap.size+3) wap)
 have bM_0 : World.cell? wap ⟨w.heap.size,0,none⟩=some (.slice xa x.al.length xc):=bM.cell 0
 have bM_1 : World.cell? wap ⟨w.heap.size,1,none⟩=some (.int .i64 x.next):=bM.cell 1
 have bM_2 : World.cell? wap ⟨w.heap.size,2,none⟩=some (.slice ck m.stks.length ckc):=bM.cell 2
 have bM_3 : World.cell? wap ⟨w.heap.size,3,none⟩=some (.slice cr m.run.length crc):=bM.cell 3
 have bM_4 : World.cell? wap ⟨w.heap.size,4,none⟩=some (.int .i64 m.tag):=bM.cell 4
 have bM_5 : World.cell? wap ⟨w.heap.size,5,none⟩=some (.int .i64 m.call):=bM.cell 5
 have bM_f0 : World.frozen? wap ⟨w.heap.size,0,none⟩=false:=bM.frozen 0
 have bM_f1 : World.frozen? wap ⟨w.heap.size,1,none⟩=false:=bM.frozen 1
 have bM_f2 : World.frozen? wap ⟨w.heap.size,2,none⟩=false:=bM.frozen 2
 have bM_f3 : World.frozen? wap ⟨w.heap.size,3,none⟩=false:=bM.frozen 3
 have bM_f4 : World.frozen? wap ⟨w.heap.size,4,none⟩=false:=bM.frozen 4
 have bM_f5 : World.frozen? wap ⟨w.heap.size,5,none⟩=false:=bM.frozen 5
 have bM_l:=bM.lt
 go_upto_region 14 with fail
 clear bM_0 bM_1 bM_2 bM_3 bM_4 bM_5 bM_f0 bM_f1 bM_f2 bM_f3 bM_f4 bM_f5 bM_l
 have hS13 : ExtBut (fun b=>w.heap.size≤b∧b < w.heap.size+3) wap (World.setCell wap ⟨w.heap.size,2,none⟩ (.slice va (m.stks.length+1) vc)):=((ExtBut.setCell wap ⟨w.heap.size,2,none⟩ (.slice va (m.stks.length+1) vc)).mono (S':=(fun b=>w.heap.size≤b∧b < w.heap.size+3)) (fun b _ h=>by have h' : b=w.heap.size:=h;omega))
 replace bM:=(Box.setL bM 2 (.slice va (m.stks.length+1) vc))
 simp only [List.set_cons_zero,List.set_cons_succ] at bM
 replace bR:=(Box.other bR (p:=⟨w.heap.size,2,none⟩) (by simp) (.slice va (m.stks.length+1) vc))
 replace bP:=(Box.other bP (p:=⟨w.heap.size,2,none⟩) (by simp) (.slice va (m.stks.length+1) vc))
 replace bPp:=(Box.other bPp (p:=⟨w.heap.size,2,none⟩) (by have:=szbPp.out;show w.heap.size≠w5.heap.size+1;omega) (.slice va (m.stks.length+1) vc))
 obtain ⟨w13s,hw13⟩ : ∃ z,(World.setCell wap ⟨w.heap.size,2,none⟩ (.slice va (m.stks.length+1) vc))=z:=⟨_,rfl⟩
 rw [hw13] at hS13 bM bR bP bPp ⊢
 clear hw13
 have hF13:=ExtBut.ext hFap hS13 (fun b h=>h.1)
 replace hXz:=Lib.hid (ExtBut.trans hXz.out hS13)
 clear hS13
 have bM_0 : World.cell? w13s ⟨w.heap.size,0,none⟩=some (.slice xa x.al.length xc):=bM.cell 0
 have bM_1 : World.cell? w13s ⟨w.heap.size,1,none⟩=some (.int .i64 x.next):=bM.cell 1
 have bM_2 : World.cell? w13s ⟨w.heap.size,2,none⟩=some (.slice va (m.stks.length+1) vc):=bM.cell 2
 have bM_3 : World.cell? w13s ⟨w.heap.size,3,none⟩=some (.slice cr m.run.length crc):=bM.cell 3
 have bM_4 : World.cell? w13s ⟨w.heap.size,4,none⟩=some (.int .i64 m.tag):=bM.cell 4
 have bM_5 : World.cell? w13s ⟨w.heap.size,5,none⟩=some (.int .i64 m.call):=bM.cell 5
 have bM_f0 : World.frozen? w13s ⟨w.heap.size,0,none⟩=false:=bM.frozen 0
 have bM_f1 : World.frozen? w13s ⟨w.heap.size,1,none⟩=false:=bM.frozen 1
 have bM_f2 : World.frozen? w13s ⟨w.heap.size,2,none⟩=false:=bM.frozen 2
 have bM_f3 : World.frozen? w13s ⟨w.heap.size,3,none⟩=false:=bM.frozen 3
 have bM_f4 : World.frozen? w13s ⟨w.heap.size,4,none⟩=false:=bM.frozen 4
 have bM_f5 : World.frozen? w13s ⟨w.heap.size,5,none⟩=false:=bM.frozen 5
 have bM_l:=bM.lt
 go_upto_region 15 with fail
 clear bM_0 bM_1 bM_2 bM_3 bM_4 bM_5 bM_f0 bM_f1 bM_f2 bM_f3 bM_f4 bM_f5 bM_l
 have hS14 : ExtBut (fun b=>w.heap.size≤b∧b < w.heap.size+3) w13s (World.setCell w13s ⟨w.heap.size,4,none⟩ (.int .i64 (m.tag+1))):=((ExtBut.setCell w13s ⟨w.heap.size,4,none⟩ (.int .i64 (m.tag+1))).mono (S':=(fun b=>w.heap.size≤b∧b < w.heap.size+3)) (fun b _ h=>by have h' : b=w.heap.size:=h;omega))
 replace bM:=(Box.setL bM 4 (.int .i64 (m.tag+1)))
 simp only [List.set_cons_zero,List.set_cons_succ] at bM
 replace bR:=(Box.other bR (p:=⟨w.heap.size,4,none⟩) (by simp) (.int .i64 (m.tag+1)))
 replace bP:=(Box.other bP (p:=⟨w.heap.size,4,none⟩) (by simp) (.int .i64 (m.tag+1)))
 replace bPp:=(Box.other bPp (p:=⟨w.heap.size,4,none⟩) (by have:=szbPp.out;show w.heap.size≠w5.heap.size+1;omega) (.int .i64 (m.tag+1)))
 obtain ⟨w14s,hw14⟩ : ∃ z,(World.setCell w13s ⟨w.heap.size,4,none⟩ (.int .i64 (m.tag+1)))=z:=⟨_,rfl⟩
 rw [hw14] at hS14 bM bR bP bPp ⊢
 clear hw14
 have hF14:=ExtBut.ext hF13 hS14 (fun b h=>h.1)
 replace hXz:=Lib.hid (ExtBut.trans hXz.out hS14)
 clear hS14
 obtain ⟨bM_0,bM_1,bM_2,bM_3,bM_4,bM_5,bM_l⟩:=bM.c6
 have bR_0 : World.cell? w14s ⟨w.heap.size+1,0,none⟩=some (.slice none 0 0):=bR.cell 0
 have bR_1 : World.cell? w14s ⟨w.heap.size+1,1,none⟩=some (.int .i64 0):=bR.cell 1
 have bR_2 : World.cell? w14s ⟨w.heap.size+1,2,none⟩=some (.slice none 0 0):=bR.cell 2
 have bR_3 : World.cell? w14s ⟨w.heap.size+1,3,none⟩=some (.slice none 0 0):=bR.cell 3
 have bR_4 : World.cell? w14s ⟨w.heap.size+1,4,none⟩=some (.int .i64 0):=bR.cell 4
 have bR_5 : World.cell? w14s ⟨w.heap.size+1,5,none⟩=some (.int .i64 0):=bR.cell 5
 have bR_f0 : World.frozen? w14s ⟨w.heap.size+1,0,none⟩=false:=bR.frozen 0
 have bR_f1 : World.frozen? w14s ⟨w.heap.size+1,1,none⟩=false:=bR.frozen 1
 have bR_f2 : World.frozen? w14s ⟨w.heap.size+1,2,none⟩=false:=bR.frozen 2
 have bR_f3 : World.frozen? w14s ⟨w.heap.size+1,3,none⟩=false:=bR.frozen 3
 have bR_f4 : World.frozen? w14s ⟨w.heap.size+1,4,none⟩=false:=bR.frozen 4
 have bR_f5 : World.frozen? w14s ⟨w.heap.size+1,5,none⟩=false:=bR.frozen 5
 have bR_l:=bR.lt
 have bP_0 : World.cell? w14s ⟨w.heap.size+2,0,none⟩=some (.int .i64 0):=bP.cell 0
 have bP_1 : World.cell? w14s ⟨w.heap.size+2,1,none⟩=some (.int .i64 0):=bP.cell 1
 have bP_2 : World.cell? w14s ⟨w.heap.size+2,2,none⟩=some (.int .i64 0):=bP.cell 2
 have bP_f0 : World.frozen? w14s ⟨w.heap.size+2,0,none⟩=false:=bP.frozen 0
 have bP_f1 : World.frozen? w14s ⟨w.heap.size+2,1,none⟩=false:=bP.frozen 1
 have bP_f2 : World.frozen? w14s ⟨w.heap.size+2,2,none⟩=false:=bP.frozen 2
 have bP_l:=bP.lt
 obtain ⟨bPp_0,bPp_1,bPp_2,bPp_l⟩:=bPp.c3
 have ne1 : w.heap.size+1≠w5.heap.size+1:=by have:=szbPp.out;omega
 have en1 : w5.heap.size+1≠w.heap.size+1:=by have:=szbPp.out;omega
 have ne2 : w.heap.size+2≠w5.heap.size+1:=by have:=szbPp.out;omega
 have en2 : w5.heap.size+1≠w.heap.size+2:=by have:=szbPp.out;omega
 go_region
 go_wp2
 rw [hres.out]
 have hXe : ExtBut (fun b=>w.heap.size≤b∧b < w.heap.size+3) w14s (World.drew (World.setCell (World.setCell (World.setCell (World.setCell (World.setCell (World.setCell (World.setCell (World.setCell (World.setCell w14s ⟨w.heap.size+1,0,none⟩ (.slice xa x.al.length xc)) ⟨w.heap.size+1,1,none⟩ (.int .i64 x.next)) ⟨w.heap.size+1,2,none⟩ (.slice va (m.stks.length+1) vc)) ⟨w.heap.size+1,3,none⟩ (.slice cr m.run.length crc)) ⟨w.heap.size+1,4,none⟩ (.int .i64 (m.tag+1))) ⟨w.heap.size+1,5,none⟩ (.int .i64 m.call)) ⟨w.heap.size+2,0,none⟩ (.int .i64 n)) ⟨w.heap.size+2,1,none⟩ (.int .i64 0)) ⟨w.heap.size+2,2,none⟩ (.int .i64 m.tag))):=(ExtBut.trans (ExtBut.trans (ExtBut.trans (ExtBut.trans (ExtBut.trans (ExtBut.trans (ExtBut.trans (ExtBut.trans (ExtBut.trans ((ExtBut.setCell w14s ⟨w.heap.size+1,0,none⟩ (.slice xa x.al.length xc)).mono (S':=(fun b=>w.heap.size≤b∧b < w.heap.size+3)) (fun b _ h=>by have h' : b=w.heap.size+1:=h;omega)) ((ExtBut.setCell (World.setCell w14s ⟨w.heap.size+1,0,none⟩ (.slice xa x.al.length xc)) ⟨w.heap.size+1,1,none⟩ (.int .i64 x.next)).mono (S':=(fun b=>w.heap.size≤b∧b < w.heap.size+3)) (fun b _ h=>by have h' : b=w.heap.size+1:=h;omega))) ((ExtBut.setCell (World.setCell (World.setCell w14s ⟨w.heap.size+1,0,none⟩ (.slice xa x.al.length xc)) ⟨w.heap.size+1,1,none⟩ (.int .i64 x.next)) ⟨w.heap.size+1,2,none⟩ (.slice va (m.stks.length+1) vc)).mono (S':=(fun b=>w.heap.size≤b∧b < w.heap.size+3)) (fun b _ h=>by have h' : b=w.heap.size+1:=h;omega))) ((ExtBut.setCell (World.setCell (World.setCell (World.setCell w14s ⟨w.heap.size+1,0,none⟩ (.slice xa x.al.length xc)) ⟨w.heap.size+1,1,none⟩ (.int .i64 x.next)) ⟨w.heap.size+1,2,none⟩ (.slice va (m.stks.length+1) vc)) ⟨w.heap.size+1,3,none⟩ (.slice cr m.run.length crc)).mono (S':=(fun b=>w.heap.size≤b∧b < w.heap.size+3)) (fun b _ h=>by have h' : b=w.heap.size+1:=h;omega))) ((ExtBut.setCell (World.setCell (World.setCell (World.setCell (World.setCell w14s ⟨w.heap.size+1,0,none⟩ (.slice xa x.al.length xc)) ⟨w.heap.size+1,1,none⟩ (.int .i64 x.next)) ⟨w.heap.size+1,2,none⟩ (.slice va (m.stks.length+1) vc)) ⟨w.heap.size+1,3,none⟩ (.slice cr m.run.length crc)) ⟨w.heap.size+1,4,none⟩ (.int .i64 (m.tag+1))).mono (S':=(fun b=>w.heap.size≤b∧b < w.heap.size+3)) (fun b _ h=>by have h' : b=w.heap.size+1:=h;omega))) ((ExtBut.setCell (World.setCell (World.setCell (World.setCell (World.setCell (World.setCell w14s ⟨w.heap.size+1,0,none⟩ (.slice xa x.al.length xc)) ⟨w.heap.size+1,1,none⟩ (.int .i64 x.next)) ⟨w.heap.size+1,2,none⟩ (.slice va (m.stks.length+1) vc)) ⟨w.heap.size+1,3,none⟩ (.slice cr m.run.length crc)) ⟨w.heap.size+1,4,none⟩ (.int .i64 (m.tag+1))) ⟨w.heap.size+1,5,none⟩ (.int .i64 m.call)).mono (S':=(fun b=>w.heap.size≤b∧b < w.heap.size+3)) (fun b _ h=>by have h' : b=w.heap.size+1:=h;omega))) ((ExtBut.setCell (World.setCell (World.setCell (World.setCell (World.setCell (World.setCell (World.setCell w14s ⟨w.heap.size+1,0,none⟩ (.slice xa x.al.length xc)) ⟨w.heap.size+1,1,none⟩ (.int .i64 x.next)) ⟨w.heap.size+1,2,none⟩ (.slice va (m.stks.length+1) vc)) ⟨w.heap.size+1,3,none⟩ (.slice cr m.run.length crc)) ⟨w.heap.size+1,4,none⟩ (.int .i64 (m.tag+1))) ⟨w.heap.size+1,5,none⟩ (.int .i64 m.call)) ⟨w.heap.size+2,0,none⟩ (.int .i64 n)).mono (S':=(fun b=>w.heap.size≤b∧b < w.heap.size+3)) (fun b _ h=>by have h' : b=w.heap.size+2:=h;omega))) ((ExtBut.setCell (World.setCell (World.setCell (World.setCell (World.setCell (World.setCell (World.setCell (World.setCell w14s ⟨w.heap.size+1,0,none⟩ (.slice xa x.al.length xc)) ⟨w.heap.size+1,1,none⟩ (.int .i64 x.next)) ⟨w.heap.size+1,2,none⟩ (.slice va (m.stks.length+1) vc)) ⟨w.heap.size+1,3,none⟩ (.slice cr m.run.length crc)) ⟨w.heap.size+1,4,none⟩ (.int .i64 (m.tag+1))) ⟨w.heap.size+1,5,none⟩ (.int .i64 m.call)) ⟨w.heap.size+2,0,none⟩ (.int .i64 n)) ⟨w.heap.size+2,1,none⟩ (.int .i64 0)).mono (S':=(fun b=>w.heap.size≤b∧b < w.heap.size+3)) (fun b _ h=>by have h' : b=w.heap.size+2:=h;omega))) ((ExtBut.setCell (World.setCell (World.setCell (World.setCell (World.setCell (World.setCell (World.setCell (World.setCell (World.setCell w14s ⟨w.heap.size+1,0,none⟩ (.slice xa x.al.length xc)) ⟨w.heap.size+1,1,none⟩ (.int .i64 x.next)) ⟨w.heap.size+1,2,none⟩ (.slice va (m.stks.length+1) vc)) ⟨w.heap.size+1,3,none⟩ (.slice cr m.run.length crc)) ⟨w.heap.size+1,4,none⟩ (.int .i64 (m.tag+1))) ⟨w.heap.size+1,5,none⟩ (.int .i64 m.call)) ⟨w.heap.size+2,0,none⟩ (.int .i64 n)) ⟨w.heap.size+2,1,none⟩ (.int .i64 0)) ⟨w.heap.size+2,2,none⟩ (.int .i64 m.tag)).mono (S':=(fun b=>w.heap.size≤b∧b < w.heap.size+3)) (fun b _ h=>by have h' : b=w.heap.size+2:=h;omega))) (ExtBut.of_ext (Ext.refl _).drew))
 refine bodyPost_ret (v := .tuple #[.agg #[.slice xa x.al.length xc,.int .i64 x.next,.slice va (m.stks.length+1) vc,.slice cr m.run.length crc,.int .i64 (m.tag+1),.int .i64 m.call],.agg #[.int .i64 n,.int .i64 0,.int .i64 m.tag],.int .i64 0]) (by simp [results,Tryz.f28,go_sem,bR_0,bR_1,bR_2,bR_3,bR_4,bR_5,bP_0,bP_1,bP_2]) rfl ?_
 have hFe:=ExtBut.ext hF14 hXe (fun b h=>h.1)
 have hXze:=ExtBut.trans hXz.out hXe
 have hP':=hP.out
 refine ⟨_,rfl,FrMon.of_fs (m:=⟨x,m.stks ++ [⟨n,BS⟩],m.run,m.tag+1,m.call⟩) (hMem2.out.to (S':=fun b=>w.heap.size≤b) hXze (fun b h1 _ h2=>by omega) (fun b h1 _=>by omega)) ?_ (hRun2.out.to (S':=fun b=>w.heap.size≤b) hXze (fun b h1 _ h2=>by have:=h1.1;have:=hXcs.out;omega) (fun b h1 _=>by have:=h1.1;have:=hXcs.out;omega)),hFe⟩
 exact (OwnK.fs hP.out).to (S':=fun b=>w.heap.size≤b) hXze (fun b h1 _ h2=>by have:=hXks.out;omega) (fun b h1 _=>by have:=hXks.out;omega)
end Go.Proofs.YtnplphcnagooeaaGreatDoor

/- Contracts: asked of layer 33, the program's and the reference's. (printed by gen/use33.py) -/
namespace Go.Proofs.YtnplphcnagooeaaGreatDoor
set_option maxRecDepth 100000
open Go.RowKit
def inR33 (x : Stk) (a n : Int) : Prop:=0≤a∧a < x.cells.length∧1≤n∧n≤x.cells.length - a
instance (x : Stk) (a n : Int) : Decidable (inR33 x a n):=by unfold inR33;infer_instance
def ask33 (x : Stk) (a n : Int) (run : List Int) : Int:=if okR run then (if okK x then (if inR33 x a n then 0 else 6) else 8) else 8
theorem ask33_cases (x : Stk) (a n : Int) (run : List Int) : ask33 x a n run=8∨ask33 x a n run=6∨(ask33 x a n run=0∧okR run=true∧okK x=true∧inR33 x a n):=by
 unfold ask33
 cases okR run
 ·simp
 ·cases okK x
  ·simp
  ·by_cases h : inR33 x a n <;> simp [h]
set_option maxHeartbeats 1600000 in
theorem stacks_asked {l : List (List Item)} {num a n : Int} {run : List Int} {s v : Value} {w : World} (hl : Sts w s l) (hr : Nts w v run) :
  Calls Tryz.prog 84 #[.agg #[.int .i64 num,s],.int .i64 a,.int .i64 n,v] w fun e w'=>e = .returned (.int .i64 (ask33 ⟨num,l⟩ a n run))∧Ext w w':=by
 have hE0:=(Ext.refl w).alloc (.cells #[.int .i64 num,s] 68)
 have hl0:=hl.ext hE0
 have hr0:=hr.ext hE0
 obtain ⟨p,cp,rfl,hlc,hcm,-⟩:=hl.form
 obtain ⟨a2,cp2,rfl,-⟩:=hr.form
 unfold maxLen at hcm
 have bM:=Box.new w 68 #[.int .i64 num,.slice p l.length cp]
 clear hl hr
 cases hok : okR run
 ·have h8:=Lib.hid (runErr_bad hok)
  have hres : Hid (ask33 ⟨num,l⟩ a n run=8):=Hid.mk (by simp [ask33,hok])
  clear hok
  go_enter Tryz.func84,Tryz.ntmps84
  go_wp2_with fail
  refine (guard_Check hr0).mono ?_
  rintro e w1 ⟨rfl,rfl⟩
  rw [h8.out]
  go_wp2
  go_ret
  exact ⟨by rw [hres.out] <;> rfl,hE0⟩
 have h0:=Lib.hid (runErr_ok hok)
 cases hkk : okK ⟨num,l⟩
 ·have h8:=Lib.hid (stkErr_bad hkk)
  have hres : Hid (ask33 ⟨num,l⟩ a n run=8):=Hid.mk (by simp [ask33,hok,hkk])
  clear hok hkk
  go_enter Tryz.func84,Tryz.ntmps84
  go_wp2_with fail
  refine (guard_Check hr0).mono ?_
  rintro e w1 ⟨rfl,rfl⟩
  rw [h0.out]
  go_wp2_with fail
  refine (stacks_Check hl0).mono ?_
  rintro e w2 ⟨rfl,hE2⟩
  rw [h8.out]
  go_wp2
  go_ret
  exact ⟨by rw [hres.out] <;> rfl,hE0.trans hE2⟩
 have hk0:=Lib.hid (stkErr_ok hkk)
 have hres : Hid (ask33 ⟨num,l⟩ a n run=if inR33 ⟨num,l⟩ a n then 0 else 6):=Hid.mk (by rw [ask33,if_pos hok,if_pos hkk])
 clear hok hkk
 by_cases hin : 0≤a∧a < l.length
 ·have hw1 : IntKind.i64.wrap ((l.length : Int) - a)=(l.length : Int) - a:=IntWalk.i64_in _ (by omega)
  have g1 : decide (a < 0)=false:=decide_eq_false (by omega)
  have g2 : decide ((l.length : Int)≤a)=false:=decide_eq_false (by omega)
  by_cases hn1 : n < 1
  ·have g3 : decide (n < 1)=true:=decide_eq_true hn1
   have hf : Hid ((if inR33 ⟨num,l⟩ a n then (0 : Int) else 6)=6):=Hid.mk (if_neg (by unfold inR33;dsimp only;omega))
   go_enter Tryz.func84,Tryz.ntmps84
   go_wp2_with fail
   refine (guard_Check hr0).mono ?_
   rintro e w1 ⟨rfl,rfl⟩
   rw [h0.out]
   go_wp2_with fail
   refine (stacks_Check hl0).mono ?_
   rintro e w2 ⟨rfl,hE2⟩
   rw [hk0.out]
   have m1 : World.cell? w2 ⟨w.heap.size,1,none⟩=some (.slice p l.length cp):=(bM.ext hE2).cell 1
   go_wp2
   go_ret
   exact ⟨by rw [hres.out,hf.out] <;> rfl,hE0.trans hE2⟩
  have g3 : decide (n < 1)=false:=decide_eq_false hn1
  by_cases hn2 : (l.length : Int) - a < n
  ·have g4 : decide ((l.length : Int) - a < n)=true:=decide_eq_true hn2
   have hf : Hid ((if inR33 ⟨num,l⟩ a n then (0 : Int) else 6)=6):=Hid.mk (if_neg (by unfold inR33;dsimp only;omega))
   go_enter Tryz.func84,Tryz.ntmps84
   go_wp2_with fail
   refine (guard_Check hr0).mono ?_
   rintro e w1 ⟨rfl,rfl⟩
   rw [h0.out]
   go_wp2_with fail
   refine (stacks_Check hl0).mono ?_
   rintro e w2 ⟨rfl,hE2⟩
   rw [hk0.out]
   have m1 : World.cell? w2 ⟨w.heap.size,1,none⟩=some (.slice p l.length cp):=(bM.ext hE2).cell 1
   go_wp2
   go_ret
   exact ⟨by rw [hres.out,hf.out] <;> rfl,hE0.trans hE2⟩
  ·have g4 : decide ((l.length : Int) - a < n)=false:=decide_eq_false hn2
   have hf : Hid ((if inR33 ⟨num,l⟩ a n then (0 : Int) else 6)=0):=Hid.mk (if_pos (by unfold inR33;dsimp only;omega))
   go_enter Tryz.func84,Tryz.ntmps84
   go_wp2_with fail
   refine (guard_Check hr0).mono ?_
   rintro e w1 ⟨rfl,rfl⟩
   rw [h0.out]
   go_wp2_with fail
   refine (stacks_Check hl0).mono ?_
   rintro e w2 ⟨rfl,hE2⟩
   rw [hk0.out]
   have m1 : World.cell? w2 ⟨w.heap.size,1,none⟩=some (.slice p l.length cp):=(bM.ext hE2).cell 1
   go_wp2
   go_ret
   exact ⟨by rw [hres.out,hf.out] <;> rfl,hE0.trans hE2⟩
 ·have hf : Hid ((if inR33 ⟨num,l⟩ a n then (0 : Int) else 6)=6):=Hid.mk (if_neg (by unfold inR33;dsimp only;omega))
  rcases Int.lt_or_le a 0 with ha | ha
  ·have g1 : decide (a < 0)=true:=decide_eq_true ha
   go_enter Tryz.func84,Tryz.ntmps84
   go_wp2_with fail
   refine (guard_Check hr0).mono ?_
   rintro e w1 ⟨rfl,rfl⟩
   rw [h0.out]
   go_wp2_with fail
   refine (stacks_Check hl0).mono ?_
   rintro e w2 ⟨rfl,hE2⟩
   rw [hk0.out]
   have m1 : World.cell? w2 ⟨w.heap.size,1,none⟩=some (.slice p l.length cp):=(bM.ext hE2).cell 1
   go_wp2
   go_ret
   exact ⟨by rw [hres.out,hf.out] <;> rfl,hE0.trans hE2⟩
  ·have g1 : decide (a < 0)=false:=decide_eq_false (by omega)
   have g2 : decide ((l.length : Int)≤a)=true:=decide_eq_true (by omega)
   go_enter Tryz.func84,Tryz.ntmps84
   go_wp2_with fail
   refine (guard_Check hr0).mono ?_
   rintro e w1 ⟨rfl,rfl⟩
   rw [h0.out]
   go_wp2_with fail
   refine (stacks_Check hl0).mono ?_
   rintro e w2 ⟨rfl,hE2⟩
   rw [hk0.out]
   have m1 : World.cell? w2 ⟨w.heap.size,1,none⟩=some (.slice p l.length cp):=(bM.ext hE2).cell 1
   go_wp2
   go_ret
   exact ⟨by rw [hres.out,hf.out] <;> rfl,hE0.trans hE2⟩
end Go.Proofs.YtnplphcnagooeaaGreatDoor

/- A stack of the call's own stacks is set; what an access of a range gives; no program in sight. -/
namespace Go.Proofs.YtnplphcnagooeaaGreatDoor
set_option maxRecDepth 100000
open Go.RowKit
theorem trows_srow : ∀ {vs : List Value} {l : List (List Item)},vs.length=l.length→trows srow vs l=vs
 | [],[],_=>rfl
 | v :: vs,a :: l,h=>by
  have ih:=trows_srow (vs:=vs) (l:=l) (by simpa using h)
  unfold trows at ih ⊢
  simp only [List.zip_cons_cons,List.flatMap_cons,srow] at ih ⊢
  rw [ih]
  rfl
theorem OwnS.set {w wx : World} {B g cap : Nat} {vs : List Value} {l : List (List Item)} {s : Value} {a : List Item} {j : Nat} (h : OwnS w B (.slice (some ⟨g,0,none⟩) l.length cap) vs l) (hE : Ext w wx) (hR : OwnI wx B s a)
  (hs : ∀ b,s.ownBlock=some b→w.heap.size≤b) (hj : j < l.length) : OwnS (wx.setCell ⟨g,j,none⟩ s) B (.slice (some ⟨g,0,none⟩) (l.set j a).length cap) (vs.set j s) (l.set j a):=by
 have hl:=(All2.iff.1 h.inner).1
 have hO:=(h.outer.ext hE).set j s
 have hg:=(Own.lt h.outer (g:=g) rfl).2
 have hS : ExtBut (· = g) wx (wx.setCell ⟨g,j,none⟩ s):=ExtBut.setCell wx ⟨g,j,none⟩ s
 have hold : ∀ x ∈ vs,∀ b,x.ownBlock=some b→B≤b∧b < w.heap.size:=h.inner_lt
 rw [trows_srow hl] at hO
 refine ⟨?_,?_,?_,?_⟩
 ·rw [List.length_set,trows_srow (by simpa using hl)]
  exact hO
 ·refine All2.iff.2 ⟨by simpa using hl,fun i x y hx hy => ?_⟩
  by_cases e : i=j
  ·subst e
   rw [List.getElem?_set_self (by omega)] at hx hy
   cases hx
   cases hy
   exact OwnI.keep hR hS (fun b e1 e2=>by have:=hs b e1;have e2' : b=g:=e2;omega)
  ·rw [List.getElem?_set_ne (fun e'=>e e'.symm)] at hx hy
   refine OwnI.keep (OwnI.keep ((All2.iff.1 h.inner).2 i x y hx hy) (ExtBut.of_ext (S:=fun _=>False) hE) (fun _ _ h=>h)) hS (fun b e1 e2 => ?_)
   have e2' : b=g:=e2
   subst e2'
   exact h.far x (List.mem_of_getElem? hx) b e1 rfl
 ·intro i k x y hne hx hy b ex ey
  by_cases e1 : i=j
  ·subst e1
   rw [List.getElem?_set_self (by omega)] at hx
   cases hx
   rw [List.getElem?_set_ne hne] at hy
   have:=(hold y (List.mem_of_getElem? hy) b ey).2
   have:=hs b ex
   omega
  ·rw [List.getElem?_set_ne (fun e'=>e1 e'.symm)] at hx
   by_cases e2 : k=j
   ·subst e2
    rw [List.getElem?_set_self (by omega)] at hy
    cases hy
    have:=(hold x (List.mem_of_getElem? hx) b ex).2
    have:=hs b ey
    omega
   ·rw [List.getElem?_set_ne (fun e'=>e2 e'.symm)] at hy
    exact h.apart i k x y hne hx hy b ex ey
 ·intro x hx b e1 e2
  cases e2
  rcases List.mem_or_eq_of_mem_set hx with h1 | rfl
  ·exact h.far x h1 _ e1 rfl
  ·have : w.heap.size≤g:=hs _ e1
   omega
def eachGo (f : List Item→List Item × Int × Int) (num : Int) (cells : List (List Item)) : Nat→Nat→List (List Item)→Int→Stk × Int × Int
 | 0,_,out,why=>if why=0 then (⟨num,out⟩,0,0) else (Stk.zero,why,0)
 | m+1,j,out,why=>if (f (cells.getD j [])).2.2=0 then eachGo f num cells m (j+1) (out.set j (f (cells.getD j [])).1) (if why=0 then (f (cells.getD j [])).2.1 else why) else (Stk.zero,0,(f (cells.getD j [])).2.2)
theorem eachGo_end {f : List Item→List Item × Int × Int} {num : Int} {cells out : List (List Item)} {j : Nat} : eachGo f num cells 0 j out 0=(⟨num,out⟩,0,0):=rfl
theorem eachGo_why {f : List Item→List Item × Int × Int} {num why : Int} {cells out : List (List Item)} {j : Nat} (h : why≠0) : eachGo f num cells 0 j out why=(Stk.zero,why,0):=if_neg h
theorem eachGo_bad {f : List Item→List Item × Int × Int} {num why : Int} {cells out : List (List Item)} {m j : Nat} {x s : List Item} {v e : Int} (hx : cells[j]? = some x) (hf : f x=(s,v,e)) (he : e≠0) :
  eachGo f num cells (m+1) j out why=(Stk.zero,0,e):=by
 have h : cells.getD j []=x:=by rw [List.getD_eq_getElem?_getD,hx];rfl
 rw [eachGo,h,hf,if_neg he]
theorem eachGo_ok {f : List Item→List Item × Int × Int} {num why : Int} {cells out : List (List Item)} {m j : Nat} {x s : List Item} {v : Int} (hx : cells[j]? = some x) (hf : f x=(s,v,0)) :
  eachGo f num cells (m+1) j out why=eachGo f num cells m (j+1) (out.set j s) (if why=0 then v else why):=by
 have h : cells.getD j []=x:=by rw [List.getD_eq_getElem?_getD,hx];rfl
 rw [eachGo,h,hf,if_pos rfl]
def eachR (f : List Item→List Item × Int × Int) (x : Stk) (a n : Nat) : Stk × Int × Int:=eachGo f x.num x.cells n a x.cells 0
end Go.Proofs.YtnplphcnagooeaaGreatDoor

/- Contracts: one and ranged of the reference of layer 33. (printed by gen/ranged33.py) -/
namespace Go.Proofs.YtnplphcnagooeaaGreatDoor
set_option maxRecDepth 100000
open Go.RowKit
def oneR (kind tag : Int) (it : Item) (run : List Int) (l : List Item) : List Item × Int × Int:=if kind=0 then useR l tag false run else if kind=9 then useR l tag true run else tagR l kind tag it run
end Go.Proofs.YtnplphcnagooeaaGreatDoor
