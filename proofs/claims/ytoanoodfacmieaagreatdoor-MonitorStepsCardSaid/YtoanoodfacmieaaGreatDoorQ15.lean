/- Several texts in one: MonM, MonZ, MonH. -/
import Derived.Test.YtoanoodfacmieaaGreatDoorQ14
import Derived.Test.YtoanoodfacmieaaGreatDoorQ06
import Derived.Test.YtoanoodfacmieaaGreatDoorQ07
import Derived.Test.YtoanoodfacmieaaGreatDoorQ10
import Derived.Test.YtoanoodfacmieaaGreatDoorQ09
/- Contracts: monitor.Alloc. (printed by gen/mon35f.py) -/
namespace Go.Proofs.YtoanoodfacmieaaGreatDoor
set_option maxRecDepth 100000
open Go.RowKit
theorem allocM_bad {m : Mon} {size : Int} (h : okMon m=false) : allocM m size=(Mon.zero,Ptr.zero,8):=by simp [allocM,h]
theorem allocM_add {m : Mon} {size : Int} (h : okMon m=true) (he : (addR m.mem size).2.2≠0) : allocM m size=(Mon.zero,Ptr.zero,(addR m.mem size).2.2):=by rw [allocM,if_pos h,if_neg he]
theorem allocM_full {m : Mon} {size : Int} (h : okMon m=true) (he : (addR m.mem size).2.2=0) (ht : m.tag=1000000) : allocM m size=(Mon.zero,Ptr.zero,18):=by rw [allocM,if_pos h,if_pos he,if_pos ht]
theorem allocM_ok {m : Mon} {size : Int} (h : okMon m=true) (he : (addR m.mem size).2.2=0) (ht : ¬ m.tag=1000000) :
  allocM m size=(⟨(addR m.mem size).1,m.stks ++ [⟨(addR m.mem size).2.1,based size.toNat m.tag⟩],m.run,m.tag+1,m.call⟩,⟨(addR m.mem size).2.1,0,m.tag⟩,0):=by rw [allocM,if_pos h,if_pos he,if_neg ht]
theorem addR_zero {m x : Mem} {size n : Int} (hok : m.ok=true) (h : addR m size=(x,n,0)) : x=⟨m.al ++ [newAlloc m.next size.toNat],m.next+1⟩∧1≤size∧size≤2∧(0≤n∧n≤1000000)∧m.al.length < 400∧n=m.next∧m.next < 1000000:=by
 have hb:=ok_bounds hok
 by_cases h1 : size < 1∨2 < size
 ·rw [addR_arg hok h1] at h;simp at h
 by_cases h2 : m.al.length=400∨m.next=1000000
 ·rw [addR_full hok h1 h2] at h;simp at h
 rw [addR_yes hok h1 h2] at h
 simp only [Prod.mk.injEq,and_true] at h
 obtain ⟨rfl,rfl⟩:=h
 refine ⟨rfl,?_,?_,?_,?_,rfl,?_⟩ <;> omega
set_option maxRecDepth 100000 in
set_option maxHeartbeats 6400000 in
theorem monitor_Alloc {m : Mon} {sa ss sr : Value} {w : World} (size : Int) (hA : Als w sa m.mem.al) (hn : i64B m.mem.next) (hK : Kts w ss m.stks) (hR : Nts w sr m.run) :
  Calls Tryz.prog 7 #[.agg #[sa,.int .i64 m.mem.next,ss,sr,.int .i64 m.tag,.int .i64 m.call],.int .i64 size] w (RetF w (fun v => .tuple #[v,(allocM m size).2.1.val,.int .i64 (allocM m size).2.2]) (allocM m size).1):=by
 obtain ⟨aa,ac,rfl,hac,hacm,-⟩:=hA.form
 obtain ⟨ka,kc,rfl,hkc,hkcm,-⟩:=hK.form
 obtain ⟨ra,rc,rfl,hrc,hrcm,-⟩:=hR.form
 unfold maxLen at hacm hkcm hrcm
 have hE0 : Ext w (World.alloc (World.alloc (World.alloc w (.cells #[.slice aa m.mem.al.length ac,.int .i64 m.mem.next,.slice ka m.stks.length kc,.slice ra m.run.length rc,.int .i64 m.tag,.int .i64 m.call] 30)) (.cells #[.slice none 0 0,.int .i64 0,.slice none 0 0,.slice none 0 0,.int .i64 0,.int .i64 0] 30)) (.cells #[.int .i64 0,.int .i64 0,.int .i64 0] 35)):=by repeat (first | exact Ext.refl _ | refine Ext.alloc ?_ _)
 have bM : Box (World.alloc (World.alloc (World.alloc w (.cells #[.slice aa m.mem.al.length ac,.int .i64 m.mem.next,.slice ka m.stks.length kc,.slice ra m.run.length rc,.int .i64 m.tag,.int .i64 m.call] 30)) (.cells #[.slice none 0 0,.int .i64 0,.slice none 0 0,.slice none 0 0,.int .i64 0,.int .i64 0] 30)) (.cells #[.int .i64 0,.int .i64 0,.int .i64 0] 35)) (w.heap.size) 30 #[.slice aa m.mem.al.length ac,.int .i64 m.mem.next,.slice ka m.stks.length kc,.slice ra m.run.length rc,.int .i64 m.tag,.int .i64 m.call]:=(by
  have h:=Box.new w 30 #[.slice aa m.mem.al.length ac,.int .i64 m.mem.next,.slice ka m.stks.length kc,.slice ra m.run.length rc,.int .i64 m.tag,.int .i64 m.call]
  replace h:=Box.ext h ((Ext.refl _).alloc (.cells #[.slice none 0 0,.int .i64 0,.slice none 0 0,.slice none 0 0,.int .i64 0,.int .i64 0] 30))
  replace h:=Box.ext h ((Ext.refl _).alloc (.cells #[.int .i64 0,.int .i64 0,.int .i64 0] 35))
  exact h)
 have bR : Box (World.alloc (World.alloc (World.alloc w (.cells #[.slice aa m.mem.al.length ac,.int .i64 m.mem.next,.slice ka m.stks.length kc,.slice ra m.run.length rc,.int .i64 m.tag,.int .i64 m.call] 30)) (.cells #[.slice none 0 0,.int .i64 0,.slice none 0 0,.slice none 0 0,.int .i64 0,.int .i64 0] 30)) (.cells #[.int .i64 0,.int .i64 0,.int .i64 0] 35)) (w.heap.size+1) 30 #[.slice none 0 0,.int .i64 0,.slice none 0 0,.slice none 0 0,.int .i64 0,.int .i64 0]:=(by
  have h:=Box.new (World.alloc w (.cells #[.slice aa m.mem.al.length ac,.int .i64 m.mem.next,.slice ka m.stks.length kc,.slice ra m.run.length rc,.int .i64 m.tag,.int .i64 m.call] 30)) 30 #[.slice none 0 0,.int .i64 0,.slice none 0 0,.slice none 0 0,.int .i64 0,.int .i64 0]
  simp only [World.size_alloc] at h
  replace h:=Box.ext h ((Ext.refl _).alloc (.cells #[.int .i64 0,.int .i64 0,.int .i64 0] 35))
  exact h)
 have bP : Box (World.alloc (World.alloc (World.alloc w (.cells #[.slice aa m.mem.al.length ac,.int .i64 m.mem.next,.slice ka m.stks.length kc,.slice ra m.run.length rc,.int .i64 m.tag,.int .i64 m.call] 30)) (.cells #[.slice none 0 0,.int .i64 0,.slice none 0 0,.slice none 0 0,.int .i64 0,.int .i64 0] 30)) (.cells #[.int .i64 0,.int .i64 0,.int .i64 0] 35)) (w.heap.size+2) 35 #[.int .i64 0,.int .i64 0,.int .i64 0]:=(by
  have h:=Box.new (World.alloc (World.alloc w (.cells #[.slice aa m.mem.al.length ac,.int .i64 m.mem.next,.slice ka m.stks.length kc,.slice ra m.run.length rc,.int .i64 m.tag,.int .i64 m.call] 30)) (.cells #[.slice none 0 0,.int .i64 0,.slice none 0 0,.slice none 0 0,.int .i64 0,.int .i64 0] 30)) 35 #[.int .i64 0,.int .i64 0,.int .i64 0]
  simp only [World.size_alloc] at h
  exact h)
 obtain ⟨w0,hw0⟩ : ∃ z,(World.alloc (World.alloc (World.alloc w (.cells #[.slice aa m.mem.al.length ac,.int .i64 m.mem.next,.slice ka m.stks.length kc,.slice ra m.run.length rc,.int .i64 m.tag,.int .i64 m.call] 30)) (.cells #[.slice none 0 0,.int .i64 0,.slice none 0 0,.slice none 0 0,.int .i64 0,.int .i64 0] 30)) (.cells #[.int .i64 0,.int .i64 0,.int .i64 0] 35))=z:=⟨_,rfl⟩
 rw [hw0] at hE0 bM bR bP
 have hs0 : w0.heap.size=w.heap.size+3:=by rw [← hw0];simp
 replace hs0:=Lib.hid hs0
 replace hA:=Lib.hid hA
 replace hK:=Lib.hid hK
 replace hR:=Lib.hid hR
 replace hn:=Lib.hid hn
 cases hok : okMon m
 ·skip
  have hce:=Lib.hid (monErr_not hok)
  have hres:=Lib.hid (allocM_bad (size:=size) hok)
  clear hok
  go_enter Tryz.func7,Tryz.ntmps7
  obtain ⟨bM_0,bM_1,bM_2,bM_3,bM_4,bM_5,bM_l⟩:=bM.c6
  go_wp2_with fail
  clear bM_0 bM_1 bM_2 bM_3 bM_4 bM_5 bM_l
  refine (mon_Check' (hA.out.ext hE0) hn.out (hK.out.ext hE0) (hR.out.ext hE0)).mono ?_
  rintro e w1 ⟨rfl,hE1⟩
  replace bM:=bM.ext hE1
  replace bR:=bR.ext hE1
  replace bP:=bP.ext hE1
  have hF1:=Ext.trans hE0 hE1
  rw [hce.out]
  clear hw0
  obtain ⟨bM_0,bM_1,bM_2,bM_3,bM_4,bM_5,bM_l⟩:=bM.c6
  have bR_0 : World.cell? w1 ⟨w.heap.size+1,0,none⟩=some (.slice none 0 0):=bR.cell 0
  have bR_1 : World.cell? w1 ⟨w.heap.size+1,1,none⟩=some (.int .i64 0):=bR.cell 1
  have bR_2 : World.cell? w1 ⟨w.heap.size+1,2,none⟩=some (.slice none 0 0):=bR.cell 2
  have bR_3 : World.cell? w1 ⟨w.heap.size+1,3,none⟩=some (.slice none 0 0):=bR.cell 3
  have bR_4 : World.cell? w1 ⟨w.heap.size+1,4,none⟩=some (.int .i64 0):=bR.cell 4
  have bR_5 : World.cell? w1 ⟨w.heap.size+1,5,none⟩=some (.int .i64 0):=bR.cell 5
  have bR_f0 : World.frozen? w1 ⟨w.heap.size+1,0,none⟩=false:=bR.frozen 0
  have bR_f1 : World.frozen? w1 ⟨w.heap.size+1,1,none⟩=false:=bR.frozen 1
  have bR_f2 : World.frozen? w1 ⟨w.heap.size+1,2,none⟩=false:=bR.frozen 2
  have bR_f3 : World.frozen? w1 ⟨w.heap.size+1,3,none⟩=false:=bR.frozen 3
  have bR_f4 : World.frozen? w1 ⟨w.heap.size+1,4,none⟩=false:=bR.frozen 4
  have bR_f5 : World.frozen? w1 ⟨w.heap.size+1,5,none⟩=false:=bR.frozen 5
  have bR_l:=bR.lt
  have bP_0 : World.cell? w1 ⟨w.heap.size+2,0,none⟩=some (.int .i64 0):=bP.cell 0
  have bP_1 : World.cell? w1 ⟨w.heap.size+2,1,none⟩=some (.int .i64 0):=bP.cell 1
  have bP_2 : World.cell? w1 ⟨w.heap.size+2,2,none⟩=some (.int .i64 0):=bP.cell 2
  have bP_f0 : World.frozen? w1 ⟨w.heap.size+2,0,none⟩=false:=bP.frozen 0
  have bP_f1 : World.frozen? w1 ⟨w.heap.size+2,1,none⟩=false:=bP.frozen 1
  have bP_f2 : World.frozen? w1 ⟨w.heap.size+2,2,none⟩=false:=bP.frozen 2
  have bP_l:=bP.lt
  go_wp2
  rw [hres.out]
  have hXe : ExtBut (fun b=>w.heap.size≤b∧b < w.heap.size+3) w1 (World.setCell (World.setCell (World.setCell (World.setCell (World.setCell (World.setCell (World.setCell (World.setCell (World.setCell w1 ⟨w.heap.size+1,0,none⟩ (.slice none 0 0)) ⟨w.heap.size+1,1,none⟩ (.int .i64 0)) ⟨w.heap.size+1,2,none⟩ (.slice none 0 0)) ⟨w.heap.size+1,3,none⟩ (.slice none 0 0)) ⟨w.heap.size+1,4,none⟩ (.int .i64 0)) ⟨w.heap.size+1,5,none⟩ (.int .i64 0)) ⟨w.heap.size+2,0,none⟩ (.int .i64 0)) ⟨w.heap.size+2,1,none⟩ (.int .i64 0)) ⟨w.heap.size+2,2,none⟩ (.int .i64 0)):=by (repeat' with_reducible first | exact ExtBut.refl _ _ | refine ExtBut.dr ?_ | refine ExtBut.sc ?_ ?_ | fail) <;> dsimp only <;> omega
  refine bodyPost_ret (v := .tuple #[.agg #[.slice none 0 0,.int .i64 0,.slice none 0 0,.slice none 0 0,.int .i64 0,.int .i64 0],.agg #[.int .i64 0,.int .i64 0,.int .i64 0],.int .i64 8]) (by simp [results,Tryz.f7,go_sem,bR_0,bR_1,bR_2,bR_3,bR_4,bR_5,bP_0,bP_1,bP_2]) rfl ?_
  have hFe:=ExtBut.ext hF1 hXe (fun b h=>h.1)
  exact ⟨_,rfl,FrMon.zero _ _,hFe⟩
 have hMok:=MonOk.of hok
 have hce:=Lib.hid (monErr_of hok)
 have hcl:=Lib.hid hMok.small
 obtain ⟨⟨x,n,er⟩,har⟩ : ∃ z,addR m.mem size=z:=⟨_,rfl⟩
 by_cases he : er=0
 rotate_left
 ·skip
  have q1 : (er != 0)=true:=by simpa using he
  have hres:=Lib.hid (allocM_add hok (by rw [har];exact he) : allocM m size=_)
  rw [har] at hres
  have harh:=Lib.hid har
  clear hok hMok he har
  go_enter Tryz.func7,Tryz.ntmps7
  obtain ⟨bM_0,bM_1,bM_2,bM_3,bM_4,bM_5,bM_l⟩:=bM.c6
  go_wp2_with fail
  clear bM_0 bM_1 bM_2 bM_3 bM_4 bM_5 bM_l
  refine (mon_Check' (hA.out.ext hE0) hn.out (hK.out.ext hE0) (hR.out.ext hE0)).mono ?_
  rintro e w1 ⟨rfl,hE1⟩
  replace bM:=bM.ext hE1
  replace bR:=bR.ext hE1
  replace bP:=bP.ext hE1
  have hF1:=Ext.trans hE0 hE1
  rw [hce.out]
  clear hw0
  obtain ⟨bM_0,bM_1,bM_2,bM_3,bM_4,bM_5,bM_l⟩:=bM.c6
  go_wp2_with fail
  clear bM_0 bM_1 bM_2 bM_3 bM_4 bM_5 bM_l
  have hXas:=Lib.hid (by have:=bP.lt;omega : w.heap.size+3≤w1.heap.size)
  refine (allocs_Add size (hA.out.ext hF1) hn.out).mono ?_
  rintro e w2 ⟨v,rfl,fM,hE2⟩
  replace bM:=bM.ext hE2
  replace bR:=bR.ext hE2
  replace bP:=bP.ext hE2
  have hF2:=Ext.trans hF1 hE2
  rw [harh.out] at fM ⊢
  obtain ⟨sx,rfl,hx⟩:=FrM.fs fM
  clear fM
  have hv:=hx.read.form
  obtain ⟨xa,xc,rfl,-⟩:=hv
  dsimp only at hx ⊢
  replace hx:=Lib.hid hx
  have hXa:=Lib.hid (ExtBut.refl (fun b=>w.heap.size≤b∧b < w.heap.size+3) w2)
  obtain ⟨bM_0,bM_1,bM_2,bM_3,bM_4,bM_5,bM_l⟩:=bM.c6
  go_upto_region 6 with fail
  clear bM_0 bM_1 bM_2 bM_3 bM_4 bM_5 bM_l
  have szbQ:=Lib.hid (by have:=bP.lt;omega : w.heap.size+3≤w2.heap.size)
  have bQ:=Box.new w2 26 #[.slice xa x.al.length xc,.int .i64 x.next]
  have hzb0 : (World.alloc w2 (.cells #[.slice xa x.al.length xc,.int .i64 x.next] 26)).heap.size=w2.heap.size+1:=by rw [World.size_alloc]
  have hx3 : Ext w2 (World.alloc w2 (.cells #[.slice xa x.al.length xc,.int .i64 x.next] 26)):=(Ext.refl _).alloc _
  obtain ⟨w3b,hw3⟩ : ∃ z,World.alloc w2 (.cells #[.slice xa x.al.length xc,.int .i64 x.next] 26)=z:=⟨_,rfl⟩
  rw [hw3] at bQ hx3 hzb0 ⊢
  clear hw3
  replace bM:=bM.ext hx3
  replace bR:=bR.ext hx3
  replace bP:=bP.ext hx3
  replace hXa:=Lib.hid (ExtBut.trans hXa.out (ExtBut.of_ext hx3))
  have hF4:=Ext.trans hF2 hx3
  clear hzb0
  obtain ⟨bM_0,bM_1,bM_2,bM_3,bM_4,bM_5,bM_l⟩:=bM.c6
  have bR_0 : World.cell? w3b ⟨w.heap.size+1,0,none⟩=some (.slice none 0 0):=bR.cell 0
  have bR_1 : World.cell? w3b ⟨w.heap.size+1,1,none⟩=some (.int .i64 0):=bR.cell 1
  have bR_2 : World.cell? w3b ⟨w.heap.size+1,2,none⟩=some (.slice none 0 0):=bR.cell 2
  have bR_3 : World.cell? w3b ⟨w.heap.size+1,3,none⟩=some (.slice none 0 0):=bR.cell 3
  have bR_4 : World.cell? w3b ⟨w.heap.size+1,4,none⟩=some (.int .i64 0):=bR.cell 4
  have bR_5 : World.cell? w3b ⟨w.heap.size+1,5,none⟩=some (.int .i64 0):=bR.cell 5
  have bR_f0 : World.frozen? w3b ⟨w.heap.size+1,0,none⟩=false:=bR.frozen 0
  have bR_f1 : World.frozen? w3b ⟨w.heap.size+1,1,none⟩=false:=bR.frozen 1
  have bR_f2 : World.frozen? w3b ⟨w.heap.size+1,2,none⟩=false:=bR.frozen 2
  have bR_f3 : World.frozen? w3b ⟨w.heap.size+1,3,none⟩=false:=bR.frozen 3
  have bR_f4 : World.frozen? w3b ⟨w.heap.size+1,4,none⟩=false:=bR.frozen 4
  have bR_f5 : World.frozen? w3b ⟨w.heap.size+1,5,none⟩=false:=bR.frozen 5
  have bR_l:=bR.lt
  have bP_0 : World.cell? w3b ⟨w.heap.size+2,0,none⟩=some (.int .i64 0):=bP.cell 0
  have bP_1 : World.cell? w3b ⟨w.heap.size+2,1,none⟩=some (.int .i64 0):=bP.cell 1
  have bP_2 : World.cell? w3b ⟨w.heap.size+2,2,none⟩=some (.int .i64 0):=bP.cell 2
  have bP_f0 : World.frozen? w3b ⟨w.heap.size+2,0,none⟩=false:=bP.frozen 0
  have bP_f1 : World.frozen? w3b ⟨w.heap.size+2,1,none⟩=false:=bP.frozen 1
  have bP_f2 : World.frozen? w3b ⟨w.heap.size+2,2,none⟩=false:=bP.frozen 2
  have bP_l:=bP.lt
  go_wp2
  rw [hres.out]
  have hXe : ExtBut (fun b=>w.heap.size≤b∧b < w.heap.size+3) w3b (World.setCell (World.setCell (World.setCell (World.setCell (World.setCell (World.setCell (World.setCell (World.setCell (World.setCell w3b ⟨w.heap.size+1,0,none⟩ (.slice none 0 0)) ⟨w.heap.size+1,1,none⟩ (.int .i64 0)) ⟨w.heap.size+1,2,none⟩ (.slice none 0 0)) ⟨w.heap.size+1,3,none⟩ (.slice none 0 0)) ⟨w.heap.size+1,4,none⟩ (.int .i64 0)) ⟨w.heap.size+1,5,none⟩ (.int .i64 0)) ⟨w.heap.size+2,0,none⟩ (.int .i64 0)) ⟨w.heap.size+2,1,none⟩ (.int .i64 0)) ⟨w.heap.size+2,2,none⟩ (.int .i64 0)):=by (repeat' with_reducible first | exact ExtBut.refl _ _ | refine ExtBut.dr ?_ | refine ExtBut.sc ?_ ?_ | fail) <;> dsimp only <;> omega
  refine bodyPost_ret (v := .tuple #[.agg #[.slice none 0 0,.int .i64 0,.slice none 0 0,.slice none 0 0,.int .i64 0,.int .i64 0],.agg #[.int .i64 0,.int .i64 0,.int .i64 0],.int .i64 er]) (by simp [results,Tryz.f7,go_sem,bR_0,bR_1,bR_2,bR_3,bR_4,bR_5,bP_0,bP_1,bP_2]) rfl ?_
  have hFe:=ExtBut.ext hF4 hXe (fun b h=>h.1)
  have hXae:=ExtBut.trans hXa.out hXe
  exact ⟨_,rfl,FrMon.zero _ _,hFe⟩
 subst he
 have had:=addR_zero hMok.memOk har
 have harh:=Lib.hid har
 by_cases ht : m.tag=1000000
 ·skip
  have q2 : (m.tag == 1000000)=true:=by rw [ht];rfl
  have hres:=Lib.hid (allocM_full hok (by rw [har]) ht : allocM m size=_)
  clear hok hMok had har ht
  go_enter Tryz.func7,Tryz.ntmps7
  obtain ⟨bM_0,bM_1,bM_2,bM_3,bM_4,bM_5,bM_l⟩:=bM.c6
  go_wp2_with fail
  clear bM_0 bM_1 bM_2 bM_3 bM_4 bM_5 bM_l
  refine (mon_Check' (hA.out.ext hE0) hn.out (hK.out.ext hE0) (hR.out.ext hE0)).mono ?_
  rintro e w1 ⟨rfl,hE1⟩
  replace bM:=bM.ext hE1
  replace bR:=bR.ext hE1
  replace bP:=bP.ext hE1
  have hF1:=Ext.trans hE0 hE1
  rw [hce.out]
  clear hw0
  obtain ⟨bM_0,bM_1,bM_2,bM_3,bM_4,bM_5,bM_l⟩:=bM.c6
  go_wp2_with fail
  clear bM_0 bM_1 bM_2 bM_3 bM_4 bM_5 bM_l
  have hXas:=Lib.hid (by have:=bP.lt;omega : w.heap.size+3≤w1.heap.size)
  refine (allocs_Add size (hA.out.ext hF1) hn.out).mono ?_
  rintro e w2 ⟨v,rfl,fM,hE2⟩
  replace bM:=bM.ext hE2
  replace bR:=bR.ext hE2
  replace bP:=bP.ext hE2
  have hF2:=Ext.trans hF1 hE2
  rw [harh.out] at fM ⊢
  obtain ⟨sx,rfl,hx⟩:=FrM.fs fM
  clear fM
  have hv:=hx.read.form
  obtain ⟨xa,xc,rfl,-⟩:=hv
  dsimp only at hx ⊢
  replace hx:=Lib.hid hx
  have hXa:=Lib.hid (ExtBut.refl (fun b=>w.heap.size≤b∧b < w.heap.size+3) w2)
  obtain ⟨bM_0,bM_1,bM_2,bM_3,bM_4,bM_5,bM_l⟩:=bM.c6
  go_upto_region 8 with fail
  clear bM_0 bM_1 bM_2 bM_3 bM_4 bM_5 bM_l
  have szbQ:=Lib.hid (by have:=bP.lt;omega : w.heap.size+3≤w2.heap.size)
  have bQ:=Box.new w2 26 #[.slice xa x.al.length xc,.int .i64 x.next]
  have hzb0 : (World.alloc w2 (.cells #[.slice xa x.al.length xc,.int .i64 x.next] 26)).heap.size=w2.heap.size+1:=by rw [World.size_alloc]
  have hx3 : Ext w2 (World.alloc w2 (.cells #[.slice xa x.al.length xc,.int .i64 x.next] 26)):=(Ext.refl _).alloc _
  obtain ⟨w3b,hw3⟩ : ∃ z,World.alloc w2 (.cells #[.slice xa x.al.length xc,.int .i64 x.next] 26)=z:=⟨_,rfl⟩
  rw [hw3] at bQ hx3 hzb0 ⊢
  clear hw3
  replace bM:=bM.ext hx3
  replace bR:=bR.ext hx3
  replace bP:=bP.ext hx3
  replace hXa:=Lib.hid (ExtBut.trans hXa.out (ExtBut.of_ext hx3))
  have hF4:=Ext.trans hF2 hx3
  clear hzb0
  obtain ⟨bM_0,bM_1,bM_2,bM_3,bM_4,bM_5,bM_l⟩:=bM.c6
  have bR_0 : World.cell? w3b ⟨w.heap.size+1,0,none⟩=some (.slice none 0 0):=bR.cell 0
  have bR_1 : World.cell? w3b ⟨w.heap.size+1,1,none⟩=some (.int .i64 0):=bR.cell 1
  have bR_2 : World.cell? w3b ⟨w.heap.size+1,2,none⟩=some (.slice none 0 0):=bR.cell 2
  have bR_3 : World.cell? w3b ⟨w.heap.size+1,3,none⟩=some (.slice none 0 0):=bR.cell 3
  have bR_4 : World.cell? w3b ⟨w.heap.size+1,4,none⟩=some (.int .i64 0):=bR.cell 4
  have bR_5 : World.cell? w3b ⟨w.heap.size+1,5,none⟩=some (.int .i64 0):=bR.cell 5
  have bR_f0 : World.frozen? w3b ⟨w.heap.size+1,0,none⟩=false:=bR.frozen 0
  have bR_f1 : World.frozen? w3b ⟨w.heap.size+1,1,none⟩=false:=bR.frozen 1
  have bR_f2 : World.frozen? w3b ⟨w.heap.size+1,2,none⟩=false:=bR.frozen 2
  have bR_f3 : World.frozen? w3b ⟨w.heap.size+1,3,none⟩=false:=bR.frozen 3
  have bR_f4 : World.frozen? w3b ⟨w.heap.size+1,4,none⟩=false:=bR.frozen 4
  have bR_f5 : World.frozen? w3b ⟨w.heap.size+1,5,none⟩=false:=bR.frozen 5
  have bR_l:=bR.lt
  have bP_0 : World.cell? w3b ⟨w.heap.size+2,0,none⟩=some (.int .i64 0):=bP.cell 0
  have bP_1 : World.cell? w3b ⟨w.heap.size+2,1,none⟩=some (.int .i64 0):=bP.cell 1
  have bP_2 : World.cell? w3b ⟨w.heap.size+2,2,none⟩=some (.int .i64 0):=bP.cell 2
  have bP_f0 : World.frozen? w3b ⟨w.heap.size+2,0,none⟩=false:=bP.frozen 0
  have bP_f1 : World.frozen? w3b ⟨w.heap.size+2,1,none⟩=false:=bP.frozen 1
  have bP_f2 : World.frozen? w3b ⟨w.heap.size+2,2,none⟩=false:=bP.frozen 2
  have bP_l:=bP.lt
  go_wp2
  rw [hres.out]
  have hXe : ExtBut (fun b=>w.heap.size≤b∧b < w.heap.size+3) w3b (World.setCell (World.setCell (World.setCell (World.setCell (World.setCell (World.setCell (World.setCell (World.setCell (World.setCell w3b ⟨w.heap.size+1,0,none⟩ (.slice none 0 0)) ⟨w.heap.size+1,1,none⟩ (.int .i64 0)) ⟨w.heap.size+1,2,none⟩ (.slice none 0 0)) ⟨w.heap.size+1,3,none⟩ (.slice none 0 0)) ⟨w.heap.size+1,4,none⟩ (.int .i64 0)) ⟨w.heap.size+1,5,none⟩ (.int .i64 0)) ⟨w.heap.size+2,0,none⟩ (.int .i64 0)) ⟨w.heap.size+2,1,none⟩ (.int .i64 0)) ⟨w.heap.size+2,2,none⟩ (.int .i64 0)):=by (repeat' with_reducible first | exact ExtBut.refl _ _ | refine ExtBut.dr ?_ | refine ExtBut.sc ?_ ?_ | fail) <;> dsimp only <;> omega
  refine bodyPost_ret (v := .tuple #[.agg #[.slice none 0 0,.int .i64 0,.slice none 0 0,.slice none 0 0,.int .i64 0,.int .i64 0],.agg #[.int .i64 0,.int .i64 0,.int .i64 0],.int .i64 18]) (by simp [results,Tryz.f7,go_sem,bR_0,bR_1,bR_2,bR_3,bR_4,bR_5,bP_0,bP_1,bP_2]) rfl ?_
  have hFe:=ExtBut.ext hF4 hXe (fun b h=>h.1)
  have hXae:=ExtBut.trans hXa.out hXe
  exact ⟨_,rfl,FrMon.zero _ _,hFe⟩
 have q2 : (m.tag == 1000000)=false:=beq_eq_false_iff_ne.2 ht
 have hres:=allocM_ok hok (by rw [har]) ht (size:=size)
 rw [har] at hres
 have htb:=hMok.tag
 have w1 : IntKind.i64.wrap (m.tag+1)=m.tag+1:=IntWalk.i64_in _ (by omega)
 have hnb : Hid (0≤n∧n≤1000000):=Hid.mk had.2.2.2.1
 have hsb : Hid (1≤size∧size≤2):=Hid.mk ⟨had.2.1,had.2.2.1⟩
 have htB : Hid (inB m.tag=true):=Hid.mk (by simp [inB];omega)
 have hll:=Lib.hid (by rw [hMok.len];exact had.2.2.2.2.1 : m.stks.length < 400)
 obtain ⟨BS,hBS⟩ : ∃ z,based size.toNat m.tag=z:=⟨_,rfl⟩
 rw [hBS] at hres
 replace hres:=Lib.hid hres;replace hBS:=Lib.hid hBS
 clear hok hMok had har ht htb
 obtain ⟨ii,iz,hi,hz,hi3,hz3,hby⟩:=Stacks.infoE
 replace hi:=Lib.hid hi;replace hz:=Lib.hid hz;replace hi3:=Lib.hid hi3;replace hz3:=Lib.hid hz3;replace hby:=Lib.hid hby
 go_enter Tryz.func7,Tryz.ntmps7
 obtain ⟨bM_0,bM_1,bM_2,bM_3,bM_4,bM_5,bM_l⟩:=bM.c6
 go_wp2_with fail
 clear bM_0 bM_1 bM_2 bM_3 bM_4 bM_5 bM_l
 refine (mon_Check' (hA.out.ext hE0) hn.out (hK.out.ext hE0) (hR.out.ext hE0)).mono ?_
 rintro e w1 ⟨rfl,hE1⟩
 replace bM:=bM.ext hE1
 replace bR:=bR.ext hE1
 replace bP:=bP.ext hE1
 have hF1:=Ext.trans hE0 hE1
 rw [hce.out]
 clear hw0
 obtain ⟨bM_0,bM_1,bM_2,bM_3,bM_4,bM_5,bM_l⟩:=bM.c6
 go_wp2_with fail
 clear bM_0 bM_1 bM_2 bM_3 bM_4 bM_5 bM_l
 have hXas:=Lib.hid (by have:=bP.lt;omega : w.heap.size+3≤w1.heap.size)
 refine (allocs_Add size (hA.out.ext hF1) hn.out).mono ?_
 rintro e w2 ⟨v,rfl,fM,hE2⟩
 replace bM:=bM.ext hE2
 replace bR:=bR.ext hE2
 replace bP:=bP.ext hE2
 have hF2:=Ext.trans hF1 hE2
 rw [harh.out] at fM ⊢
 obtain ⟨sx,rfl,hx⟩:=FrM.fs fM
 clear fM
 have hv:=hx.read.form
 obtain ⟨xa,xc,rfl,-⟩:=hv
 dsimp only at hx ⊢
 replace hx:=Lib.hid hx
 have hXa:=Lib.hid (ExtBut.refl (fun b=>w.heap.size≤b∧b < w.heap.size+3) w2)
 obtain ⟨bM_0,bM_1,bM_2,bM_3,bM_4,bM_5,bM_l⟩:=bM.c6
 go_wp2_with fail
 clear bM_0 bM_1 bM_2 bM_3 bM_4 bM_5 bM_l
 have szbQ:=Lib.hid (by have:=bP.lt;omega : w.heap.size+3≤w2.heap.size)
 have bQ:=Box.new w2 26 #[.slice xa x.al.length xc,.int .i64 x.next]
 have hzb0 : (World.alloc w2 (.cells #[.slice xa x.al.length xc,.int .i64 x.next] 26)).heap.size=w2.heap.size+1:=by rw [World.size_alloc]
 have hx3 : Ext w2 (World.alloc w2 (.cells #[.slice xa x.al.length xc,.int .i64 x.next] 26)):=(Ext.refl _).alloc _
 obtain ⟨w3b,hw3⟩ : ∃ z,World.alloc w2 (.cells #[.slice xa x.al.length xc,.int .i64 x.next] 26)=z:=⟨_,rfl⟩
 rw [hw3] at bQ hx3 hzb0 ⊢
 clear hw3
 replace bM:=bM.ext hx3
 replace bR:=bR.ext hx3
 replace bP:=bP.ext hx3
 replace hXa:=Lib.hid (ExtBut.trans hXa.out (ExtBut.of_ext hx3))
 have hF4:=Ext.trans hF2 hx3
 clear hzb0
 have hXks:=Lib.hid (by have:=bP.lt;omega : w.heap.size+3≤w3b.heap.size)
 have hXa_hXk:=Lib.hid hXa.out.size
 refine (stacks_New_go n size m.tag _ hnb.out hsb.out htB.out).mono ?_
 rintro e w5 ⟨vk,us,rfl,hOk,hE5⟩
 replace bM:=bM.ext hE5
 replace bR:=bR.ext hE5
 replace bP:=bP.ext hE5
 replace bQ:=bQ.ext hE5
 replace hXa:=Lib.hid (ExtBut.trans hXa.out (ExtBut.of_ext hE5))
 have hF5:=Ext.trans hF4 hE5
 rw [hBS.out] at hOk
 have hk:=OwnS.fs hOk
 clear hOk
 have hv:=hk.read.form
 obtain ⟨ska,skc,rfl,-⟩:=hv
 dsimp only at hk ⊢
 replace hk:=Lib.hid hk
 have hXk:=Lib.hid (ExtBut.refl (fun b=>w.heap.size≤b∧b < w.heap.size+3) w5)
 have hKs:=Lib.hid (hE5.size)
 obtain ⟨bM_0,bM_1,bM_2,bM_3,bM_4,bM_5,bM_l⟩:=bM.c6
 go_wp2_with fail
 clear bM_0 bM_1 bM_2 bM_3 bM_4 bM_5 bM_l
 have szbX:=Lib.hid (by have:=bP.lt;omega : w.heap.size+3≤w5.heap.size)
 have bX:=Box.new w5 69 #[.int .i64 n,.slice ska BS.length skc]
 have hzb0 : (World.alloc w5 (.cells #[.int .i64 n,.slice ska BS.length skc] 69)).heap.size=w5.heap.size+1:=by rw [World.size_alloc]
 have hx6 : Ext w5 (World.alloc w5 (.cells #[.int .i64 n,.slice ska BS.length skc] 69)):=(Ext.refl _).alloc _
 obtain ⟨w6b,hw6⟩ : ∃ z,World.alloc w5 (.cells #[.int .i64 n,.slice ska BS.length skc] 69)=z:=⟨_,rfl⟩
 rw [hw6] at bX hx6 hzb0 ⊢
 clear hw6
 replace bM:=bM.ext hx6
 replace bR:=bR.ext hx6
 replace bP:=bP.ext hx6
 replace bQ:=bQ.ext hx6
 replace hXa:=Lib.hid (ExtBut.trans hXa.out (ExtBut.of_ext hx6))
 replace hXk:=Lib.hid (ExtBut.trans hXk.out (ExtBut.of_ext hx6))
 have hF7:=Ext.trans hF5 hx6
 have szbPp:=szbX
 have bPp:=Box.new w6b 35 #[.int .i64 n,.int .i64 0,.int .i64 m.tag]
 rw [hzb0] at bPp
 have hzb1 : (World.alloc w6b (.cells #[.int .i64 n,.int .i64 0,.int .i64 m.tag] 35)).heap.size=w5.heap.size+2:=by rw [World.size_alloc,hzb0]
 have hx8 : Ext w6b (World.alloc w6b (.cells #[.int .i64 n,.int .i64 0,.int .i64 m.tag] 35)):=(Ext.refl _).alloc _
 obtain ⟨w8b,hw8⟩ : ∃ z,World.alloc w6b (.cells #[.int .i64 n,.int .i64 0,.int .i64 m.tag] 35)=z:=⟨_,rfl⟩
 rw [hw8] at bPp hx8 hzb1 ⊢
 clear hw8 hzb0
 replace bM:=bM.ext hx8
 replace bR:=bR.ext hx8
 replace bP:=bP.ext hx8
 replace bQ:=bQ.ext hx8
 replace bX:=bX.ext hx8
 replace hXa:=Lib.hid (ExtBut.trans hXa.out (ExtBut.of_ext hx8))
 replace hXk:=Lib.hid (ExtBut.trans hXk.out (ExtBut.of_ext hx8))
 have hF9:=Ext.trans hF7 hx8
 clear hzb1
 have hPl:=Lib.hid bPp.lt
 have hXcs:=Lib.hid (by have:=bP.lt;omega : w.heap.size+3≤w8b.heap.size)
 have hXa_hXc:=Lib.hid hXa.out.size
 have hXk_hXc:=Lib.hid hXk.out.size
 refine (monitor_clone (hA.out.ext hF9) (hK.out.ext hF9) (hR.out.ext hF9) hcl.out.1 hcl.out.2.1 hcl.out.2.2).mono ?_
 rintro e w10 ⟨c,ca,ck,cr,vs,rfl,hC,hE10⟩
 replace bM:=bM.ext hE10
 replace bR:=bR.ext hE10
 replace bP:=bP.ext hE10
 replace bQ:=bQ.ext hE10
 replace bX:=bX.ext hE10
 replace bPp:=bPp.ext hE10
 replace hXa:=Lib.hid (ExtBut.trans hXa.out (ExtBut.of_ext hE10))
 replace hXk:=Lib.hid (ExtBut.trans hXk.out (ExtBut.of_ext hE10))
 have hF10:=Ext.trans hF9 hE10
 have hv:=hC.al.read.form
 obtain ⟨ca,cac,rfl,-⟩:=hv
 have hv:=hC.outer.sl.slice_form
 obtain ⟨ck,ckc,rfl,-⟩:=hv
 have hv:=hC.run.read.form
 obtain ⟨cr,crc,rfl,-⟩:=hv
 replace hC:=Lib.hid hC
 have hXc:=Lib.hid (ExtBut.refl (fun b=>w.heap.size≤b∧b < w.heap.size+3) w10)
 have bM_0 : World.cell? w10 ⟨w.heap.size,0,none⟩=some (.slice aa m.mem.al.length ac):=bM.cell 0
 have bM_1 : World.cell? w10 ⟨w.heap.size,1,none⟩=some (.int .i64 m.mem.next):=bM.cell 1
 have bM_2 : World.cell? w10 ⟨w.heap.size,2,none⟩=some (.slice ka m.stks.length kc):=bM.cell 2
 have bM_3 : World.cell? w10 ⟨w.heap.size,3,none⟩=some (.slice ra m.run.length rc):=bM.cell 3
 have bM_4 : World.cell? w10 ⟨w.heap.size,4,none⟩=some (.int .i64 m.tag):=bM.cell 4
 have bM_5 : World.cell? w10 ⟨w.heap.size,5,none⟩=some (.int .i64 m.call):=bM.cell 5
 have bM_f0 : World.frozen? w10 ⟨w.heap.size,0,none⟩=false:=bM.frozen 0
 have bM_f1 : World.frozen? w10 ⟨w.heap.size,1,none⟩=false:=bM.frozen 1
 have bM_f2 : World.frozen? w10 ⟨w.heap.size,2,none⟩=false:=bM.frozen 2
 have bM_f3 : World.frozen? w10 ⟨w.heap.size,3,none⟩=false:=bM.frozen 3
 have bM_f4 : World.frozen? w10 ⟨w.heap.size,4,none⟩=false:=bM.frozen 4
 have bM_f5 : World.frozen? w10 ⟨w.heap.size,5,none⟩=false:=bM.frozen 5
 have bM_l:=bM.lt
 go_upto_region 12 with fail
 clear bM_0 bM_1 bM_2 bM_3 bM_4 bM_5 bM_f0 bM_f1 bM_f2 bM_f3 bM_f4 bM_f5 bM_l
 have hS11 : ExtBut (fun b=>w.heap.size≤b∧b < w.heap.size+3) w10 (World.setCell (World.setCell (World.setCell (World.setCell (World.setCell (World.setCell w10 ⟨w.heap.size,0,none⟩ (.slice ca m.mem.al.length cac)) ⟨w.heap.size,1,none⟩ (.int .i64 m.mem.next)) ⟨w.heap.size,2,none⟩ (.slice ck m.stks.length ckc)) ⟨w.heap.size,3,none⟩ (.slice cr m.run.length crc)) ⟨w.heap.size,4,none⟩ (.int .i64 m.tag)) ⟨w.heap.size,5,none⟩ (.int .i64 m.call)):=by (repeat' with_reducible first | exact ExtBut.refl _ _ | refine ExtBut.dr ?_ | refine ExtBut.sc ?_ ?_ | fail) <;> dsimp only <;> omega
 replace bM:=(Box.setL (Box.setL (Box.setL (Box.setL (Box.setL (Box.setL bM 0 (.slice ca m.mem.al.length cac)) 1 (.int .i64 m.mem.next)) 2 (.slice ck m.stks.length ckc)) 3 (.slice cr m.run.length crc)) 4 (.int .i64 m.tag)) 5 (.int .i64 m.call))
 simp only [List.set_cons_zero,List.set_cons_succ] at bM
 replace bR:=(Box.other (Box.other (Box.other (Box.other (Box.other (Box.other bR (p:=⟨w.heap.size,0,none⟩) (by simp) (.slice ca m.mem.al.length cac)) (p:=⟨w.heap.size,1,none⟩) (by simp) (.int .i64 m.mem.next)) (p:=⟨w.heap.size,2,none⟩) (by simp) (.slice ck m.stks.length ckc)) (p:=⟨w.heap.size,3,none⟩) (by simp) (.slice cr m.run.length crc)) (p:=⟨w.heap.size,4,none⟩) (by simp) (.int .i64 m.tag)) (p:=⟨w.heap.size,5,none⟩) (by simp) (.int .i64 m.call))
 replace bP:=(Box.other (Box.other (Box.other (Box.other (Box.other (Box.other bP (p:=⟨w.heap.size,0,none⟩) (by simp) (.slice ca m.mem.al.length cac)) (p:=⟨w.heap.size,1,none⟩) (by simp) (.int .i64 m.mem.next)) (p:=⟨w.heap.size,2,none⟩) (by simp) (.slice ck m.stks.length ckc)) (p:=⟨w.heap.size,3,none⟩) (by simp) (.slice cr m.run.length crc)) (p:=⟨w.heap.size,4,none⟩) (by simp) (.int .i64 m.tag)) (p:=⟨w.heap.size,5,none⟩) (by simp) (.int .i64 m.call))
 replace bQ:=(Box.other (Box.other (Box.other (Box.other (Box.other (Box.other bQ (p:=⟨w.heap.size,0,none⟩) (by have:=szbQ.out;show w.heap.size≠w2.heap.size;omega) (.slice ca m.mem.al.length cac)) (p:=⟨w.heap.size,1,none⟩) (by have:=szbQ.out;show w.heap.size≠w2.heap.size;omega) (.int .i64 m.mem.next)) (p:=⟨w.heap.size,2,none⟩) (by have:=szbQ.out;show w.heap.size≠w2.heap.size;omega) (.slice ck m.stks.length ckc)) (p:=⟨w.heap.size,3,none⟩) (by have:=szbQ.out;show w.heap.size≠w2.heap.size;omega) (.slice cr m.run.length crc)) (p:=⟨w.heap.size,4,none⟩) (by have:=szbQ.out;show w.heap.size≠w2.heap.size;omega) (.int .i64 m.tag)) (p:=⟨w.heap.size,5,none⟩) (by have:=szbQ.out;show w.heap.size≠w2.heap.size;omega) (.int .i64 m.call))
 replace bX:=(Box.other (Box.other (Box.other (Box.other (Box.other (Box.other bX (p:=⟨w.heap.size,0,none⟩) (by have:=szbX.out;show w.heap.size≠w5.heap.size;omega) (.slice ca m.mem.al.length cac)) (p:=⟨w.heap.size,1,none⟩) (by have:=szbX.out;show w.heap.size≠w5.heap.size;omega) (.int .i64 m.mem.next)) (p:=⟨w.heap.size,2,none⟩) (by have:=szbX.out;show w.heap.size≠w5.heap.size;omega) (.slice ck m.stks.length ckc)) (p:=⟨w.heap.size,3,none⟩) (by have:=szbX.out;show w.heap.size≠w5.heap.size;omega) (.slice cr m.run.length crc)) (p:=⟨w.heap.size,4,none⟩) (by have:=szbX.out;show w.heap.size≠w5.heap.size;omega) (.int .i64 m.tag)) (p:=⟨w.heap.size,5,none⟩) (by have:=szbX.out;show w.heap.size≠w5.heap.size;omega) (.int .i64 m.call))
 replace bPp:=(Box.other (Box.other (Box.other (Box.other (Box.other (Box.other bPp (p:=⟨w.heap.size,0,none⟩) (by have:=szbPp.out;show w.heap.size≠w5.heap.size+1;omega) (.slice ca m.mem.al.length cac)) (p:=⟨w.heap.size,1,none⟩) (by have:=szbPp.out;show w.heap.size≠w5.heap.size+1;omega) (.int .i64 m.mem.next)) (p:=⟨w.heap.size,2,none⟩) (by have:=szbPp.out;show w.heap.size≠w5.heap.size+1;omega) (.slice ck m.stks.length ckc)) (p:=⟨w.heap.size,3,none⟩) (by have:=szbPp.out;show w.heap.size≠w5.heap.size+1;omega) (.slice cr m.run.length crc)) (p:=⟨w.heap.size,4,none⟩) (by have:=szbPp.out;show w.heap.size≠w5.heap.size+1;omega) (.int .i64 m.tag)) (p:=⟨w.heap.size,5,none⟩) (by have:=szbPp.out;show w.heap.size≠w5.heap.size+1;omega) (.int .i64 m.call))
 obtain ⟨w11s,hw11⟩ : ∃ z,(World.setCell (World.setCell (World.setCell (World.setCell (World.setCell (World.setCell w10 ⟨w.heap.size,0,none⟩ (.slice ca m.mem.al.length cac)) ⟨w.heap.size,1,none⟩ (.int .i64 m.mem.next)) ⟨w.heap.size,2,none⟩ (.slice ck m.stks.length ckc)) ⟨w.heap.size,3,none⟩ (.slice cr m.run.length crc)) ⟨w.heap.size,4,none⟩ (.int .i64 m.tag)) ⟨w.heap.size,5,none⟩ (.int .i64 m.call))=z:=⟨_,rfl⟩
 rw [hw11] at hS11 bM bR bP bQ bX bPp ⊢
 clear hw11
 have hF11:=ExtBut.ext hF10 hS11 (fun b h=>h.1)
 replace hXa:=Lib.hid (ExtBut.trans hXa.out hS11)
 replace hXk:=Lib.hid (ExtBut.trans hXk.out hS11)
 replace hXc:=Lib.hid (ExtBut.trans hXc.out hS11)
 clear hS11
 have bM_0 : World.cell? w11s ⟨w.heap.size,0,none⟩=some (.slice ca m.mem.al.length cac):=bM.cell 0
 have bM_1 : World.cell? w11s ⟨w.heap.size,1,none⟩=some (.int .i64 m.mem.next):=bM.cell 1
 have bM_2 : World.cell? w11s ⟨w.heap.size,2,none⟩=some (.slice ck m.stks.length ckc):=bM.cell 2
 have bM_3 : World.cell? w11s ⟨w.heap.size,3,none⟩=some (.slice cr m.run.length crc):=bM.cell 3
 have bM_4 : World.cell? w11s ⟨w.heap.size,4,none⟩=some (.int .i64 m.tag):=bM.cell 4
 have bM_5 : World.cell? w11s ⟨w.heap.size,5,none⟩=some (.int .i64 m.call):=bM.cell 5
 have bM_f0 : World.frozen? w11s ⟨w.heap.size,0,none⟩=false:=bM.frozen 0
 have bM_f1 : World.frozen? w11s ⟨w.heap.size,1,none⟩=false:=bM.frozen 1
 have bM_f2 : World.frozen? w11s ⟨w.heap.size,2,none⟩=false:=bM.frozen 2
 have bM_f3 : World.frozen? w11s ⟨w.heap.size,3,none⟩=false:=bM.frozen 3
 have bM_f4 : World.frozen? w11s ⟨w.heap.size,4,none⟩=false:=bM.frozen 4
 have bM_f5 : World.frozen? w11s ⟨w.heap.size,5,none⟩=false:=bM.frozen 5
 have bM_l:=bM.lt
 obtain ⟨bQ_0,bQ_1,bQ_l⟩:=bQ.c2
 go_upto_region 13 with fail
 clear bM_0 bM_1 bM_2 bM_3 bM_4 bM_5 bM_f0 bM_f1 bM_f2 bM_f3 bM_f4 bM_f5 bM_l bQ_0 bQ_1 bQ_l
 have hS12 : ExtBut (fun b=>w.heap.size≤b∧b < w.heap.size+3) w11s (World.setCell (World.setCell w11s ⟨w.heap.size,0,none⟩ (.slice xa x.al.length xc)) ⟨w.heap.size,1,none⟩ (.int .i64 x.next)):=by (repeat' with_reducible first | exact ExtBut.refl _ _ | refine ExtBut.dr ?_ | refine ExtBut.sc ?_ ?_ | fail) <;> dsimp only <;> omega
 replace bM:=(Box.setL (Box.setL bM 0 (.slice xa x.al.length xc)) 1 (.int .i64 x.next))
 simp only [List.set_cons_zero,List.set_cons_succ] at bM
 replace bR:=(Box.other (Box.other bR (p:=⟨w.heap.size,0,none⟩) (by simp) (.slice xa x.al.length xc)) (p:=⟨w.heap.size,1,none⟩) (by simp) (.int .i64 x.next))
 replace bP:=(Box.other (Box.other bP (p:=⟨w.heap.size,0,none⟩) (by simp) (.slice xa x.al.length xc)) (p:=⟨w.heap.size,1,none⟩) (by simp) (.int .i64 x.next))
 replace bQ:=(Box.other (Box.other bQ (p:=⟨w.heap.size,0,none⟩) (by have:=szbQ.out;show w.heap.size≠w2.heap.size;omega) (.slice xa x.al.length xc)) (p:=⟨w.heap.size,1,none⟩) (by have:=szbQ.out;show w.heap.size≠w2.heap.size;omega) (.int .i64 x.next))
 replace bX:=(Box.other (Box.other bX (p:=⟨w.heap.size,0,none⟩) (by have:=szbX.out;show w.heap.size≠w5.heap.size;omega) (.slice xa x.al.length xc)) (p:=⟨w.heap.size,1,none⟩) (by have:=szbX.out;show w.heap.size≠w5.heap.size;omega) (.int .i64 x.next))
 replace bPp:=(Box.other (Box.other bPp (p:=⟨w.heap.size,0,none⟩) (by have:=szbPp.out;show w.heap.size≠w5.heap.size+1;omega) (.slice xa x.al.length xc)) (p:=⟨w.heap.size,1,none⟩) (by have:=szbPp.out;show w.heap.size≠w5.heap.size+1;omega) (.int .i64 x.next))
 obtain ⟨w12s,hw12⟩ : ∃ z,(World.setCell (World.setCell w11s ⟨w.heap.size,0,none⟩ (.slice xa x.al.length xc)) ⟨w.heap.size,1,none⟩ (.int .i64 x.next))=z:=⟨_,rfl⟩
 rw [hw12] at hS12 bM bR bP bQ bX bPp ⊢
 clear hw12
 have hF12:=ExtBut.ext hF11 hS12 (fun b h=>h.1)
 replace hXa:=Lib.hid (ExtBut.trans hXa.out hS12)
 replace hXk:=Lib.hid (ExtBut.trans hXk.out hS12)
 replace hXc:=Lib.hid (ExtBut.trans hXc.out hS12)
 clear hS12
 have hOK : OwnK w12s w3b.heap.size (.slice ck m.stks.length ckc) vs m.stks:=OwnK.mono (OwnK.but (Cloned.own hC.out) hXc.out (fun b h1 h2=>by have:=hXcs.out;omega)) (by have h1:=hXk_hXc.out;have h2:=hKs.out;omega)
 have hRun : Fq (fun b=>w.heap.size+3≤b∧(Value.slice ck m.stks.length ckc).ownBlock≠some b) w12s (fun w=>Nts w (.slice cr m.run.length crc) m.run):=hC.out.run.to hXc.out (fun b h1 _ h2=>by have:=hXcs.out;omega) (fun b h1 _=>⟨by have:=hXcs.out;omega,fun e=>by have:=hC.out.out0 b e;omega⟩)
 have hMem : Fq (fun b=>w.heap.size+3≤b∧(Value.slice ck m.stks.length ckc).ownBlock≠some b) w12s (fun w=>Als w (.slice xa x.al.length xc) x.al):=hx.out.to hXa.out (fun b h1 _ h2=>by have:=hXas.out;omega) (fun b h1 h2=>⟨by have:=hXas.out;omega,fun e=>by have h3:=(hC.out.outer.lt e).1;have h4:=hXa_hXc.out;omega⟩)
 have hStk : Fq (fun b=>w3b.heap.size≤b∧(Value.slice ck m.stks.length ckc).ownBlock≠some b) w12s (fun w=>Sts w (.slice ska BS.length skc) BS):=hk.out.to hXk.out (fun b h1 _ h2=>by have:=hXks.out;omega) (fun b h1 h2=>⟨h1,fun e=>by have h3:=(hC.out.outer.lt e).1;have h4:=hXk_hXc.out;omega⟩)
 replace hOK:=Lib.hid hOK;replace hRun:=Lib.hid hRun;replace hMem:=Lib.hid hMem;replace hStk:=Lib.hid hStk
 have hB : Hid (w3b.heap.size≤w12s.heap.size):=Hid.mk (by have h1:=hXk.out.size;have h2:=hKs.out;omega)
 have bM_0 : World.cell? w12s ⟨w.heap.size,0,none⟩=some (.slice xa x.al.length xc):=bM.cell 0
 have bM_1 : World.cell? w12s ⟨w.heap.size,1,none⟩=some (.int .i64 x.next):=bM.cell 1
 have bM_2 : World.cell? w12s ⟨w.heap.size,2,none⟩=some (.slice ck m.stks.length ckc):=bM.cell 2
 have bM_3 : World.cell? w12s ⟨w.heap.size,3,none⟩=some (.slice cr m.run.length crc):=bM.cell 3
 have bM_4 : World.cell? w12s ⟨w.heap.size,4,none⟩=some (.int .i64 m.tag):=bM.cell 4
 have bM_5 : World.cell? w12s ⟨w.heap.size,5,none⟩=some (.int .i64 m.call):=bM.cell 5
 have bM_f0 : World.frozen? w12s ⟨w.heap.size,0,none⟩=false:=bM.frozen 0
 have bM_f1 : World.frozen? w12s ⟨w.heap.size,1,none⟩=false:=bM.frozen 1
 have bM_f2 : World.frozen? w12s ⟨w.heap.size,2,none⟩=false:=bM.frozen 2
 have bM_f3 : World.frozen? w12s ⟨w.heap.size,3,none⟩=false:=bM.frozen 3
 have bM_f4 : World.frozen? w12s ⟨w.heap.size,4,none⟩=false:=bM.frozen 4
 have bM_f5 : World.frozen? w12s ⟨w.heap.size,5,none⟩=false:=bM.frozen 5
 have bM_l:=bM.lt
 obtain ⟨bX_0,bX_1,bX_l⟩:=bX.c2
 go_wp2_with (at_builtin;refine Hid.out ?_)
 clear bM_0 bM_1 bM_2 bM_3 bM_4 bM_5 bM_f0 bM_f1 bM_f2 bM_f3 bM_f4 bM_f5 bM_l bX_0 bX_1 bX_l
 refine Hid.mk ?_
 have hEx : Ext w12s (World.alloc w12s (.cells #[.int .i64 n,.slice ska BS.length skc] 69)):=(Ext.refl _).alloc _
 have hlit : Sl (World.alloc w12s (.cells #[.int .i64 n,.slice ska BS.length skc] 69)) 2 (.slice (some ⟨w12s.heap.size,0,none⟩) 1 1) 1 (krow (.slice ska BS.length skc) ⟨n,BS⟩):=(Own.lit' (B:=0) (e:=69) (k:=2) w12s #[.int .i64 n,.slice ska BS.length skc] 1 (Nat.zero_le _) (by simp [maxLen]) rfl).sl
 refine wpList_append_any rfl _ _ 27 27 rfl rfl rfl Tryz.underlying27 Tryz.underlying27 hi.out hz.out hi3.out hz3.out (hOK.out.ext hEx).outer hlit (by simp [krow,Value.oneCell']) (by have:=hll.out;simp [maxLen];omega) (by rw [hby.out];have:=hll.out;omega) (Nat.le_trans hB.out hEx.size) ?_
 intro v' wap hO' hK' hb' _
 have hv:=hO'.sl.slice_form
 obtain ⟨va,vc,rfl,-⟩:=hv
 have hP:=OwnK.push (x:=⟨n,BS⟩) (hOK.out.ext hEx) (Fq.ext hStk.out hEx) hO' hK' hb'
 have hRun2:=Fq.keeps (Fq.ext hRun.out hEx) hK' hb'
 have hMem2:=Fq.keeps (Fq.ext hMem.out hEx) hK' hb'
 have hSk:=ExtBut.of_keeps hK'
 have hown : ∀ b,(Value.slice ck m.stks.length ckc).ownBlock=some b→w8b.heap.size≤b:=fun b e=>(hC.out.outer.lt e).1
 replace bM:=Box.but (Box.ext bM hEx) hSk (fun h=>by have h1:=hown _ h;have h2:=hXcs.out;omega)
 replace bR:=Box.but (Box.ext bR hEx) hSk (fun h=>by have h1:=hown _ h;have h2:=hXcs.out;omega)
 replace bP:=Box.but (Box.ext bP hEx) hSk (fun h=>by have h1:=hown _ h;have h2:=hXcs.out;omega)
 replace bPp:=Box.but (Box.ext bPp hEx) hSk (fun h=>by have h1:=hown _ h;have h2:=hPl.out;omega)
 have hFap:=ExtBut.ext (Ext.trans hF12 hEx) hSk (fun b h=>by have h1:=hown b h;have h2:=hXcs.out;omega)
 replace hP:=Lib.hid hP;replace hRun2:=Lib.hid hRun2;replace hMem2:=Lib.hid hMem2
 clear hO' hK' hb' hSk hown hlit hEx hOK hRun hMem hStk bQ bX hXa hXk hXc
 have hXz:=Lib.hid (ExtBut.refl (fun b=>w.heap.size≤b∧b < w.heap.size+3) wap)
 have bM_0 : World.cell? wap ⟨w.heap.size,0,none⟩=some (.slice xa x.al.length xc):=bM.cell 0
 have bM_1 : World.cell? wap ⟨w.heap.size,1,none⟩=some (.int .i64 x.next):=bM.cell 1
 have bM_2 : World.cell? wap ⟨w.heap.size,2,none⟩=some (.slice ck m.stks.length ckc):=bM.cell 2
 have bM_3 : World.cell? wap ⟨w.heap.size,3,none⟩=some (.slice cr m.run.length crc):=bM.cell 3
 have bM_4 : World.cell? wap ⟨w.heap.size,4,none⟩=some (.int .i64 m.tag):=bM.cell 4
 have bM_5 : World.cell? wap ⟨w.heap.size,5,none⟩=some (.int .i64 m.call):=bM.cell 5
 have bM_f0 : World.frozen? wap ⟨w.heap.size,0,none⟩=false:=bM.frozen 0
 have bM_f1 : World.frozen? wap ⟨w.heap.size,1,none⟩=false:=bM.frozen 1
 have bM_f2 : World.frozen? wap ⟨w.heap.size,2,none⟩=false:=bM.frozen 2
 have bM_f3 : World.frozen? wap ⟨w.heap.size,3,none⟩=false:=bM.frozen 3
 have bM_f4 : World.frozen? wap ⟨w.heap.size,4,none⟩=false:=bM.frozen 4
 have bM_f5 : World.frozen? wap ⟨w.heap.size,5,none⟩=false:=bM.frozen 5
 have bM_l:=bM.lt
 go_upto_region 14 with fail
 clear bM_0 bM_1 bM_2 bM_3 bM_4 bM_5 bM_f0 bM_f1 bM_f2 bM_f3 bM_f4 bM_f5 bM_l
 have hS13 : ExtBut (fun b=>w.heap.size≤b∧b < w.heap.size+3) wap (World.setCell wap ⟨w.heap.size,2,none⟩ (.slice va (m.stks.length+1) vc)):=((ExtBut.setCell wap ⟨w.heap.size,2,none⟩ (.slice va (m.stks.length+1) vc)).mono (S':=(fun b=>w.heap.size≤b∧b < w.heap.size+3)) (fun b _ h=>by have h' : b=w.heap.size:=h;omega))
 replace bM:=(Box.setL bM 2 (.slice va (m.stks.length+1) vc))
 simp only [List.set_cons_zero,List.set_cons_succ] at bM
 replace bR:=(Box.other bR (p:=⟨w.heap.size,2,none⟩) (by simp) (.slice va (m.stks.length+1) vc))
 replace bP:=(Box.other bP (p:=⟨w.heap.size,2,none⟩) (by simp) (.slice va (m.stks.length+1) vc))
 replace bPp:=(Box.other bPp (p:=⟨w.heap.size,2,none⟩) (by have:=szbPp.out;show w.heap.size≠w5.heap.size+1;omega) (.slice va (m.stks.length+1) vc))
 obtain ⟨w13s,hw13⟩ : ∃ z,(World.setCell wap ⟨w.heap.size,2,none⟩ (.slice va (m.stks.length+1) vc))=z:=⟨_,rfl⟩
 rw [hw13] at hS13 bM bR bP bPp ⊢
 clear hw13
 have hF13:=ExtBut.ext hFap hS13 (fun b h=>h.1)
 replace hXz:=Lib.hid (ExtBut.trans hXz.out hS13)
 clear hS13
 have bM_0 : World.cell? w13s ⟨w.heap.size,0,none⟩=some (.slice xa x.al.length xc):=bM.cell 0
 have bM_1 : World.cell? w13s ⟨w.heap.size,1,none⟩=some (.int .i64 x.next):=bM.cell 1
 have bM_2 : World.cell? w13s ⟨w.heap.size,2,none⟩=some (.slice va (m.stks.length+1) vc):=bM.cell 2
 have bM_3 : World.cell? w13s ⟨w.heap.size,3,none⟩=some (.slice cr m.run.length crc):=bM.cell 3
 have bM_4 : World.cell? w13s ⟨w.heap.size,4,none⟩=some (.int .i64 m.tag):=bM.cell 4
 have bM_5 : World.cell? w13s ⟨w.heap.size,5,none⟩=some (.int .i64 m.call):=bM.cell 5
 have bM_f0 : World.frozen? w13s ⟨w.heap.size,0,none⟩=false:=bM.frozen 0
 have bM_f1 : World.frozen? w13s ⟨w.heap.size,1,none⟩=false:=bM.frozen 1
 have bM_f2 : World.frozen? w13s ⟨w.heap.size,2,none⟩=false:=bM.frozen 2
 have bM_f3 : World.frozen? w13s ⟨w.heap.size,3,none⟩=false:=bM.frozen 3
 have bM_f4 : World.frozen? w13s ⟨w.heap.size,4,none⟩=false:=bM.frozen 4
 have bM_f5 : World.frozen? w13s ⟨w.heap.size,5,none⟩=false:=bM.frozen 5
 have bM_l:=bM.lt
 go_upto_region 15 with fail
 clear bM_0 bM_1 bM_2 bM_3 bM_4 bM_5 bM_f0 bM_f1 bM_f2 bM_f3 bM_f4 bM_f5 bM_l
 have hS14 : ExtBut (fun b=>w.heap.size≤b∧b < w.heap.size+3) w13s (World.setCell w13s ⟨w.heap.size,4,none⟩ (.int .i64 (m.tag+1))):=((ExtBut.setCell w13s ⟨w.heap.size,4,none⟩ (.int .i64 (m.tag+1))).mono (S':=(fun b=>w.heap.size≤b∧b < w.heap.size+3)) (fun b _ h=>by have h' : b=w.heap.size:=h;omega))
 replace bM:=(Box.setL bM 4 (.int .i64 (m.tag+1)))
 simp only [List.set_cons_zero,List.set_cons_succ] at bM
 replace bR:=(Box.other bR (p:=⟨w.heap.size,4,none⟩) (by simp) (.int .i64 (m.tag+1)))
 replace bP:=(Box.other bP (p:=⟨w.heap.size,4,none⟩) (by simp) (.int .i64 (m.tag+1)))
 replace bPp:=(Box.other bPp (p:=⟨w.heap.size,4,none⟩) (by have:=szbPp.out;show w.heap.size≠w5.heap.size+1;omega) (.int .i64 (m.tag+1)))
 obtain ⟨w14s,hw14⟩ : ∃ z,(World.setCell w13s ⟨w.heap.size,4,none⟩ (.int .i64 (m.tag+1)))=z:=⟨_,rfl⟩
 rw [hw14] at hS14 bM bR bP bPp ⊢
 clear hw14
 have hF14:=ExtBut.ext hF13 hS14 (fun b h=>h.1)
 replace hXz:=Lib.hid (ExtBut.trans hXz.out hS14)
 clear hS14
 obtain ⟨bM_0,bM_1,bM_2,bM_3,bM_4,bM_5,bM_l⟩:=bM.c6
 have bR_0 : World.cell? w14s ⟨w.heap.size+1,0,none⟩=some (.slice none 0 0):=bR.cell 0
 have bR_1 : World.cell? w14s ⟨w.heap.size+1,1,none⟩=some (.int .i64 0):=bR.cell 1
 have bR_2 : World.cell? w14s ⟨w.heap.size+1,2,none⟩=some (.slice none 0 0):=bR.cell 2
 have bR_3 : World.cell? w14s ⟨w.heap.size+1,3,none⟩=some (.slice none 0 0):=bR.cell 3
 have bR_4 : World.cell? w14s ⟨w.heap.size+1,4,none⟩=some (.int .i64 0):=bR.cell 4
 have bR_5 : World.cell? w14s ⟨w.heap.size+1,5,none⟩=some (.int .i64 0):=bR.cell 5
 have bR_f0 : World.frozen? w14s ⟨w.heap.size+1,0,none⟩=false:=bR.frozen 0
 have bR_f1 : World.frozen? w14s ⟨w.heap.size+1,1,none⟩=false:=bR.frozen 1
 have bR_f2 : World.frozen? w14s ⟨w.heap.size+1,2,none⟩=false:=bR.frozen 2
 have bR_f3 : World.frozen? w14s ⟨w.heap.size+1,3,none⟩=false:=bR.frozen 3
 have bR_f4 : World.frozen? w14s ⟨w.heap.size+1,4,none⟩=false:=bR.frozen 4
 have bR_f5 : World.frozen? w14s ⟨w.heap.size+1,5,none⟩=false:=bR.frozen 5
 have bR_l:=bR.lt
 have bP_0 : World.cell? w14s ⟨w.heap.size+2,0,none⟩=some (.int .i64 0):=bP.cell 0
 have bP_1 : World.cell? w14s ⟨w.heap.size+2,1,none⟩=some (.int .i64 0):=bP.cell 1
 have bP_2 : World.cell? w14s ⟨w.heap.size+2,2,none⟩=some (.int .i64 0):=bP.cell 2
 have bP_f0 : World.frozen? w14s ⟨w.heap.size+2,0,none⟩=false:=bP.frozen 0
 have bP_f1 : World.frozen? w14s ⟨w.heap.size+2,1,none⟩=false:=bP.frozen 1
 have bP_f2 : World.frozen? w14s ⟨w.heap.size+2,2,none⟩=false:=bP.frozen 2
 have bP_l:=bP.lt
 obtain ⟨bPp_0,bPp_1,bPp_2,bPp_l⟩:=bPp.c3
 have ne1 : w.heap.size+1≠w5.heap.size+1:=by have:=szbPp.out;omega
 have en1 : w5.heap.size+1≠w.heap.size+1:=by have:=szbPp.out;omega
 have ne2 : w.heap.size+2≠w5.heap.size+1:=by have:=szbPp.out;omega
 have en2 : w5.heap.size+1≠w.heap.size+2:=by have:=szbPp.out;omega
 go_region
 go_wp2
 rw [hres.out]
 have hXe : ExtBut (fun b=>w.heap.size≤b∧b < w.heap.size+3) w14s (World.drew (World.setCell (World.setCell (World.setCell (World.setCell (World.setCell (World.setCell (World.setCell (World.setCell (World.setCell w14s ⟨w.heap.size+1,0,none⟩ (.slice xa x.al.length xc)) ⟨w.heap.size+1,1,none⟩ (.int .i64 x.next)) ⟨w.heap.size+1,2,none⟩ (.slice va (m.stks.length+1) vc)) ⟨w.heap.size+1,3,none⟩ (.slice cr m.run.length crc)) ⟨w.heap.size+1,4,none⟩ (.int .i64 (m.tag+1))) ⟨w.heap.size+1,5,none⟩ (.int .i64 m.call)) ⟨w.heap.size+2,0,none⟩ (.int .i64 n)) ⟨w.heap.size+2,1,none⟩ (.int .i64 0)) ⟨w.heap.size+2,2,none⟩ (.int .i64 m.tag))):=(ExtBut.trans (ExtBut.trans (ExtBut.trans (ExtBut.trans (ExtBut.trans (ExtBut.trans (ExtBut.trans (ExtBut.trans (ExtBut.trans ((ExtBut.setCell w14s ⟨w.heap.size+1,0,none⟩ (.slice xa x.al.length xc)).mono (S':=(fun b=>w.heap.size≤b∧b < w.heap.size+3)) (fun b _ h=>by have h' : b=w.heap.size+1:=h;omega)) ((ExtBut.setCell (World.setCell w14s ⟨w.heap.size+1,0,none⟩ (.slice xa x.al.length xc)) ⟨w.heap.size+1,1,none⟩ (.int .i64 x.next)).mono (S':=(fun b=>w.heap.size≤b∧b < w.heap.size+3)) (fun b _ h=>by have h' : b=w.heap.size+1:=h;omega))) ((ExtBut.setCell (World.setCell (World.setCell w14s ⟨w.heap.size+1,0,none⟩ (.slice xa x.al.length xc)) ⟨w.heap.size+1,1,none⟩ (.int .i64 x.next)) ⟨w.heap.size+1,2,none⟩ (.slice va (m.stks.length+1) vc)).mono (S':=(fun b=>w.heap.size≤b∧b < w.heap.size+3)) (fun b _ h=>by have h' : b=w.heap.size+1:=h;omega))) ((ExtBut.setCell (World.setCell (World.setCell (World.setCell w14s ⟨w.heap.size+1,0,none⟩ (.slice xa x.al.length xc)) ⟨w.heap.size+1,1,none⟩ (.int .i64 x.next)) ⟨w.heap.size+1,2,none⟩ (.slice va (m.stks.length+1) vc)) ⟨w.heap.size+1,3,none⟩ (.slice cr m.run.length crc)).mono (S':=(fun b=>w.heap.size≤b∧b < w.heap.size+3)) (fun b _ h=>by have h' : b=w.heap.size+1:=h;omega))) ((ExtBut.setCell (World.setCell (World.setCell (World.setCell (World.setCell w14s ⟨w.heap.size+1,0,none⟩ (.slice xa x.al.length xc)) ⟨w.heap.size+1,1,none⟩ (.int .i64 x.next)) ⟨w.heap.size+1,2,none⟩ (.slice va (m.stks.length+1) vc)) ⟨w.heap.size+1,3,none⟩ (.slice cr m.run.length crc)) ⟨w.heap.size+1,4,none⟩ (.int .i64 (m.tag+1))).mono (S':=(fun b=>w.heap.size≤b∧b < w.heap.size+3)) (fun b _ h=>by have h' : b=w.heap.size+1:=h;omega))) ((ExtBut.setCell (World.setCell (World.setCell (World.setCell (World.setCell (World.setCell w14s ⟨w.heap.size+1,0,none⟩ (.slice xa x.al.length xc)) ⟨w.heap.size+1,1,none⟩ (.int .i64 x.next)) ⟨w.heap.size+1,2,none⟩ (.slice va (m.stks.length+1) vc)) ⟨w.heap.size+1,3,none⟩ (.slice cr m.run.length crc)) ⟨w.heap.size+1,4,none⟩ (.int .i64 (m.tag+1))) ⟨w.heap.size+1,5,none⟩ (.int .i64 m.call)).mono (S':=(fun b=>w.heap.size≤b∧b < w.heap.size+3)) (fun b _ h=>by have h' : b=w.heap.size+1:=h;omega))) ((ExtBut.setCell (World.setCell (World.setCell (World.setCell (World.setCell (World.setCell (World.setCell w14s ⟨w.heap.size+1,0,none⟩ (.slice xa x.al.length xc)) ⟨w.heap.size+1,1,none⟩ (.int .i64 x.next)) ⟨w.heap.size+1,2,none⟩ (.slice va (m.stks.length+1) vc)) ⟨w.heap.size+1,3,none⟩ (.slice cr m.run.length crc)) ⟨w.heap.size+1,4,none⟩ (.int .i64 (m.tag+1))) ⟨w.heap.size+1,5,none⟩ (.int .i64 m.call)) ⟨w.heap.size+2,0,none⟩ (.int .i64 n)).mono (S':=(fun b=>w.heap.size≤b∧b < w.heap.size+3)) (fun b _ h=>by have h' : b=w.heap.size+2:=h;omega))) ((ExtBut.setCell (World.setCell (World.setCell (World.setCell (World.setCell (World.setCell (World.setCell (World.setCell w14s ⟨w.heap.size+1,0,none⟩ (.slice xa x.al.length xc)) ⟨w.heap.size+1,1,none⟩ (.int .i64 x.next)) ⟨w.heap.size+1,2,none⟩ (.slice va (m.stks.length+1) vc)) ⟨w.heap.size+1,3,none⟩ (.slice cr m.run.length crc)) ⟨w.heap.size+1,4,none⟩ (.int .i64 (m.tag+1))) ⟨w.heap.size+1,5,none⟩ (.int .i64 m.call)) ⟨w.heap.size+2,0,none⟩ (.int .i64 n)) ⟨w.heap.size+2,1,none⟩ (.int .i64 0)).mono (S':=(fun b=>w.heap.size≤b∧b < w.heap.size+3)) (fun b _ h=>by have h' : b=w.heap.size+2:=h;omega))) ((ExtBut.setCell (World.setCell (World.setCell (World.setCell (World.setCell (World.setCell (World.setCell (World.setCell (World.setCell w14s ⟨w.heap.size+1,0,none⟩ (.slice xa x.al.length xc)) ⟨w.heap.size+1,1,none⟩ (.int .i64 x.next)) ⟨w.heap.size+1,2,none⟩ (.slice va (m.stks.length+1) vc)) ⟨w.heap.size+1,3,none⟩ (.slice cr m.run.length crc)) ⟨w.heap.size+1,4,none⟩ (.int .i64 (m.tag+1))) ⟨w.heap.size+1,5,none⟩ (.int .i64 m.call)) ⟨w.heap.size+2,0,none⟩ (.int .i64 n)) ⟨w.heap.size+2,1,none⟩ (.int .i64 0)) ⟨w.heap.size+2,2,none⟩ (.int .i64 m.tag)).mono (S':=(fun b=>w.heap.size≤b∧b < w.heap.size+3)) (fun b _ h=>by have h' : b=w.heap.size+2:=h;omega))) (ExtBut.of_ext (Ext.refl _).drew))
 refine bodyPost_ret (v := .tuple #[.agg #[.slice xa x.al.length xc,.int .i64 x.next,.slice va (m.stks.length+1) vc,.slice cr m.run.length crc,.int .i64 (m.tag+1),.int .i64 m.call],.agg #[.int .i64 n,.int .i64 0,.int .i64 m.tag],.int .i64 0]) (by simp [results,Tryz.f7,go_sem,bR_0,bR_1,bR_2,bR_3,bR_4,bR_5,bP_0,bP_1,bP_2]) rfl ?_
 have hFe:=ExtBut.ext hF14 hXe (fun b h=>h.1)
 have hXze:=ExtBut.trans hXz.out hXe
 have hP':=hP.out
 refine ⟨_,rfl,FrMon.of_fs (m:=⟨x,m.stks ++ [⟨n,BS⟩],m.run,m.tag+1,m.call⟩) (hMem2.out.to (S':=fun b=>w.heap.size≤b) hXze (fun b h1 _ h2=>by omega) (fun b h1 _=>by omega)) ?_ (hRun2.out.to (S':=fun b=>w.heap.size≤b) hXze (fun b h1 _ h2=>by have:=h1.1;have:=hXcs.out;omega) (fun b h1 _=>by have:=h1.1;have:=hXcs.out;omega)),hFe⟩
 exact (OwnK.fs hP.out).to (S':=fun b=>w.heap.size≤b) hXze (fun b h1 _ h2=>by have:=hXks.out;omega) (fun b h1 _=>by have:=hXks.out;omega)
end Go.Proofs.YtoanoodfacmieaaGreatDoor

/- Plain laws of monitors: what Alloc, Load, Store and Retag leave is valid; a new pointer may be used; no program in sight. -/
namespace Go.Proofs.YtoanoodfacmieaaGreatDoor
set_option maxRecDepth 100000
open Go.RowKit
theorem MonOk.ok {m : Mon} (h : MonOk m) : okMon m=true:=(okMon_iff m).2 h
theorem MonOk.setrow {m : Mon} {i : Nat} {st y : Stk} {al : Alloc} {tag : Int} {x : Mem} (h : MonOk m) (hst : m.stks[i]? = some st) (hal : m.mem.al[i]? = some al) (hlv : al.live=true) (hn : y.num=st.num) (hl : y.cells.length=st.cells.length) (hk : okK y=true)
  (hits : ∀ s ∈ y.cells,itsB (fun t c=>t < tag∧c < m.call) s) (ht : m.tag≤tag∧tag≤1000000) (hx : x.ok=true) (hxl : x.al.length=m.mem.al.length)
  (hr : ∀ (j : Nat) (b : Alloc),x.al[j]? = some b → ∃ a,m.mem.al[j]? = some a∧b.num=a.num∧b.cells.length=a.cells.length∧b.live=a.live) : MonOk ⟨x,m.stks.set i y,m.run,tag,m.call⟩:=by
 have h1:=h.tag
 refine ⟨hx,by simp [hxl,h.len],⟨by dsimp only;omega,ht.2⟩,h.call,h.run,h.last,fun j z b hz hb => ?_⟩
 obtain ⟨a,ha,e1,e2,e3⟩:=hr j b hb
 by_cases e : i=j
 ·subst e
  have hi:=(List.getElem?_eq_some_iff.1 hst).1
  have hz' : (m.stks.set i y)[i]? = some z:=hz
  rw [List.getElem?_set_self hi] at hz'
  cases hz'
  rw [hal] at ha
  cases ha
  obtain ⟨k1,k2,-,-⟩:=rowM_parts (h.row i st al hst hal)
  exact rowM_of (by rw [hn,k1,e1]) (by rw [hl,k2,e2]) hk fun s hs it hit=>⟨by rw [e3];exact hlv,hits s hs it hit⟩
 ·have hz' : (m.stks.set i y)[j]? = some z:=hz
  rw [List.getElem?_set_ne e] at hz'
  obtain ⟨k1,k2,k3,k4⟩:=rowM_parts (h.row j z a hz' ha)
  exact rowM_of (by rw [k1,e1]) (by rw [k2,e2]) k3 fun s hs it hit=>by
   obtain ⟨j1,j2,j3⟩:=k4 s hs it hit
   exact ⟨by rw [e3];exact j1,by dsimp only;omega,j3⟩
theorem MonOk.range {m : Mon} {p : Ptr} {n : Int} {i : Nat} {al : Alloc} (h : MonOk m) (hask : askR m.mem p n=(some i,0)) (hal : m.mem.al[i]? = some al) : ∃ st,m.stks[i]? = some st∧okK st=true∧0≤p.o∧1≤n∧n≤2∧p.o+n≤st.cells.length∧st.cells.length=al.cells.length ∧ ∀ s ∈ st.cells,itsB (fun t c=>t < m.tag∧c < m.call) s:=by
 obtain ⟨-,-,-,-,h1,h2,-,x,hx,h3,h4⟩:=askR_inv hask
 rw [hal] at hx
 cases hx
 obtain ⟨st,a,hst,ha,hrow⟩:=h.stk (i:=i) (List.getElem?_eq_some_iff.1 hal).1
 rw [hal] at ha
 cases ha
 obtain ⟨k1,k2,k3,k4⟩:=rowM_parts hrow
 exact ⟨st,hst,k3,h3,h1,h2,by rw [k2];exact h4,k2,fun s hs it hit=>(k4 s hs it hit).2⟩
theorem eachGo_err {f : List Item→List Item × Int × Int} {num : Int} {cells : List (List Item)} : ∀ (m j : Nat) (out : List (List Item)) (why : Int),j+m≤cells.length→(∀ (i : Nat) (p : List Item),j≤i→i < j+m→cells[i]? = some p→(f p).2.2=0)→(eachGo f num cells m j out why).2.2=0
 | 0,j,out,why,_,_=>by unfold eachGo;split <;> rfl
 | m+1,j,out,why,hj,h=>by
  obtain ⟨x,hx⟩ : ∃ x,cells[j]? = some x:=⟨cells[j]'(by omega),by simp⟩
  have h0:=h j x (Nat.le_refl _) (by omega) hx
  rw [eachGo_ok hx (s:=(f x).1) (v:=(f x).2.1) (by rw [← h0])]
  exact eachGo_err m (j+1) _ _ (by omega) fun i p h1 h2 hp=>h i p (by omega) (by omega) hp
theorem use33_err {x : Stk} {a n tag : Int} {b : Bool} {run : List Int} (hr : okR run=true) (hk : okK x=true) (h0 : 0≤a) (h1 : 1≤n) (h2 : a+n≤x.cells.length) : (use33 x a n tag b run).2.2=0:=by
 rw [use33,if_pos (ask33_of hr hk h0 h1 h2)]
 exact eachGo_err _ _ _ _ (by omega) fun i p _ _ hp=>(useR_err hr (okK_item hk hp)).1
theorem loadM_inv {m x : Mon} {p : Ptr} {n : Int} {l : List Cell} (h : loadM m p n=(x,l,0,0)) : okMon m=true∧loadR m.mem p n=(l,0,0)∧okMon x=true∧x.mem=m.mem∧x.tag=m.tag∧x.call=m.call∧x.run=m.run:=by
 cases hok : okMon m
 ·rw [loadM_bad hok] at h;simp at h
 obtain ⟨⟨ll,un,er⟩,hld⟩ : ∃ z,loadR m.mem p n=z:=⟨_,rfl⟩
 rcases load_ways hld with ⟨h1,rfl,-⟩ | ⟨rfl,rfl,-⟩ | ⟨rfl,hun,i,al,hat,hal,hlv,-,hask⟩
 ·rw [loadM_err hok hld (.inl h1)] at h;simp only [Prod.mk.injEq] at h;exact absurd h.2.2.2 h1
 ·rw [loadM_err hok hld (.inr rfl)] at h;simp at h
 ·have hM:=MonOk.of hok
  obtain ⟨st,hst,hk,h0,h1,h2,h3,h4,hP⟩:=hM.range hask hal
  obtain ⟨⟨y,why,e4⟩,hd⟩ : ∃ z,use33 st p.o n p.t false m.run=z:=⟨_,rfl⟩
  have he:=use33_err (tag:=p.t) (b:=false) hM.run hk h0 h1 h3
  rw [hd] at he
  dsimp only at he
  subst he
  rw [loadM_live hok hld (by rcases hun with e | e <;> rw [e] <;> decide) hat hst hd] at h
  split at h
  ·rename_i hw
   subst hw
   split at h
   ·rename_i hu
    subst hu
    simp only [Prod.mk.injEq,and_true] at h
    obtain ⟨rfl,rfl⟩:=h
    obtain ⟨k1,k2,k3,k4⟩:=use33_in hP hd
    exact ⟨rfl,hld,(hM.setrow hst hal hlv k1 k2 k3 k4 ⟨Int.le_refl _,hM.tag.2⟩ hM.memOk rfl (fun j b hb=>⟨b,hb,rfl,rfl,rfl⟩)).ok,rfl,rfl,rfl,rfl⟩
   ·rename_i hu;simp only [Prod.mk.injEq] at h;exact absurd h.2.2.1 hu
  ·rename_i hw;simp only [Prod.mk.injEq] at h;exact absurd h.2.2.1 hw
theorem putRow {m : Mem} {i o : Nat} {a : Alloc} {l : List Cell} (ha : m.al[i]? = some a) (ho : o+l.length≤a.cells.length) : ∀ (j : Nat) (b : Alloc),(m.al.set i (putCells a o l))[j]? = some b → ∃ a',m.al[j]? = some a'∧b.num=a'.num∧b.cells.length=a'.cells.length∧b.live=a'.live:=by
 intro j b hb
 by_cases e : i=j
 ·subst e
  rw [List.getElem?_set_self (List.getElem?_eq_some_iff.1 ha).1] at hb
  cases hb
  exact ⟨a,ha,rfl,put_len ho,rfl⟩
 ·rw [List.getElem?_set_ne e] at hb
  exact ⟨b,hb,rfl,rfl,rfl⟩
theorem storeM_inv {m x : Mon} {p : Ptr} {l : List Cell} (h : storeM m p l=(x,0,0)) : okMon m=true∧storeR m.mem p l=(x.mem,0,0)∧okMon x=true∧x.tag=m.tag∧x.call=m.call∧x.run=m.run:=by
 cases hok : okMon m
 ·rw [storeM_bad hok] at h;simp at h
 obtain ⟨⟨y,un,er⟩,hsd⟩ : ∃ z,storeR m.mem p l=z:=⟨_,rfl⟩
 by_cases he : er=0
 ·subst he
  by_cases hu : un=0
  ·subst hu
   obtain ⟨i,al,hat,hal,hlv,-,hask,hlok,rfl⟩:=store_ways hsd
   have hM:=MonOk.of hok
   obtain ⟨st,hst,hk,h0,h1,h2,h3,h4,hP⟩:=hM.range hask hal
   obtain ⟨⟨z,why,e4⟩,hd⟩ : ∃ z,use33 st p.o (l.length : Int) p.t true m.run=z:=⟨_,rfl⟩
   have he:=use33_err (tag:=p.t) (b:=true) hM.run hk h0 h1 h3
   rw [hd] at he
   dsimp only at he
   subst he
   rw [storeM_live hok hsd hat hst hd] at h
   split at h
   ·rename_i hw
    subst hw
    simp only [Prod.mk.injEq,and_true] at h
    subst h
    obtain ⟨k1,k2,k3,k4⟩:=use33_in hP hd
    have ho : p.o.toNat+l.length≤al.cells.length:=by omega
    exact ⟨rfl,hsd,(hM.setrow hst hal hlv k1 k2 k3 k4 ⟨Int.le_refl _,hM.tag.2⟩ (ok_put hM.memOk hal hlv ho hlok) (by simp) (putRow hal ho)).ok,rfl,rfl,rfl⟩
   ·rename_i hw;simp only [Prod.mk.injEq] at h;exact absurd h.2.1 hw
  ·rw [storeM_err hok hsd (.inr hu)] at h;simp only [Prod.mk.injEq] at h;exact absurd h.2.1 hu
 ·rw [storeM_err hok hsd (.inl he)] at h;simp only [Prod.mk.injEq] at h;exact absurd h.2.2 he
theorem retagM_inv {m x : Mon} {p r : Ptr} {n kind call : Int} (h : retagM m p n kind call=(x,r,0,0)) (hc : call=0) : okMon m=true∧kindOk kind=true∧okMon x=true∧r=⟨p.a,p.o,m.tag⟩∧x.tag=m.tag+1∧x.mem=m.mem∧x.call=m.call∧x.run=m.run∧m.tag < 1000000∧1≤n∧n≤2 ∧
  ∃ i al y,askR m.mem p n=(some i,0)∧atNum m.mem.al p.a=some i∧m.mem.al[i]? = some al∧al.live=true∧x.stks[i]? = some y∧(∃ l un,loadR m.mem p n=(l,un,0)∧(un=0∨un=4)) ∧
   ∀ b,b=false∨permOf kind≠4 → ∃ z,use33 y p.o n m.tag b m.run=(z,0,0):=by
 cases hok : okMon m
 ·rw [retagM_bad hok] at h;simp at h
 by_cases hka : kindOk kind=true∧(call=0∨hasR m.run call=true)
 ·obtain ⟨⟨ll,un,er⟩,hld⟩ : ∃ z,loadR m.mem p n=z:=⟨_,rfl⟩
  by_cases he : er=0
  ·subst he
   by_cases ht : m.tag=1000000
   ·rw [retagM_full hok hka hld ht] at h;simp at h
   rcases load_ways hld with ⟨h1,-,-⟩ | ⟨-,rfl,-⟩ | ⟨-,hun,i,al,hat,hal,hlv,-,hask⟩
   ·exact absurd rfl h1
   ·rw [retagM_gone hok hka hld ht] at h;simp at h
   ·have hM:=MonOk.of hok
    obtain ⟨st,hst,hk,h0,h1,h2,h3,h4,hP⟩:=hM.range hask hal
    obtain ⟨⟨y,why,e4⟩,hd⟩ : ∃ z,tag33 st p.o n kind p.t ⟨0,m.tag,call⟩ m.run=z:=⟨_,rfl⟩
    rw [retagM_live hok hka hld ht (by rcases hun with e | e <;> rw [e] <;> decide) hat hst hd] at h
    split at h
    ·rename_i hw
     obtain ⟨rfl,rfl⟩:=hw
     simp only [Prod.mk.injEq,and_true] at h
     obtain ⟨rfl,rfl⟩:=h
     have htg:=hM.tag
     have hcl:=hM.call
     obtain ⟨k1,k2,k3,k4,k5,k6,k7,k8,k9,k10⟩:=tag33_in (P':=fun t c=>t < m.tag+1∧c < m.call) (fun t c h=>⟨by omega,h.2⟩) hP (show m.tag < m.tag+1∧call < m.call from ⟨by omega,by omega⟩) hd
     have hi:=(List.getElem?_eq_some_iff.1 hst).1
     refine ⟨rfl,hka.1,(hM.setrow hst hal hlv k1 k2 k3 k4 ⟨by omega,by omega⟩ hM.memOk rfl (fun j b hb=>⟨b,hb,rfl,rfl,rfl⟩)).ok,rfl,rfl,rfl,rfl,rfl,by omega,h1,h2,i,al,y,hask,hat,hal,hlv,List.getElem?_set_self hi,⟨ll,un,hld,hun⟩,fun b hb => ?_⟩
     exact use33_top (it:=⟨permOf kind,m.tag,call⟩) hM.run k3 h0 h1 (by omega) k10 hb
    ·rename_i hw;simp only [Prod.mk.injEq] at h;exact absurd ⟨h.2.2.2,h.2.2.1⟩ hw
  ·rw [retagM_err hok hka hld he] at h;simp only [Prod.mk.injEq] at h;exact absurd h.2.2.2 he
 ·rw [retagM_arg hok hka] at h;simp at h
theorem allocM_inv {m x : Mon} {q : Ptr} {size : Int} (h : allocM m size=(x,q,0)) : okMon m=true∧1≤size∧size≤2∧m.tag < 1000000∧m.mem.al.length < 400∧m.mem.next < 1000000∧q=⟨m.mem.next,0,m.tag⟩ ∧
  x=⟨⟨m.mem.al ++ [newAlloc m.mem.next size.toNat],m.mem.next+1⟩,m.stks ++ [⟨m.mem.next,based size.toNat m.tag⟩],m.run,m.tag+1,m.call⟩∧okMon x=true∧addR m.mem size=(⟨m.mem.al ++ [newAlloc m.mem.next size.toNat],m.mem.next+1⟩,m.mem.next,0):=by
 cases hok : okMon m
 ·rw [allocM_bad hok] at h;simp at h
 by_cases he : (addR m.mem size).2.2=0
 ·by_cases ht : m.tag=1000000
  ·rw [allocM_full hok he ht] at h;simp at h
  ·rw [allocM_ok hok he ht] at h
   obtain ⟨⟨x',n',e'⟩,hadd⟩ : ∃ z,addR m.mem size=z:=⟨_,rfl⟩
   rw [hadd] at h he
   dsimp only at he h
   subst he
   have hM:=MonOk.of hok
   obtain ⟨rfl,h1,h2,h3,h4,rfl,h5⟩:=addR_zero hM.memOk hadd
   simp only [Prod.mk.injEq,and_true] at h
   obtain ⟨rfl,rfl⟩:=h
   have htg:=hM.tag
   have hcl:=hM.call
   have hn1 : inB m.mem.next=true:=by unfold inB;simp;omega
   have ht1 : inB m.tag=true:=by unfold inB;simp;omega
   refine ⟨rfl,h1,h2,by omega,h4,h5,rfl,rfl,MonOk.ok ⟨ok_push hM.memOk (by omega) (by omega),by simp [hM.len],⟨by dsimp only;omega,by dsimp only;omega⟩,hM.call,hM.run,hM.last,fun j z b hz hb => ?_⟩,hadd⟩
   have hz' : (m.stks ++ [⟨m.mem.next,based size.toNat m.tag⟩])[j]? = some z:=hz
   have hb' : (m.mem.al ++ [newAlloc m.mem.next size.toNat])[j]? = some b:=hb
   by_cases hj : j < m.mem.al.length
   ·rw [List.getElem?_append_left (by rw [hM.len];exact hj)] at hz'
    rw [List.getElem?_append_left hj] at hb'
    obtain ⟨k1,k2,k3,k4⟩:=rowM_parts (hM.row j z b hz' hb')
    exact rowM_of k1 k2 k3 fun s hs it hit=>⟨(k4 s hs it hit).1,by have:=(k4 s hs it hit).2.1;dsimp only;omega,(k4 s hs it hit).2.2⟩
   ·have hlt:=(List.getElem?_eq_some_iff.1 hb').1
    simp at hlt
    obtain rfl : j=m.mem.al.length:=by omega
    rw [← hM.len] at hz'
    simp at hz' hb'
    subst hz' hb'
    refine rowM_of rfl (by rw [based_len];simp [newAlloc]) ?_ fun s hs it hit => ?_
    ·have hok2 : okS (baseOf m.tag)=true:=by
      unfold baseOf
      rw [if_pos ht1]
      simp [okS,Item.ok,ht1,show inB 0=true by decide]
     unfold okK based
     simp only [Bool.and_eq_true,decide_eq_true_eq,List.length_replicate,hn1]
     exact ⟨⟨⟨trivial,by omega⟩,by omega⟩,List.all_eq_true.2 fun s hs=>by rw [List.eq_of_mem_replicate hs];exact hok2⟩
    ·have e:=List.eq_of_mem_replicate hs
     subst e
     unfold baseOf at hit
     rw [if_pos ht1] at hit
     obtain rfl:=List.mem_singleton.1 hit
     exact ⟨rfl,by dsimp only;omega,by dsimp only;omega⟩
 ·rw [allocM_add hok he] at h;simp only [Prod.mk.injEq] at h;exact absurd h.2.2 he
end Go.Proofs.YtoanoodfacmieaaGreatDoor

/- Contracts: monitor.at (the search for the stacks of an allocation). -/
namespace Go.Proofs.YtoanoodfacmieaaGreatDoor
set_option maxRecDepth 100000
open Go.RowKit
def ixK : Option Nat→Int
 | none => -1
 | some i=>(i : Int)
def numK (n : Int) (x : Stk) : Bool:=x.num == n
theorem kIdxHit {p : Stk→Bool} {l : List Stk} {k : Nat} {x : Stk} (h : (l.take k).any p=false) (hx : l[k]? = some x) (hp : p x=true) : l.findIdx? p=some k:=by
 rw [List.findIdx?_eq_some_iff_getElem]
 obtain ⟨hk,rfl⟩:=List.getElem?_eq_some_iff.1 hx
 refine ⟨hk,hp,fun j hj => ?_⟩
 simp only [List.any_eq_false] at h
 have:=h l[j] (by rw [List.mem_iff_getElem?];exact ⟨j,by rw [List.getElem?_take,if_pos hj];simp⟩)
 simpa using this
theorem kIdxMiss {p : Stk→Bool} {l : List Stk} (h : l.any p=false) : l.findIdx? p=none:=by
 rw [List.findIdx?_eq_none_iff]
 simpa [List.any_eq_false] using h
def PredN (g : Nat) (cap : Array Value) (W : World) (p : Stk→Bool) : Prop :=
 ∀ (x : Stk) (s : Value) (w : World),Ext W w→Calls Tryz.prog g (#[.agg #[.int .i64 x.num,s]] ++ cap) w fun e w'=>e = .returned (.bool (p x))∧Ext w w'
theorem callFunc_at1 (args : Array Value) (w : World) : (callFunc 59 args).run Tryz.prog w = .ok (.enter 59 args) w:=by kernel_rfl
set_option maxHeartbeats 400000 in
theorem monitor_at1 (n : Int) (B : Nat) (W : World) (hc : W.cell? ⟨B,0,none⟩=some (.int .i64 n)) : PredN 59 #[.pointer (some ⟨B,0,none⟩)] W (numK n):=by
 intro x s w hW
 obtain ⟨num,l⟩:=x
 have hcw:=hW.cell hc
 have hB:=World.block_lt_of_cell? _ _ hcw
 have hE:=(Ext.refl w).alloc (.cells #[.int .i64 num,s] 69)
 clear hc hW
 show Calls Tryz.prog 59 #[.agg #[.int .i64 num,s],.pointer (some ⟨B,0,none⟩)] w _
 go_enter Tryz.func59,Tryz.ntmps59
 go_wp2
 go_ret
 exact ⟨rfl,hE⟩
set_option maxHeartbeats 800000 in
theorem indexFunc_num {g : Nat} {cap : Array Value} {p : Stk→Bool} {l : List Stk} {v : Value} {w : World} (hg : ∀ args w,(callFunc g args).run Tryz.prog w = .ok (.enter g args) w)
  (hp : PredN g cap w p) (hl : Kts w v l) : Calls Tryz.prog 58 #[v,.func (.func g) #[] cap] w fun e w'=>e = .returned (.int .i64 (ixK (l.findIdx? p)))∧Ext w w':=by
 obtain ⟨a,cp,rfl,hlc,hcm,-⟩:=hl.form
 unfold maxLen at hcm
 have hL:=Lib.hid hl
 clear hl
 go_enter Tryz.func58,Tryz.ntmps58
 go_wp2
 go_loopw [8] (fun i wr => ∃ k : Nat,k≤l.length∧i = .int .i64 k∧Ext w wr∧Hid ((l.take k).any p=false)) (fun i _=>l.length - (intOf i).toNat)
 case atStart=>exact ⟨0,Nat.zero_le _,rfl,Ext.refl _,by simp [Hid]⟩
 case round =>
  obtain ⟨k,hk,rfl,hE,hN⟩:=hrel
  by_cases hlt : k < l.length
  ·obtain ⟨x,hx⟩ : ∃ x,l[k]? = some x:=⟨l[k],by simp [hlt]⟩
   obtain ⟨b,off,sv,rfl,hbb,d0,d1,hcl⟩:=(hL.out.ext hE).cell hx
   have hX:=Lib.hid hx
   clear hx
   replace hcl:=Lib.hid hcl
   cases hpx : p x
   all_goals
    have hP:=Lib.hid hpx
    clear hpx
    go_wp2_with fail
    refine (hp x sv wr hE).mono ?_
    rintro e w1 ⟨rfl,hE1⟩
    have hpx:=hP.out
    go_wp2
   ·go_roundw
    case rel=>exact ⟨k+1,by omega,by go_num,hE.trans hE1,sany_take_succ hN.out hX.out hP.out⟩
    case measure=>simp [intOf];omega
   ·go_ret
    exact ⟨by rw [kIdxHit hN.out hX.out hP.out];rfl,hE.trans hE1⟩
  ·have hkl : k=l.length:=by omega
   subst hkl
   have hN':=hN.out
   rw [List.take_length] at hN'
   have hg:=Lib.hid (kIdxMiss hN')
   clear hN'
   go_wp2
   go_ret
   exact ⟨by rw [hg.out];rfl,hE⟩
set_option maxHeartbeats 800000 in
theorem monitor_at {m : Mon} {sa ss sr : Value} {w : World} (n : Int) (hok : MonOk m) (hK : Kts w ss m.stks) :
  Calls Tryz.prog 27 #[.agg #[sa,.int .i64 m.mem.next,ss,sr,.int .i64 m.tag,.int .i64 m.call],.int .i64 n] w fun e w'=>e = .returned (.int .i64 (ixK (atNum m.mem.al n)))∧Ext w w':=by
 have hE0:=((Ext.refl w).alloc (.cells #[sa,.int .i64 m.mem.next,ss,sr,.int .i64 m.tag,.int .i64 m.call] 30)).alloc (.cells #[.int .i64 n] 3)
 have hc : ((w.alloc (.cells #[sa,.int .i64 m.mem.next,ss,sr,.int .i64 m.tag,.int .i64 m.call] 30)).alloc (.cells #[.int .i64 n] 3)).cell? ⟨w.heap.size+1,0,none⟩=some (.int .i64 n):=by simp
 have hI:=Lib.hid (indexFunc_num callFunc_at1 (monitor_at1 n (w.heap.size+1) _ hc) (hK.ext hE0))
 have hat:=Lib.hid (hok.at n)
 have hmf : ∀ (fn : Fn) (first cap : Array Value) (w : World),(Instr.makeFunc fn first cap).run Tryz.prog w = .ok (.func fn first cap) w:=fun _ _ _ _=>rfl
 obtain ⟨a,cp,rfl,-⟩:=hK.form
 clear hK hc hok
 go_enter Tryz.func27,Tryz.ntmps27
 go_wp2_with fail
 refine hI.out.mono ?_
 rintro e w1 ⟨rfl,hE1⟩
 go_wp2
 go_ret
 exact ⟨by show _=Ending.returned (.int .i64 (ixK (atNum m.mem.al n)));rw [← hat.out];rfl,hE0.trans hE1⟩
end Go.Proofs.YtoanoodfacmieaaGreatDoor
