/- Several texts in one: RfI. -/
import Derived.Test.YtnplphcnagooeaaGreatDoorQ14
import Derived.Test.YtnplphcnagooeaaGreatDoorQ18
import Derived.Test.YtnplphcnagooeaaGreatDoorQ19
import Derived.Test.YtnplphcnagooeaaGreatDoorQ09
/- Contracts: the reference's where and Load of layer 35. (printed by gen/ref35i.py) -/
namespace Go.Proofs.YtnplphcnagooeaaGreatDoor
set_option maxRecDepth 100000
open Go.RowKit
set_option maxRecDepth 100000 in
set_option maxHeartbeats 3200000 in
theorem ref35_where {m : Mon} {sa ss sr : Value} {wS : World} (p : Ptr) (n : Int) (hA : Als wS sa m.mem.al) (hn : i64B m.mem.next) (hK : Kts wS ss m.stks) (hR : Nts wS sr m.run) :
  Calls Tryz.prog 42 #[.agg #[sa,.int .i64 m.mem.next,ss,sr,.int .i64 m.tag,.int .i64 m.call],p.val,.int .i64 n] wS fun e w'=>e = .returned (.tuple #[.int .i64 (whereM m.mem p n).1,.int .u8 (whereM m.mem p n).2.1,.int .i64 (whereM m.mem p n).2.2])∧Ext wS w':=by
 obtain ⟨pa,po,pt⟩:=p
 unfold Ptr.val
 dsimp only
 obtain ⟨aa,ac,rfl,hac,hacm,-⟩:=hA.form
 obtain ⟨ka,kc,rfl,hkc,hkcm,-⟩:=hK.form
 obtain ⟨ra,rc,rfl,hrc,hrcm,-⟩:=hR.form
 unfold maxLen at hacm hkcm hrcm
 have hE0 : Ext wS (World.alloc (World.alloc wS (.cells #[.slice aa m.mem.al.length ac,.int .i64 m.mem.next,.slice ka m.stks.length kc,.slice ra m.run.length rc,.int .i64 m.tag,.int .i64 m.call] 28)) (.cells #[.int .i64 pa,.int .i64 po,.int .i64 pt] 30)):=by repeat (first | exact Ext.refl _ | refine Ext.alloc ?_ _)
 have bM : Box (World.alloc (World.alloc wS (.cells #[.slice aa m.mem.al.length ac,.int .i64 m.mem.next,.slice ka m.stks.length kc,.slice ra m.run.length rc,.int .i64 m.tag,.int .i64 m.call] 28)) (.cells #[.int .i64 pa,.int .i64 po,.int .i64 pt] 30)) (wS.heap.size) 28 #[.slice aa m.mem.al.length ac,.int .i64 m.mem.next,.slice ka m.stks.length kc,.slice ra m.run.length rc,.int .i64 m.tag,.int .i64 m.call]:=(by
  have h:=Box.new wS 28 #[.slice aa m.mem.al.length ac,.int .i64 m.mem.next,.slice ka m.stks.length kc,.slice ra m.run.length rc,.int .i64 m.tag,.int .i64 m.call]
  replace h:=Box.ext h ((Ext.refl _).alloc (.cells #[.int .i64 pa,.int .i64 po,.int .i64 pt] 30))
  exact h)
 have bP : Box (World.alloc (World.alloc wS (.cells #[.slice aa m.mem.al.length ac,.int .i64 m.mem.next,.slice ka m.stks.length kc,.slice ra m.run.length rc,.int .i64 m.tag,.int .i64 m.call] 28)) (.cells #[.int .i64 pa,.int .i64 po,.int .i64 pt] 30)) (wS.heap.size+1) 30 #[.int .i64 pa,.int .i64 po,.int .i64 pt]:=(by
  have h:=Box.new (World.alloc wS (.cells #[.slice aa m.mem.al.length ac,.int .i64 m.mem.next,.slice ka m.stks.length kc,.slice ra m.run.length rc,.int .i64 m.tag,.int .i64 m.call] 28)) 30 #[.int .i64 pa,.int .i64 po,.int .i64 pt]
  simp only [World.size_alloc] at h
  exact h)
 obtain ⟨w0,hw0⟩ : ∃ z,(World.alloc (World.alloc wS (.cells #[.slice aa m.mem.al.length ac,.int .i64 m.mem.next,.slice ka m.stks.length kc,.slice ra m.run.length rc,.int .i64 m.tag,.int .i64 m.call] 28)) (.cells #[.int .i64 pa,.int .i64 po,.int .i64 pt] 30))=z:=⟨_,rfl⟩
 rw [hw0] at hE0 bM bP
 have hs0 : w0.heap.size=wS.heap.size+2:=by rw [← hw0];simp
 replace hs0:=Lib.hid hs0
 replace hA:=Lib.hid hA
 replace hK:=Lib.hid hK
 replace hR:=Lib.hid hR
 replace hn:=Lib.hid hn
 go_enter Tryz.func42,Tryz.ntmps42
 obtain ⟨bM_0,bM_1,bM_2,bM_3,bM_4,bM_5,bM_l⟩:=bM.c6
 obtain ⟨bP_0,bP_1,bP_2,bP_l⟩:=bP.c3
 go_wp2_with fail
 clear bM_0 bM_1 bM_2 bM_3 bM_4 bM_5 bM_l bP_0 bP_1 bP_2 bP_l
 refine (ref27_Asked (m:=m.mem) ⟨pa,po,pt⟩ n (hA.out.ext hE0) hn.out).mono ?_
 rintro e w1 ⟨rfl,hE1⟩
 replace bM:=bM.ext hE1
 replace bP:=bP.ext hE1
 have hF1:=Ext.trans hE0 hE1
 clear hw0
 obtain ⟨⟨ix,er⟩,hask⟩ : ∃ z,askR m.mem ⟨pa,po,pt⟩ n=z:=⟨_,rfl⟩
 rw [hask]
 dsimp only
 by_cases he : er=0
 rotate_left
 ·skip
  have q1 : (er != 0)=true:=by simpa using he
  have hres:=Lib.hid (whereM_err (m:=m.mem) (p:=⟨pa,po,pt⟩) (n:=n) (by rw [hask];exact he));rw [hask] at hres;dsimp only at hres;clear he hask
  obtain ⟨bM_0,bM_1,bM_2,bM_3,bM_4,bM_5,bM_l⟩:=bM.c6
  go_wp2
  rw [hres.out]
  go_ret3
  exact ⟨rfl,hF1⟩
 subst he
 cases ix with
 | none =>
  have hres:=Lib.hid (whereM_none hask);clear hask
  dsimp only [ixM]
  obtain ⟨bM_0,bM_1,bM_2,bM_3,bM_4,bM_5,bM_l⟩:=bM.c6
  go_wp2
  rw [hres.out]
  go_ret3
  exact ⟨rfl,hF1⟩
 | some i =>
  obtain ⟨-,-,-,-,-,-,hat,al,hal,-,-⟩:=askR_inv hask
  have hil:=(List.getElem?_eq_some_iff.1 hal).1
  have hi0 : (0 : Int)≤(i : Int):=by omega
  have hi1 : (i : Int) < (m.mem.al.length : Int):=by omega
  have hneg : decide ((i : Int) < 0)=false:=decide_eq_false (by omega)
  have hres:=whereM_some hask hal
  dsimp only [ixM]
  obtain ⟨b,off,cs,rfl,hbb,a0,a1,a2,hcl2⟩:=hA.out.cell hal
  obtain ⟨anum,alive,acells⟩:=al
  dsimp only at a0 a1 a2 hres
  have a1w:=Ext.cell hF1 a1
  clear hcl2 hbb hat hal hil hask a0 a1 a2
  cases alive
  ·skip
   replace hres:=Lib.hid hres
   obtain ⟨bM_0,bM_1,bM_2,bM_3,bM_4,bM_5,bM_l⟩:=bM.c6
   go_wp2
   rw [hres.out]
   go_ret3
   exact ⟨rfl,hF1⟩
  ·skip
   replace hres:=Lib.hid hres
   obtain ⟨bM_0,bM_1,bM_2,bM_3,bM_4,bM_5,bM_l⟩:=bM.c6
   go_wp2
   rw [hres.out]
   go_ret3
   exact ⟨rfl,hF1⟩
set_option maxRecDepth 100000 in
set_option maxHeartbeats 6400000 in
theorem ref35_Load {m : Mon} {sa ss sr : Value} {wS : World} (pa po pt n : Int) (hA : Als wS sa m.mem.al) (hn : i64B m.mem.next) (hK : Kts wS ss m.stks) (hR : Nts wS sr m.run) :
  Calls Tryz.prog 10 #[.agg #[sa,.int .i64 m.mem.next,ss,sr,.int .i64 m.tag,.int .i64 m.call],.agg #[.int .i64 pa,.int .i64 po,.int .i64 pt],.int .i64 n] wS (RetLd wS (loadM m ⟨pa,po,pt⟩ n).1 (loadM m ⟨pa,po,pt⟩ n).2.1 (loadM m ⟨pa,po,pt⟩ n).2.2.1 (loadM m ⟨pa,po,pt⟩ n).2.2.2):=by
 obtain ⟨aa,ac,rfl,hac,hacm,-⟩:=hA.form
 obtain ⟨ka,kc,rfl,hkc,hkcm,-⟩:=hK.form
 obtain ⟨ra,rc,rfl,hrc,hrcm,-⟩:=hR.form
 unfold maxLen at hacm hkcm hrcm
 have hE0 : Ext wS (World.alloc (World.alloc (World.alloc wS (.cells #[.slice aa m.mem.al.length ac,.int .i64 m.mem.next,.slice ka m.stks.length kc,.slice ra m.run.length rc,.int .i64 m.tag,.int .i64 m.call] 28)) (.cells #[.int .i64 pa,.int .i64 po,.int .i64 pt] 30)) (.cells #[.slice none 0 0,.int .i64 0,.slice none 0 0,.slice none 0 0,.int .i64 0,.int .i64 0] 28)):=by repeat (first | exact Ext.refl _ | refine Ext.alloc ?_ _)
 have bM : Box (World.alloc (World.alloc (World.alloc wS (.cells #[.slice aa m.mem.al.length ac,.int .i64 m.mem.next,.slice ka m.stks.length kc,.slice ra m.run.length rc,.int .i64 m.tag,.int .i64 m.call] 28)) (.cells #[.int .i64 pa,.int .i64 po,.int .i64 pt] 30)) (.cells #[.slice none 0 0,.int .i64 0,.slice none 0 0,.slice none 0 0,.int .i64 0,.int .i64 0] 28)) (wS.heap.size) 28 #[.slice aa m.mem.al.length ac,.int .i64 m.mem.next,.slice ka m.stks.length kc,.slice ra m.run.length rc,.int .i64 m.tag,.int .i64 m.call]:=(by
  have h:=Box.new wS 28 #[.slice aa m.mem.al.length ac,.int .i64 m.mem.next,.slice ka m.stks.length kc,.slice ra m.run.length rc,.int .i64 m.tag,.int .i64 m.call]
  replace h:=Box.ext h ((Ext.refl _).alloc (.cells #[.int .i64 pa,.int .i64 po,.int .i64 pt] 30))
  replace h:=Box.ext h ((Ext.refl _).alloc (.cells #[.slice none 0 0,.int .i64 0,.slice none 0 0,.slice none 0 0,.int .i64 0,.int .i64 0] 28))
  exact h)
 have bP : Box (World.alloc (World.alloc (World.alloc wS (.cells #[.slice aa m.mem.al.length ac,.int .i64 m.mem.next,.slice ka m.stks.length kc,.slice ra m.run.length rc,.int .i64 m.tag,.int .i64 m.call] 28)) (.cells #[.int .i64 pa,.int .i64 po,.int .i64 pt] 30)) (.cells #[.slice none 0 0,.int .i64 0,.slice none 0 0,.slice none 0 0,.int .i64 0,.int .i64 0] 28)) (wS.heap.size+1) 30 #[.int .i64 pa,.int .i64 po,.int .i64 pt]:=(by
  have h:=Box.new (World.alloc wS (.cells #[.slice aa m.mem.al.length ac,.int .i64 m.mem.next,.slice ka m.stks.length kc,.slice ra m.run.length rc,.int .i64 m.tag,.int .i64 m.call] 28)) 30 #[.int .i64 pa,.int .i64 po,.int .i64 pt]
  simp only [World.size_alloc] at h
  replace h:=Box.ext h ((Ext.refl _).alloc (.cells #[.slice none 0 0,.int .i64 0,.slice none 0 0,.slice none 0 0,.int .i64 0,.int .i64 0] 28))
  exact h)
 have bR : Box (World.alloc (World.alloc (World.alloc wS (.cells #[.slice aa m.mem.al.length ac,.int .i64 m.mem.next,.slice ka m.stks.length kc,.slice ra m.run.length rc,.int .i64 m.tag,.int .i64 m.call] 28)) (.cells #[.int .i64 pa,.int .i64 po,.int .i64 pt] 30)) (.cells #[.slice none 0 0,.int .i64 0,.slice none 0 0,.slice none 0 0,.int .i64 0,.int .i64 0] 28)) (wS.heap.size+2) 28 #[.slice none 0 0,.int .i64 0,.slice none 0 0,.slice none 0 0,.int .i64 0,.int .i64 0]:=(by
  have h:=Box.new (World.alloc (World.alloc wS (.cells #[.slice aa m.mem.al.length ac,.int .i64 m.mem.next,.slice ka m.stks.length kc,.slice ra m.run.length rc,.int .i64 m.tag,.int .i64 m.call] 28)) (.cells #[.int .i64 pa,.int .i64 po,.int .i64 pt] 30)) 28 #[.slice none 0 0,.int .i64 0,.slice none 0 0,.slice none 0 0,.int .i64 0,.int .i64 0]
  simp only [World.size_alloc] at h
  exact h)
 obtain ⟨w0,hw0⟩ : ∃ z,(World.alloc (World.alloc (World.alloc wS (.cells #[.slice aa m.mem.al.length ac,.int .i64 m.mem.next,.slice ka m.stks.length kc,.slice ra m.run.length rc,.int .i64 m.tag,.int .i64 m.call] 28)) (.cells #[.int .i64 pa,.int .i64 po,.int .i64 pt] 30)) (.cells #[.slice none 0 0,.int .i64 0,.slice none 0 0,.slice none 0 0,.int .i64 0,.int .i64 0] 28))=z:=⟨_,rfl⟩
 rw [hw0] at hE0 bM bP bR
 have hs0 : w0.heap.size=wS.heap.size+3:=by rw [← hw0];simp
 replace hs0:=Lib.hid hs0
 replace hA:=Lib.hid hA
 replace hK:=Lib.hid hK
 replace hR:=Lib.hid hR
 replace hn:=Lib.hid hn
 go_enter Tryz.func10,Tryz.ntmps10
 obtain ⟨bM_0,bM_1,bM_2,bM_3,bM_4,bM_5,bM_l⟩:=bM.c6
 go_wp2_with fail
 clear bM_0 bM_1 bM_2 bM_3 bM_4 bM_5 bM_l
 refine (ref35_Check (hA.out.ext hE0) hn.out (hK.out.ext hE0) (hR.out.ext hE0)).mono ?_
 rintro e w1 ⟨rfl,hE1⟩
 replace bM:=bM.ext hE1
 replace bP:=bP.ext hE1
 replace bR:=bR.ext hE1
 have hF1:=Ext.trans hE0 hE1
 clear hw0
 cases hok : okMon m
 ·skip
  rw [monErr_not hok]
  have hres:=Lib.hid (loadM_bad (p:=⟨pa,po,pt⟩) (n:=n) hok)
  clear hok
  obtain ⟨bM_0,bM_1,bM_2,bM_3,bM_4,bM_5,bM_l⟩:=bM.c6
  have bR_0 : World.cell? w1 ⟨wS.heap.size+2,0,none⟩=some (.slice none 0 0):=bR.cell 0
  have bR_1 : World.cell? w1 ⟨wS.heap.size+2,1,none⟩=some (.int .i64 0):=bR.cell 1
  have bR_2 : World.cell? w1 ⟨wS.heap.size+2,2,none⟩=some (.slice none 0 0):=bR.cell 2
  have bR_3 : World.cell? w1 ⟨wS.heap.size+2,3,none⟩=some (.slice none 0 0):=bR.cell 3
  have bR_4 : World.cell? w1 ⟨wS.heap.size+2,4,none⟩=some (.int .i64 0):=bR.cell 4
  have bR_5 : World.cell? w1 ⟨wS.heap.size+2,5,none⟩=some (.int .i64 0):=bR.cell 5
  have bR_f0 : World.frozen? w1 ⟨wS.heap.size+2,0,none⟩=false:=bR.frozen 0
  have bR_f1 : World.frozen? w1 ⟨wS.heap.size+2,1,none⟩=false:=bR.frozen 1
  have bR_f2 : World.frozen? w1 ⟨wS.heap.size+2,2,none⟩=false:=bR.frozen 2
  have bR_f3 : World.frozen? w1 ⟨wS.heap.size+2,3,none⟩=false:=bR.frozen 3
  have bR_f4 : World.frozen? w1 ⟨wS.heap.size+2,4,none⟩=false:=bR.frozen 4
  have bR_f5 : World.frozen? w1 ⟨wS.heap.size+2,5,none⟩=false:=bR.frozen 5
  have bR_l:=bR.lt
  go_wp2
  rw [hres.out]
  have hXe : ExtBut (fun b=>wS.heap.size≤b∧b < wS.heap.size+3) w1 (World.setCell (World.setCell (World.setCell (World.setCell (World.setCell (World.setCell w1 ⟨wS.heap.size+2,0,none⟩ (.slice none 0 0)) ⟨wS.heap.size+2,1,none⟩ (.int .i64 0)) ⟨wS.heap.size+2,2,none⟩ (.slice none 0 0)) ⟨wS.heap.size+2,3,none⟩ (.slice none 0 0)) ⟨wS.heap.size+2,4,none⟩ (.int .i64 0)) ⟨wS.heap.size+2,5,none⟩ (.int .i64 0)):=by (repeat' with_reducible first | exact ExtBut.refl _ _ | refine ExtBut.dr ?_ | refine ExtBut.sc ?_ ?_ | fail) <;> dsimp only <;> omega
  refine bodyPost_ret (v := .tuple #[.agg #[.slice none 0 0,.int .i64 0,.slice none 0 0,.slice none 0 0,.int .i64 0,.int .i64 0],.slice none 0 0,.int .u8 0,.int .i64 8]) (by simp [results,Tryz.f10,go_sem,bR_0,bR_1,bR_2,bR_3,bR_4,bR_5]) rfl ?_
  have hFe:=ExtBut.ext hF1 hXe (fun b h=>h.1)
  exact ⟨_,_,rfl,FrMon.zero _ _,Fq.of_all Cls.nil,hFe⟩
 rw [monErr_of hok]
 have hMok:=MonOk.of hok;have hcl:=Lib.hid hMok.small
 obtain ⟨⟨ll,un,er⟩,hld⟩ : ∃ z,loadR m.mem ⟨pa,po,pt⟩ n=z:=⟨_,rfl⟩
 have hldh:=Lib.hid hld;have hokh:=Lib.hid hok;have hMokh:=Lib.hid hMok
 clear hok hMok hld
 obtain ⟨bM_0,bM_1,bM_2,bM_3,bM_4,bM_5,bM_l⟩:=bM.c6
 obtain ⟨bP_0,bP_1,bP_2,bP_l⟩:=bP.c3
 go_wp2_with fail
 clear bM_0 bM_1 bM_2 bM_3 bM_4 bM_5 bM_l bP_0 bP_1 bP_2 bP_l
 refine (ref35_where (m:=m) ⟨pa,po,pt⟩ n (hA.out.ext hF1) hn.out (hK.out.ext hF1) (hR.out.ext hF1)).mono ?_
 rintro e w2 ⟨rfl,hE2⟩
 replace bM:=bM.ext hE2
 replace bP:=bP.ext hE2
 replace bR:=bR.ext hE2
 have hF2:=Ext.trans hF1 hE2
 rcases load_ways hldh.out with ⟨he,rfl,hwh⟩ | ⟨rfl,rfl,hwh⟩ | ⟨rfl,hun,i,al,hat,hal,-,hwh,-⟩
 ·skip
  rw [hwh];dsimp only
  have q1 : (er != 0)=true:=by simpa using he
  have hres:=Lib.hid (loadM_err (p:=⟨pa,po,pt⟩) hokh.out hldh.out (.inl he))
  clear he hwh
  obtain ⟨bM_0,bM_1,bM_2,bM_3,bM_4,bM_5,bM_l⟩:=bM.c6
  have bR_0 : World.cell? w2 ⟨wS.heap.size+2,0,none⟩=some (.slice none 0 0):=bR.cell 0
  have bR_1 : World.cell? w2 ⟨wS.heap.size+2,1,none⟩=some (.int .i64 0):=bR.cell 1
  have bR_2 : World.cell? w2 ⟨wS.heap.size+2,2,none⟩=some (.slice none 0 0):=bR.cell 2
  have bR_3 : World.cell? w2 ⟨wS.heap.size+2,3,none⟩=some (.slice none 0 0):=bR.cell 3
  have bR_4 : World.cell? w2 ⟨wS.heap.size+2,4,none⟩=some (.int .i64 0):=bR.cell 4
  have bR_5 : World.cell? w2 ⟨wS.heap.size+2,5,none⟩=some (.int .i64 0):=bR.cell 5
  have bR_f0 : World.frozen? w2 ⟨wS.heap.size+2,0,none⟩=false:=bR.frozen 0
  have bR_f1 : World.frozen? w2 ⟨wS.heap.size+2,1,none⟩=false:=bR.frozen 1
  have bR_f2 : World.frozen? w2 ⟨wS.heap.size+2,2,none⟩=false:=bR.frozen 2
  have bR_f3 : World.frozen? w2 ⟨wS.heap.size+2,3,none⟩=false:=bR.frozen 3
  have bR_f4 : World.frozen? w2 ⟨wS.heap.size+2,4,none⟩=false:=bR.frozen 4
  have bR_f5 : World.frozen? w2 ⟨wS.heap.size+2,5,none⟩=false:=bR.frozen 5
  have bR_l:=bR.lt
  go_wp2
  rw [hres.out]
  have hXe : ExtBut (fun b=>wS.heap.size≤b∧b < wS.heap.size+3) w2 (World.setCell (World.setCell (World.setCell (World.setCell (World.setCell (World.setCell w2 ⟨wS.heap.size+2,0,none⟩ (.slice none 0 0)) ⟨wS.heap.size+2,1,none⟩ (.int .i64 0)) ⟨wS.heap.size+2,2,none⟩ (.slice none 0 0)) ⟨wS.heap.size+2,3,none⟩ (.slice none 0 0)) ⟨wS.heap.size+2,4,none⟩ (.int .i64 0)) ⟨wS.heap.size+2,5,none⟩ (.int .i64 0)):=by (repeat' with_reducible first | exact ExtBut.refl _ _ | refine ExtBut.dr ?_ | refine ExtBut.sc ?_ ?_ | fail) <;> dsimp only <;> omega
  refine bodyPost_ret (v := .tuple #[.agg #[.slice none 0 0,.int .i64 0,.slice none 0 0,.slice none 0 0,.int .i64 0,.int .i64 0],.slice none 0 0,.int .u8 0,.int .i64 er]) (by simp [results,Tryz.f10,go_sem,bR_0,bR_1,bR_2,bR_3,bR_4,bR_5]) rfl ?_
  have hFe:=ExtBut.ext hF2 hXe (fun b h=>h.1)
  exact ⟨_,_,rfl,FrMon.zero _ _,Fq.of_all Cls.nil,hFe⟩
 ·skip
  rw [hwh];dsimp only
  have hres:=Lib.hid (loadM_err (p:=⟨pa,po,pt⟩) hokh.out hldh.out (.inr rfl))
  clear hwh
  obtain ⟨bM_0,bM_1,bM_2,bM_3,bM_4,bM_5,bM_l⟩:=bM.c6
  have bR_0 : World.cell? w2 ⟨wS.heap.size+2,0,none⟩=some (.slice none 0 0):=bR.cell 0
  have bR_1 : World.cell? w2 ⟨wS.heap.size+2,1,none⟩=some (.int .i64 0):=bR.cell 1
  have bR_2 : World.cell? w2 ⟨wS.heap.size+2,2,none⟩=some (.slice none 0 0):=bR.cell 2
  have bR_3 : World.cell? w2 ⟨wS.heap.size+2,3,none⟩=some (.slice none 0 0):=bR.cell 3
  have bR_4 : World.cell? w2 ⟨wS.heap.size+2,4,none⟩=some (.int .i64 0):=bR.cell 4
  have bR_5 : World.cell? w2 ⟨wS.heap.size+2,5,none⟩=some (.int .i64 0):=bR.cell 5
  have bR_f0 : World.frozen? w2 ⟨wS.heap.size+2,0,none⟩=false:=bR.frozen 0
  have bR_f1 : World.frozen? w2 ⟨wS.heap.size+2,1,none⟩=false:=bR.frozen 1
  have bR_f2 : World.frozen? w2 ⟨wS.heap.size+2,2,none⟩=false:=bR.frozen 2
  have bR_f3 : World.frozen? w2 ⟨wS.heap.size+2,3,none⟩=false:=bR.frozen 3
  have bR_f4 : World.frozen? w2 ⟨wS.heap.size+2,4,none⟩=false:=bR.frozen 4
  have bR_f5 : World.frozen? w2 ⟨wS.heap.size+2,5,none⟩=false:=bR.frozen 5
  have bR_l:=bR.lt
  go_wp2
  rw [hres.out]
  have hXe : ExtBut (fun b=>wS.heap.size≤b∧b < wS.heap.size+3) w2 (World.setCell (World.setCell (World.setCell (World.setCell (World.setCell (World.setCell w2 ⟨wS.heap.size+2,0,none⟩ (.slice none 0 0)) ⟨wS.heap.size+2,1,none⟩ (.int .i64 0)) ⟨wS.heap.size+2,2,none⟩ (.slice none 0 0)) ⟨wS.heap.size+2,3,none⟩ (.slice none 0 0)) ⟨wS.heap.size+2,4,none⟩ (.int .i64 0)) ⟨wS.heap.size+2,5,none⟩ (.int .i64 0)):=by (repeat' with_reducible first | exact ExtBut.refl _ _ | refine ExtBut.dr ?_ | refine ExtBut.sc ?_ ?_ | fail) <;> dsimp only <;> omega
  refine bodyPost_ret (v := .tuple #[.agg #[.slice none 0 0,.int .i64 0,.slice none 0 0,.slice none 0 0,.int .i64 0,.int .i64 0],.slice none 0 0,.int .u8 3,.int .i64 0]) (by simp [results,Tryz.f10,go_sem,bR_0,bR_1,bR_2,bR_3,bR_4,bR_5]) rfl ?_
  have hFe:=ExtBut.ext hF2 hXe (fun b h=>h.1)
  exact ⟨_,_,rfl,FrMon.zero _ _,Fq.of_all Cls.nil,hFe⟩
 rw [hwh];dsimp only
 have hu : un≠3:=by rcases hun with h | h <;> rw [h] <;> decide
 have hil:=(List.getElem?_eq_some_iff.1 hal).1
 have hMok:=hMokh.out
 obtain ⟨st,al',hst,-,hrow⟩:=hMok.stk hil
 obtain ⟨sn,scs⟩:=st
 obtain ⟨⟨⟨xn,xcs⟩,why,e4⟩,hd⟩ : ∃ z,use33 ⟨sn,scs⟩ po n pt false m.run=z:=⟨_,rfl⟩
 have hi2 : i < m.stks.length:=(List.getElem?_eq_some_iff.1 hst).1
 have hi0 : (0 : Int)≤(i : Int):=by omega
 have hi1 : (i : Int) < (m.stks.length : Int):=by omega
 obtain ⟨kb,ko,ks,rfl,hkb,k0,k1,hks⟩:=hK.out.cell hst
 have hv:=hks.form
 obtain ⟨sa',sc',rfl,-⟩:=hv
 dsimp only at k0 k1
 replace hks:=Lib.hid hks
 have hdh:=Lib.hid hd
 have hres:=Lib.hid (loadM_live (p:=⟨pa,po,pt⟩) hokh.out hldh.out hu hat hst hd)
 have hsth:=Lib.hid hst;replace hun:=Lib.hid hun
 clear hu hat hal hst hrow hd hil hkb hMok hwh
 obtain ⟨bM_0,bM_1,bM_2,bM_3,bM_4,bM_5,bM_l⟩:=bM.c6
 obtain ⟨bP_0,bP_1,bP_2,bP_l⟩:=bP.c3
 go_upto_region 7 with fail
 clear bM_0 bM_1 bM_2 bM_3 bM_4 bM_5 bM_l bP_0 bP_1 bP_2 bP_l
 have bMc2 : World.cell? w2 ⟨wS.heap.size,2,none⟩=some (.slice (some ⟨kb,ko,none⟩) m.stks.length kc):=bM.cell 2
 have bMc3 : World.cell? w2 ⟨wS.heap.size,3,none⟩=some (.slice ra m.run.length rc):=bM.cell 3
 have bPc1 : World.cell? w2 ⟨wS.heap.size+1,1,none⟩=some (.int .i64 po):=bP.cell 1
 have bPc2 : World.cell? w2 ⟨wS.heap.size+1,2,none⟩=some (.int .i64 pt):=bP.cell 2
 have r0:=Ext.cell hF2 k0;have r1:=Ext.cell hF2 k1
 have hKc:=Lib.hid (hks.out.ext hF2);have hRc:=Lib.hid (hR.out.ext hF2)
 refine wp_region_rel (R:=(BxX w2.drew.heap.size 68 2 (X35 w2.drew.heap.size ⟨xn,xcs⟩))) BxX.refl (fun _ _ _=>BxX.trans X35_bxr) [PrR.eq _ (.pointer (some ⟨wS.heap.size,2,none⟩)),PrR.eq _ (.slice (some ⟨kb,ko,none⟩) m.stks.length kc),PrR.eq _ (.int .i64 (i : Int)),PrR.eq _ (.pointer (some ⟨kb,ko+i * 2,none⟩)),PrR.eq _ (.agg #[.int .i64 sn,.slice sa' scs.length sc']),PrR.eq _ (.pointer (some ⟨wS.heap.size+1,1,none⟩)),PrR.eq _ (.int .i64 po),PrR.eq _ (.int .i64 n),PrR.eq _ (.pointer (some ⟨wS.heap.size+1,2,none⟩)),PrR.eq _ (.int .i64 pt),PrR.eq _ (.pointer (some ⟨wS.heap.size,3,none⟩)),PrR.eq _ (.slice ra m.run.length rc),(PrRK w2.drew.heap.size ⟨xn,xcs⟩ (fun a' c' => .tuple #[.agg #[.int .i64 xn,.slice a' xcs.length c'],.int .u8 why,.int .i64 e4])),(PrRK w2.drew.heap.size ⟨xn,xcs⟩ (fun a' c' => .tuple #[.agg #[.int .i64 xn,.slice a' xcs.length c'],.int .u8 why,.int .i64 e4])),(PrRK w2.drew.heap.size ⟨xn,xcs⟩ (fun a' c' => .agg #[.int .i64 xn,.slice a' xcs.length c'])),PrR.eq _ (.int .u8 why),PrR.eq _ (.int .i64 e4),(PrR.up (PrRB w2.drew.heap.size 68 2)),(PrRT w2.drew.heap.size ⟨xn,xcs⟩),PrR.eq _ (.int .u8 why),PrR.eq _ (.int .i64 e4)] (by kernel_rfl) (by kernel_rfl) ?_ ?_
 ·refine ⟨?_,?_,?_,?_,?_,?_,?_,?_,?_,?_,?_,?_,?_,?_,?_,?_,?_,?_,?_,?_,?_,trivial⟩
  ·intro a w hE hd ho
   refine .inl ⟨rfl,?_⟩
   intro Kq hKq
   have hF : Ext w2 w:=Ext.trans ((Ext.refl _).drew) (BxX.to_ext hE (Nat.le_refl _))
   have e3 : a.eval (.tmp 3) = .pointer (some ⟨wS.heap.size,0,none⟩):=ho 3 (by kernel_rfl)
   rw [eval_tmp] at e3
   clear bMc2 bMc3 bPc1 bPc2 r0 r1
   clear hd ho
   replace hKq:=Lib.hid hKq
   go_simp
   exact hKq.out _ _ rfl (BxX.refl _)
  ·intro a w hE hd ho
   refine .inl ⟨rfl,?_⟩
   intro Kq hKq
   have hF : Ext w2 w:=Ext.trans ((Ext.refl _).drew) (BxX.to_ext hE (Nat.le_refl _))
   have e43 : a.eval (.tmp 43) = .pointer (some ⟨wS.heap.size,2,none⟩):=hd 0 (by kernel_rfl)
   rw [eval_tmp] at e43
   have bMc2w:=Ext.cell hF bMc2
   clear bMc2 bMc3 bPc1 bPc2 r0 r1
   clear hd ho
   replace hKq:=Lib.hid hKq
   go_simp
   exact hKq.out _ _ rfl (BxX.refl _)
  ·intro a w hE hd ho
   refine .inl ⟨rfl,?_⟩
   intro Kq hKq
   have hF : Ext w2 w:=Ext.trans ((Ext.refl _).drew) (BxX.to_ext hE (Nat.le_refl _))
   have e11 : a.eval (.tmp 11) = .int .i64 (i : Int):=ho 11 (by kernel_rfl)
   rw [eval_tmp] at e11
   clear bMc2 bMc3 bPc1 bPc2 r0 r1
   clear hd ho
   replace hKq:=Lib.hid hKq
   go_simp
   exact hKq.out _ _ rfl (BxX.refl _)
  ·intro a w hE hd ho
   refine .inl ⟨rfl,?_⟩
   intro Kq hKq
   have hF : Ext w2 w:=Ext.trans ((Ext.refl _).drew) (BxX.to_ext hE (Nat.le_refl _))
   have e44 : a.eval (.tmp 44) = .slice (some ⟨kb,ko,none⟩) m.stks.length kc:=hd 1 (by kernel_rfl)
   rw [eval_tmp] at e44
   have e45 : a.eval (.tmp 45) = .int .i64 (i : Int):=hd 2 (by kernel_rfl)
   rw [eval_tmp] at e45
   clear bMc2 bMc3 bPc1 bPc2 r0 r1
   clear hd ho
   replace hKq:=Lib.hid hKq
   go_simp
   exact hKq.out _ _ rfl (BxX.refl _)
  ·intro a w hE hd ho
   refine .inl ⟨rfl,?_⟩
   intro Kq hKq
   have hF : Ext w2 w:=Ext.trans ((Ext.refl _).drew) (BxX.to_ext hE (Nat.le_refl _))
   have e46 : a.eval (.tmp 46) = .pointer (some ⟨kb,ko+i * 2,none⟩):=hd 3 (by kernel_rfl)
   rw [eval_tmp] at e46
   have r0w:=Ext.cell hF r0
   have r1w:=Ext.cell hF r1
   clear bMc2 bMc3 bPc1 bPc2 r0 r1
   clear hd ho
   replace hKq:=Lib.hid hKq
   go_simp
   exact hKq.out _ _ rfl (BxX.refl _)
  ·intro a w hE hd ho
   refine .inl ⟨rfl,?_⟩
   intro Kq hKq
   have hF : Ext w2 w:=Ext.trans ((Ext.refl _).drew) (BxX.to_ext hE (Nat.le_refl _))
   have e4 : a.eval (.tmp 4) = .pointer (some ⟨wS.heap.size+1,0,none⟩):=ho 4 (by kernel_rfl)
   rw [eval_tmp] at e4
   clear bMc2 bMc3 bPc1 bPc2 r0 r1
   clear hd ho
   replace hKq:=Lib.hid hKq
   go_simp
   exact hKq.out _ _ rfl (BxX.refl _)
  ·intro a w hE hd ho
   refine .inl ⟨rfl,?_⟩
   intro Kq hKq
   have hF : Ext w2 w:=Ext.trans ((Ext.refl _).drew) (BxX.to_ext hE (Nat.le_refl _))
   have e48 : a.eval (.tmp 48) = .pointer (some ⟨wS.heap.size+1,1,none⟩):=hd 5 (by kernel_rfl)
   rw [eval_tmp] at e48
   have bPc1w:=Ext.cell hF bPc1
   clear bMc2 bMc3 bPc1 bPc2 r0 r1
   clear hd ho
   replace hKq:=Lib.hid hKq
   go_simp
   exact hKq.out _ _ rfl (BxX.refl _)
  ·intro a w hE hd ho
   refine .inl ⟨rfl,?_⟩
   intro Kq hKq
   have hF : Ext w2 w:=Ext.trans ((Ext.refl _).drew) (BxX.to_ext hE (Nat.le_refl _))
   have e2 : a.eval (.tmp 2) = .int .i64 n:=ho 2 (by kernel_rfl)
   rw [eval_tmp] at e2
   clear bMc2 bMc3 bPc1 bPc2 r0 r1
   clear hd ho
   replace hKq:=Lib.hid hKq
   go_simp
   exact hKq.out _ _ rfl (BxX.refl _)
  ·intro a w hE hd ho
   refine .inl ⟨rfl,?_⟩
   intro Kq hKq
   have hF : Ext w2 w:=Ext.trans ((Ext.refl _).drew) (BxX.to_ext hE (Nat.le_refl _))
   have e4 : a.eval (.tmp 4) = .pointer (some ⟨wS.heap.size+1,0,none⟩):=ho 4 (by kernel_rfl)
   rw [eval_tmp] at e4
   clear bMc2 bMc3 bPc1 bPc2 r0 r1
   clear hd ho
   replace hKq:=Lib.hid hKq
   go_simp
   exact hKq.out _ _ rfl (BxX.refl _)
  ·intro a w hE hd ho
   refine .inl ⟨rfl,?_⟩
   intro Kq hKq
   have hF : Ext w2 w:=Ext.trans ((Ext.refl _).drew) (BxX.to_ext hE (Nat.le_refl _))
   have e51 : a.eval (.tmp 51) = .pointer (some ⟨wS.heap.size+1,2,none⟩):=hd 8 (by kernel_rfl)
   rw [eval_tmp] at e51
   have bPc2w:=Ext.cell hF bPc2
   clear bMc2 bMc3 bPc1 bPc2 r0 r1
   clear hd ho
   replace hKq:=Lib.hid hKq
   go_simp
   exact hKq.out _ _ rfl (BxX.refl _)
  ·intro a w hE hd ho
   refine .inl ⟨rfl,?_⟩
   intro Kq hKq
   have hF : Ext w2 w:=Ext.trans ((Ext.refl _).drew) (BxX.to_ext hE (Nat.le_refl _))
   have e3 : a.eval (.tmp 3) = .pointer (some ⟨wS.heap.size,0,none⟩):=ho 3 (by kernel_rfl)
   rw [eval_tmp] at e3
   clear bMc2 bMc3 bPc1 bPc2 r0 r1
   clear hd ho
   replace hKq:=Lib.hid hKq
   go_simp
   exact hKq.out _ _ rfl (BxX.refl _)
  ·intro a w hE hd ho
   refine .inl ⟨rfl,?_⟩
   intro Kq hKq
   have hF : Ext w2 w:=Ext.trans ((Ext.refl _).drew) (BxX.to_ext hE (Nat.le_refl _))
   have e53 : a.eval (.tmp 53) = .pointer (some ⟨wS.heap.size,3,none⟩):=hd 10 (by kernel_rfl)
   rw [eval_tmp] at e53
   have bMc3w:=Ext.cell hF bMc3
   clear bMc2 bMc3 bPc1 bPc2 r0 r1
   clear hd ho
   replace hKq:=Lib.hid hKq
   go_simp
   exact hKq.out _ _ rfl (BxX.refl _)
  ·intro a w hE hd ho
   refine .inl ⟨rfl,?_⟩
   intro Kq hKq
   have hF : Ext w2 w:=Ext.trans ((Ext.refl _).drew) (BxX.to_ext hE (Nat.le_refl _))
   have e47 : a.eval (.tmp 47) = .agg #[.int .i64 sn,.slice sa' scs.length sc']:=hd 4 (by kernel_rfl)
   rw [eval_tmp] at e47
   have e49 : a.eval (.tmp 49) = .int .i64 po:=hd 6 (by kernel_rfl)
   rw [eval_tmp] at e49
   have e50 : a.eval (.tmp 50) = .int .i64 n:=hd 7 (by kernel_rfl)
   rw [eval_tmp] at e50
   have e52 : a.eval (.tmp 52) = .int .i64 pt:=hd 9 (by kernel_rfl)
   rw [eval_tmp] at e52
   have e54 : a.eval (.tmp 54) = .slice ra m.run.length rc:=hd 11 (by kernel_rfl)
   rw [eval_tmp] at e54
   clear bMc2 bMc3 bPc1 bPc2 r0 r1
   clear hd ho
   replace hKq:=Lib.hid hKq
   go_simp
   refine (ref33_Read (num:=sn) (a:=po) (n:=n) pt (hKc.out.ext hF) (hRc.out.ext hF)).mono ?_
   rintro e wz ⟨v1,vs1,rfl,hO1,hZ⟩
   rw [hdh.out] at hO1 ⊢
   dsimp only at hO1 ⊢
   obtain ⟨a1,c1,rfl,-⟩:=hO1.outer.sl.slice_form
   go_simp
   exact hKq.out _ _ ⟨_,_,_,rfl,OwnS.mono hO1 hF.size⟩ (BxX.of_ext hZ)
  ·intro a w hE hd ho
   refine .inl ⟨rfl,?_⟩
   intro Kq hKq
   have hF : Ext w2 w:=Ext.trans ((Ext.refl _).drew) (BxX.to_ext hE (Nat.le_refl _))
   obtain ⟨xa55,xc55,xu55,e55,g55⟩ : ∃ a' c' us,a.eval (.tmp 55) = .tuple #[.agg #[.int .i64 xn,.slice a' xcs.length c'],.int .u8 why,.int .i64 e4]∧OwnS w w2.drew.heap.size (.slice a' xcs.length c') us xcs:=hd 12 (by kernel_rfl)
   rw [eval_tmp] at e55
   clear bMc2 bMc3 bPc1 bPc2 r0 r1
   clear hd ho
   replace hKq:=Lib.hid hKq
   go_simp
   exact hKq.out _ _ ⟨_,_,_,rfl,g55⟩ (BxX.refl _)
  ·intro a w hE hd ho
   refine .inl ⟨rfl,?_⟩
   intro Kq hKq
   have hF : Ext w2 w:=Ext.trans ((Ext.refl _).drew) (BxX.to_ext hE (Nat.le_refl _))
   obtain ⟨xa42,xc42,xu42,e42,g42⟩ : ∃ a' c' us,a.eval (.tmp 42) = .tuple #[.agg #[.int .i64 xn,.slice a' xcs.length c'],.int .u8 why,.int .i64 e4]∧OwnS w w2.drew.heap.size (.slice a' xcs.length c') us xcs:=hd 13 (by kernel_rfl)
   rw [eval_tmp] at e42
   clear bMc2 bMc3 bPc1 bPc2 r0 r1
   clear hd ho
   replace hKq:=Lib.hid hKq
   go_simp
   exact hKq.out _ _ ⟨_,_,_,rfl,g42⟩ (BxX.refl _)
  ·intro a w hE hd ho
   refine .inl ⟨rfl,?_⟩
   intro Kq hKq
   have hF : Ext w2 w:=Ext.trans ((Ext.refl _).drew) (BxX.to_ext hE (Nat.le_refl _))
   obtain ⟨xa42,xc42,xu42,e42,g42⟩ : ∃ a' c' us,a.eval (.tmp 42) = .tuple #[.agg #[.int .i64 xn,.slice a' xcs.length c'],.int .u8 why,.int .i64 e4]∧OwnS w w2.drew.heap.size (.slice a' xcs.length c') us xcs:=hd 13 (by kernel_rfl)
   rw [eval_tmp] at e42
   clear bMc2 bMc3 bPc1 bPc2 r0 r1
   clear hd ho
   replace hKq:=Lib.hid hKq
   go_simp
   exact hKq.out _ _ rfl (BxX.refl _)
  ·intro a w hE hd ho
   refine .inl ⟨rfl,?_⟩
   intro Kq hKq
   have hF : Ext w2 w:=Ext.trans ((Ext.refl _).drew) (BxX.to_ext hE (Nat.le_refl _))
   obtain ⟨xa42,xc42,xu42,e42,g42⟩ : ∃ a' c' us,a.eval (.tmp 42) = .tuple #[.agg #[.int .i64 xn,.slice a' xcs.length c'],.int .u8 why,.int .i64 e4]∧OwnS w w2.drew.heap.size (.slice a' xcs.length c') us xcs:=hd 13 (by kernel_rfl)
   rw [eval_tmp] at e42
   clear bMc2 bMc3 bPc1 bPc2 r0 r1
   clear hd ho
   replace hKq:=Lib.hid hKq
   go_simp
   exact hKq.out _ _ rfl (BxX.refl _)
  ·intro a w hE hd ho
   refine .inl ⟨rfl,?_⟩
   intro Kq hKq
   have hF : Ext w2 w:=Ext.trans ((Ext.refl _).drew) (BxX.to_ext hE (Nat.le_refl _))
   clear bMc2 bMc3 bPc1 bPc2 r0 r1
   clear hd ho
   replace hKq:=Lib.hid hKq
   go_simp
   exact hKq.out _ _ ⟨_,rfl,BxX.size hE,#[.int .i64 0,.slice none 0 0],rfl,Box.new _ _ _⟩ (BxX.of_ext ((Ext.refl _).alloc _))
  ·intro a w hE hd ho
   refine .inl ⟨rfl,?_⟩
   intro Kq hKq
   have hF : Ext w2 w:=Ext.trans ((Ext.refl _).drew) (BxX.to_ext hE (Nat.le_refl _))
   obtain ⟨bq,eq,hNb,vs0,hv0,hbx⟩ : ∃ b,a.eval (.tmp 14) = .pointer (some ⟨b,0,none⟩)∧w2.drew.heap.size≤b∧BoxT 68 2 w b:=hd 17 (by kernel_rfl)
   rw [eval_tmp] at eq
   have hBT : BoxT 68 2 w bq:=⟨vs0,hv0,hbx⟩
   obtain ⟨u0,u1,rfl⟩ : ∃ u0 u1,vs0=#[u0,u1]:=by match vs0,hv0 with | ⟨[u0,u1]⟩,_=>exact ⟨u0,u1,rfl⟩
   have bc0 : World.cell? w ⟨bq,0,none⟩=some u0:=hbx.cell 0
   have bf0:=hbx.frozen 0
   have bc1 : World.cell? w ⟨bq,1,none⟩=some u1:=hbx.cell 1
   have bf1:=hbx.frozen 1
   have hbl:=hbx.lt
   replace hBT:=Lib.hid hBT
   obtain ⟨xa56,xc56,xu56,e56,g56⟩ : ∃ a' c' us,a.eval (.tmp 56) = .agg #[.int .i64 xn,.slice a' xcs.length c']∧OwnS w w2.drew.heap.size (.slice a' xcs.length c') us xcs:=hd 14 (by kernel_rfl)
   rw [eval_tmp] at e56
   clear bMc2 bMc3 bPc1 bPc2 r0 r1
   have eq0:=Lib.hid ((eval_tmp a 14).trans eq)
   clear hd ho
   replace hKq:=Lib.hid hKq
   go_simp
   have hEb : ExtBut (· = bq) w (World.setCell (World.setCell w ⟨bq,0,none⟩ (.int .i64 xn)) ⟨bq,1,none⟩ (.slice xa56 xcs.length xc56)):=(ExtBut.setCell w ⟨bq,0,none⟩ (.int .i64 xn)).trans (ExtBut.setCell (World.setCell w ⟨bq,0,none⟩ (.int .i64 xn)) ⟨bq,1,none⟩ (.slice xa56 xcs.length xc56))
   have hBx : Box (World.setCell (World.setCell w ⟨bq,0,none⟩ (.int .i64 xn)) ⟨bq,1,none⟩ (.slice xa56 xcs.length xc56)) bq 68 #[.int .i64 xn,.slice xa56 xcs.length xc56]:=(hbx.set 0 _).set 1 _
   have hB0 : BxR w2.drew.heap.size 68 2 w (World.setCell w ⟨bq,0,none⟩ (.int .i64 xn)):=BxR.set hBT.out hNb 0 _
   have hB1 : BxR w2.drew.heap.size 68 2 w (World.setCell (World.setCell w ⟨bq,0,none⟩ (.int .i64 xn)) ⟨bq,1,none⟩ (.slice xa56 xcs.length xc56)):=hB0.trans (BxR.set (hB0.boxT hBT.out) hNb 1 _)
   have hOS:=g56.bxr hB1
   have hRR : (BxX w2.drew.heap.size 68 2 (X35 w2.drew.heap.size ⟨xn,xcs⟩)) w (World.setCell (World.setCell w ⟨bq,0,none⟩ (.int .i64 xn)) ⟨bq,1,none⟩ (.slice xa56 xcs.length xc56)):=BxX.but hEb hBT.out hNb rfl hBx ⟨_,_,_,rfl,hOS⟩
   exact hKq.out undef (World.setCell (World.setCell w ⟨bq,0,none⟩ (.int .i64 xn)) ⟨bq,1,none⟩ (.slice xa56 xcs.length xc56)) ⟨bq,_,_,_,eq0.out,hNb,hBx,hOS⟩ hRR
  ·intro a w hE hd ho
   refine .inl ⟨rfl,?_⟩
   intro Kq hKq
   have hF : Ext w2 w:=Ext.trans ((Ext.refl _).drew) (BxX.to_ext hE (Nat.le_refl _))
   have e57 : a.eval (.tmp 57) = .int .u8 why:=hd 15 (by kernel_rfl)
   rw [eval_tmp] at e57
   clear bMc2 bMc3 bPc1 bPc2 r0 r1
   clear hd ho
   replace hKq:=Lib.hid hKq
   go_simp
   exact hKq.out _ _ rfl (BxX.refl _)
  ·intro a w hE hd ho
   refine .inl ⟨rfl,?_⟩
   intro Kq hKq
   have hF : Ext w2 w:=Ext.trans ((Ext.refl _).drew) (BxX.to_ext hE (Nat.le_refl _))
   have e58 : a.eval (.tmp 58) = .int .i64 e4:=hd 16 (by kernel_rfl)
   rw [eval_tmp] at e58
   clear bMc2 bMc3 bPc1 bPc2 r0 r1
   clear hd ho
   replace hKq:=Lib.hid hKq
   go_simp
   exact hKq.out _ _ rfl (BxX.refl _)
 ·intro vals Ac wq hAc hE hv hsv
  have hF : Ext w2 wq:=Ext.trans ((Ext.refl _).drew) (BxX.to_ext hE (Nat.le_refl _))
  obtain ⟨BX,xa,xc,xu,eb,hNb,bX,hOx⟩ : ∃ b a c us,vals 18 = .pointer (some ⟨b,0,none⟩)∧w2.drew.heap.size≤b∧Box wq b 68 #[.int .i64 xn,.slice a xcs.length c]∧OwnS wq w2.drew.heap.size (.slice a xcs.length c) us xcs:=hv 18 (by decide)
  have e1 : vals 17 = .pointer (some ⟨BX,0,none⟩):=((hsv 17).trans (hsv 18).symm).trans eb
  have e2 : vals 19 = .int .u8 why:=hv 19 (by decide)
  have e3 : vals 20 = .int .i64 e4:=hv 20 (by decide)
  clear hv hsv hE eb bMc2 bMc3 bPc1 bPc2 r0 r1
  subst hAc
  simp only [putAll]
  go_simp
  try rw [e1,e2,e3]
  clear e1 e2 e3
  have szbX:=Lib.hid (by have h3 : w2.heap.size≤BX:=hNb;have h4:=bR.lt;omega : wS.heap.size+3≤BX)
  have hXs0:=Lib.hid (by have h4:=bR.lt;omega : wS.heap.size+3≤w2.heap.size)
  replace bM:=bM.ext hF
  replace bP:=bP.ext hF
  replace bR:=bR.ext hF
  have hF3:=Ext.trans hF2 hF
  have hxf:=Lib.hid ((OwnS.fs hOx).mono (S':=fun b=>wS.heap.size+3≤b∧b < wq.heap.size) (fun b h1 hl=>⟨by have h2 : w2.heap.size≤b:=h1;have h3:=hXs0.out;omega,hl⟩))
  clear hNb hOx hKc hRc
  have hXx:=Lib.hid (ExtBut.refl (fun b=>wS.heap.size≤b∧b < wS.heap.size+3) wq)
  have hXl:=Lib.hid bX.lt
  by_cases hw : why=0
  rotate_left
  ·skip
   have q4 : (why != 0)=true:=by simpa using hw
   have hres1:=hres.out;rw [if_neg hw] at hres1;replace hres1:=Lib.hid hres1
   clear hw
   obtain ⟨bM_0,bM_1,bM_2,bM_3,bM_4,bM_5,bM_l⟩:=bM.c6
   have bR_0 : World.cell? wq ⟨wS.heap.size+2,0,none⟩=some (.slice none 0 0):=bR.cell 0
   have bR_1 : World.cell? wq ⟨wS.heap.size+2,1,none⟩=some (.int .i64 0):=bR.cell 1
   have bR_2 : World.cell? wq ⟨wS.heap.size+2,2,none⟩=some (.slice none 0 0):=bR.cell 2
   have bR_3 : World.cell? wq ⟨wS.heap.size+2,3,none⟩=some (.slice none 0 0):=bR.cell 3
   have bR_4 : World.cell? wq ⟨wS.heap.size+2,4,none⟩=some (.int .i64 0):=bR.cell 4
   have bR_5 : World.cell? wq ⟨wS.heap.size+2,5,none⟩=some (.int .i64 0):=bR.cell 5
   have bR_f0 : World.frozen? wq ⟨wS.heap.size+2,0,none⟩=false:=bR.frozen 0
   have bR_f1 : World.frozen? wq ⟨wS.heap.size+2,1,none⟩=false:=bR.frozen 1
   have bR_f2 : World.frozen? wq ⟨wS.heap.size+2,2,none⟩=false:=bR.frozen 2
   have bR_f3 : World.frozen? wq ⟨wS.heap.size+2,3,none⟩=false:=bR.frozen 3
   have bR_f4 : World.frozen? wq ⟨wS.heap.size+2,4,none⟩=false:=bR.frozen 4
   have bR_f5 : World.frozen? wq ⟨wS.heap.size+2,5,none⟩=false:=bR.frozen 5
   have bR_l:=bR.lt
   go_wp2
   rw [hres1.out]
   have hXe : ExtBut (fun b=>wS.heap.size≤b∧b < wS.heap.size+3) wq (World.setCell (World.setCell (World.setCell (World.setCell (World.setCell (World.setCell wq ⟨wS.heap.size+2,0,none⟩ (.slice none 0 0)) ⟨wS.heap.size+2,1,none⟩ (.int .i64 0)) ⟨wS.heap.size+2,2,none⟩ (.slice none 0 0)) ⟨wS.heap.size+2,3,none⟩ (.slice none 0 0)) ⟨wS.heap.size+2,4,none⟩ (.int .i64 0)) ⟨wS.heap.size+2,5,none⟩ (.int .i64 0)):=by (repeat' with_reducible first | exact ExtBut.refl _ _ | refine ExtBut.dr ?_ | refine ExtBut.sc ?_ ?_ | fail) <;> dsimp only <;> omega
   refine bodyPost_ret (v := .tuple #[.agg #[.slice none 0 0,.int .i64 0,.slice none 0 0,.slice none 0 0,.int .i64 0,.int .i64 0],.slice none 0 0,.int .u8 why,.int .i64 0]) (by simp [results,Tryz.f10,go_sem,bR_0,bR_1,bR_2,bR_3,bR_4,bR_5]) rfl ?_
   have hFe:=ExtBut.ext hF3 hXe (fun b h=>h.1)
   have hXxe:=ExtBut.trans hXx.out hXe
   exact ⟨_,_,rfl,FrMon.zero _ _,Fq.of_all Cls.nil,hFe⟩
  subst hw
  have hres1:=hres.out;rw [if_pos rfl] at hres1;clear hres;have hres:=Lib.hid hres1;clear hres1
  obtain ⟨bM_0,bM_1,bM_2,bM_3,bM_4,bM_5,bM_l⟩:=bM.c6
  obtain ⟨bP_0,bP_1,bP_2,bP_l⟩:=bP.c3
  go_wp2_with fail
  clear bM_0 bM_1 bM_2 bM_3 bM_4 bM_5 bM_l bP_0 bP_1 bP_2 bP_l
  have hXl1s:=Lib.hid (by have:=bR.lt;omega : wS.heap.size+3≤wq.heap.size)
  have hXx_hXl1:=Lib.hid hXx.out.size
  refine (ref27_LoadAll (m:=m.mem) ⟨pa,po,pt⟩ n (hA.out.ext hF3) hn.out).mono ?_
  rintro e w4 ⟨lv,rfl,hOl,hE4⟩
  replace bM:=bM.ext hE4
  replace bP:=bP.ext hE4
  replace bR:=bR.ext hE4
  replace bX:=bX.ext hE4
  replace hXx:=Lib.hid (ExtBut.trans hXx.out (ExtBut.of_ext hE4))
  have hF4:=Ext.trans hF3 hE4
  rw [hldh.out] at hOl ⊢
  dsimp only at hOl ⊢
  obtain ⟨la,lc,rfl,-⟩:=hOl.sl.slice_form
  have hlf:=Lib.hid ((Own.fs hOl).mono (S':=fun b=>wS.heap.size+3≤b) (fun b e _=>by have h1:=(hOl.lt e).1;have h2:=hXl1s.out;omega))
  clear hOl
  have hXl1:=Lib.hid (ExtBut.refl (fun b=>wS.heap.size≤b∧b < wS.heap.size+3) w4)
  have hun1:=hun.out
  rcases hun1 with hun1 | hun1
  rotate_left
  ·skip
   subst hun1
   have hres1:=hres.out;rw [if_neg (by decide)] at hres1;replace hres1:=Lib.hid hres1
   obtain ⟨bM_0,bM_1,bM_2,bM_3,bM_4,bM_5,bM_l⟩:=bM.c6
   have bR_0 : World.cell? w4 ⟨wS.heap.size+2,0,none⟩=some (.slice none 0 0):=bR.cell 0
   have bR_1 : World.cell? w4 ⟨wS.heap.size+2,1,none⟩=some (.int .i64 0):=bR.cell 1
   have bR_2 : World.cell? w4 ⟨wS.heap.size+2,2,none⟩=some (.slice none 0 0):=bR.cell 2
   have bR_3 : World.cell? w4 ⟨wS.heap.size+2,3,none⟩=some (.slice none 0 0):=bR.cell 3
   have bR_4 : World.cell? w4 ⟨wS.heap.size+2,4,none⟩=some (.int .i64 0):=bR.cell 4
   have bR_5 : World.cell? w4 ⟨wS.heap.size+2,5,none⟩=some (.int .i64 0):=bR.cell 5
   have bR_f0 : World.frozen? w4 ⟨wS.heap.size+2,0,none⟩=false:=bR.frozen 0
   have bR_f1 : World.frozen? w4 ⟨wS.heap.size+2,1,none⟩=false:=bR.frozen 1
   have bR_f2 : World.frozen? w4 ⟨wS.heap.size+2,2,none⟩=false:=bR.frozen 2
   have bR_f3 : World.frozen? w4 ⟨wS.heap.size+2,3,none⟩=false:=bR.frozen 3
   have bR_f4 : World.frozen? w4 ⟨wS.heap.size+2,4,none⟩=false:=bR.frozen 4
   have bR_f5 : World.frozen? w4 ⟨wS.heap.size+2,5,none⟩=false:=bR.frozen 5
   have bR_l:=bR.lt
   go_wp2
   rw [hres1.out]
   have hXe : ExtBut (fun b=>wS.heap.size≤b∧b < wS.heap.size+3) w4 (World.setCell (World.setCell (World.setCell (World.setCell (World.setCell (World.setCell w4 ⟨wS.heap.size+2,0,none⟩ (.slice none 0 0)) ⟨wS.heap.size+2,1,none⟩ (.int .i64 0)) ⟨wS.heap.size+2,2,none⟩ (.slice none 0 0)) ⟨wS.heap.size+2,3,none⟩ (.slice none 0 0)) ⟨wS.heap.size+2,4,none⟩ (.int .i64 0)) ⟨wS.heap.size+2,5,none⟩ (.int .i64 0)):=by (repeat' with_reducible first | exact ExtBut.refl _ _ | refine ExtBut.dr ?_ | refine ExtBut.sc ?_ ?_ | fail) <;> dsimp only <;> omega
   refine bodyPost_ret (v := .tuple #[.agg #[.slice none 0 0,.int .i64 0,.slice none 0 0,.slice none 0 0,.int .i64 0,.int .i64 0],.slice none 0 0,.int .u8 4,.int .i64 0]) (by simp [results,Tryz.f10,go_sem,bR_0,bR_1,bR_2,bR_3,bR_4,bR_5]) rfl ?_
   have hFe:=ExtBut.ext hF4 hXe (fun b h=>h.1)
   have hXxe:=ExtBut.trans hXx.out hXe
   have hXl1e:=ExtBut.trans hXl1.out hXe
   exact ⟨_,_,rfl,FrMon.zero _ _,Fq.of_all Cls.nil,hFe⟩
  subst hun1
  have hres1:=hres.out;rw [if_pos rfl] at hres1;replace hres1:=Lib.hid hres1;clear hres hun
  obtain ⟨bM_0,bM_1,bM_2,bM_3,bM_4,bM_5,bM_l⟩:=bM.c6
  go_wp2_with fail
  clear bM_0 bM_1 bM_2 bM_3 bM_4 bM_5 bM_l
  have hXcs:=Lib.hid (by have:=bR.lt;omega : wS.heap.size+3≤w4.heap.size)
  have hXx_hXc:=Lib.hid hXx.out.size
  have hXl1_hXc:=Lib.hid hXl1.out.size
  refine (ref35_Twin (hA.out.ext hF4) (hK.out.ext hF4) (hR.out.ext hF4) hcl.out.1 hcl.out.2.1 hcl.out.2.2).mono ?_
  rintro e w5 ⟨TN,ca,ck,cr,vsA,vs,rfl,hC,hE5⟩
  replace bM:=bM.ext hE5
  replace bP:=bP.ext hE5
  replace bR:=bR.ext hE5
  replace bX:=bX.ext hE5
  replace hXx:=Lib.hid (ExtBut.trans hXx.out (ExtBut.of_ext hE5))
  replace hXl1:=Lib.hid (ExtBut.trans hXl1.out (ExtBut.of_ext hE5))
  have hF5:=Ext.trans hF4 hE5
  have hv:=(OM.read hC.al).form
  obtain ⟨ca,cac,rfl,-⟩:=hv
  have hv:=hC.stk.outer.sl.slice_form
  obtain ⟨ck,ckc,rfl,-⟩:=hv
  have hv:=hC.run.sl.slice_form
  obtain ⟨cr,crc,rfl,-⟩:=hv
  replace hC:=Lib.hid hC
  have hXc:=Lib.hid (ExtBut.refl (fun b=>wS.heap.size≤b∧b < wS.heap.size+3) w5)
  have hTl:=Lib.hid (hC.out.low.1);have hTs:=Lib.hid (hC.out.low.2)
  obtain ⟨bM_0,bM_1,bM_2,bM_3,bM_4,bM_5,bM_l⟩:=bM.c6
  go_upto_region 14 with fail
  clear bM_0 bM_1 bM_2 bM_3 bM_4 bM_5 bM_l
  have szbO:=Lib.hid (by have:=bR.lt;omega : wS.heap.size+3≤w5.heap.size)
  have bO:=Box.new w5 28 #[.slice ca m.mem.al.length cac,.int .i64 m.mem.next,.slice ck m.stks.length ckc,.slice cr m.run.length crc,.int .i64 m.tag,.int .i64 m.call]
  have hzb0 : (World.alloc w5 (.cells #[.slice ca m.mem.al.length cac,.int .i64 m.mem.next,.slice ck m.stks.length ckc,.slice cr m.run.length crc,.int .i64 m.tag,.int .i64 m.call] 28)).heap.size=w5.heap.size+1:=by rw [World.size_alloc]
  have hx6 : Ext w5 (World.alloc w5 (.cells #[.slice ca m.mem.al.length cac,.int .i64 m.mem.next,.slice ck m.stks.length ckc,.slice cr m.run.length crc,.int .i64 m.tag,.int .i64 m.call] 28)):=(Ext.refl _).alloc _
  obtain ⟨w6b,hw6⟩ : ∃ z,World.alloc w5 (.cells #[.slice ca m.mem.al.length cac,.int .i64 m.mem.next,.slice ck m.stks.length ckc,.slice cr m.run.length crc,.int .i64 m.tag,.int .i64 m.call] 28)=z:=⟨_,rfl⟩
  rw [hw6] at bO hx6 hzb0 ⊢
  clear hw6
  replace bM:=bM.ext hx6
  replace bP:=bP.ext hx6
  replace bR:=bR.ext hx6
  replace bX:=bX.ext hx6
  replace hXx:=Lib.hid (ExtBut.trans hXx.out (ExtBut.of_ext hx6))
  replace hXl1:=Lib.hid (ExtBut.trans hXl1.out (ExtBut.of_ext hx6))
  replace hXc:=Lib.hid (ExtBut.trans hXc.out (ExtBut.of_ext hx6))
  have hF7:=Ext.trans hF5 hx6
  clear hzb0
  replace hXx:=Lib.hid (ExtBut.mono hXx.out (S':=(fun b=>(wS.heap.size≤b∧b < wS.heap.size+3)∨b=w5.heap.size)) (fun b _ h => .inl h))
  replace hXl1:=Lib.hid (ExtBut.mono hXl1.out (S':=(fun b=>(wS.heap.size≤b∧b < wS.heap.size+3)∨b=w5.heap.size)) (fun b _ h => .inl h))
  replace hXc:=Lib.hid (ExtBut.mono hXc.out (S':=(fun b=>(wS.heap.size≤b∧b < wS.heap.size+3)∨b=w5.heap.size)) (fun b _ h => .inl h))
  have hTl1:=hTl.out;have hTs1:=hTs.out
  obtain ⟨G,sv,e,hG1,hG2,hvs,-,c0,c1,hfr⟩:=OwnK.cell (hC.out.stk) hsth.out
  subst e
  have hhXc1:=hXcs.out;have hhXc2:=hXc.out.size
  have hGn : ¬ ((fun b=>(wS.heap.size≤b∧b < wS.heap.size+3)∨b=w5.heap.size)) G:=by intro h;rcases h with h | h <;> omega
  have d0:=hXc.out.cell c0 hGn
  have d1:=hXc.out.cell c1 hGn
  have hOo:=ExtBut.own (hC.out.stk).outer hXc.out (fun g e=>by have e' : some G=some g:=e;cases e';exact hGn)
  have hfr0:=hOo.frozen (i * 2);have hfr1:=hOo.frozen (i * 2+1)
  have hXlo:=hXl.out;have hXxt:=hXx_hXc.out
  have hGX : G≠BX:=by omega
  have hGW : G < w6b.heap.size:=by omega
  clear hOo;replace hvs:=Lib.hid hvs;replace hGn:=Lib.hid hGn
  clear c0 c1 hfr hhXc2
  obtain ⟨bX_0,bX_1,bX_l⟩:=bX.c2
  obtain ⟨bO_0,bO_1,bO_2,bO_3,bO_4,bO_5,bO_l⟩:=bO.c6
  go_upto_region 15 with fail
  clear bX_0 bX_1 bX_l bO_0 bO_1 bO_2 bO_3 bO_4 bO_5 bO_l
  have hXg : ExtBut (fun b=>b=G) w6b (World.setCell (World.setCell w6b ⟨G,i * 2,none⟩ (.int .i64 xn)) ⟨G,i * 2+1,none⟩ (.slice xa xcs.length xc)):=by repeat' first | exact ExtBut.refl _ _ | refine ExtBut.sc ?_ rfl | refine ExtBut.dr ?_
  have hTl1:=hTl.out;have hTs1:=hTs.out;have hXcs1:=hXcs.out
  have hOo:=ExtBut.own hC.out.stk.outer hXc.out (fun g e=>by have e' : some G=some g:=e;cases e';exact hGn.out)
  have hOg:=(hOo.set (i * 2) (.int .i64 xn)).set (i * 2+1) (.slice xa xcs.length xc)
  have hXT:=(hXc.out.mono (S':=fun b=>b < wS.heap.size+3∨b=w5.heap.size∨b=G) (fun b _ h=>by rcases h with h | h;exact .inl h.2;exact .inr (.inl h))).trans (hXg.mono (fun b _ h => .inr (.inr h)))
  have hXX:=(hXx.out.mono (S':=fun b=>b < wS.heap.size+3∨b=w5.heap.size∨b=G) (fun b _ h=>by rcases h with h | h;exact .inl h.2;exact .inr (.inl h))).trans (hXg.mono (fun b _ h => .inr (.inr h)))
  have hxW:=hxf.out.to (S':=(fun b=>wS.heap.size+3≤b∧b≠w5.heap.size)) hXX (fun b h1 hl h2=>by have:=h1.1;have:=h1.2;rcases h2 with h2 | h2 | h2 <;> omega) (fun b h1 hl=>⟨h1.1,by have:=h1.2;omega⟩)
  have hKf:=OwnK.setS (y:=⟨xn,xcs⟩) hC.out.stk hi2 hXT (fun b h1 h2 _=>⟨fun h=>by rcases h with h | h | h <;> omega,by omega,by omega⟩) ⟨by omega,by omega⟩ hOg hxW
  have hRf:=hC.out.runF.to (S':=(fun b=>wS.heap.size+3≤b∧b≠w5.heap.size)) hXT (fun b h1 hl h2=>by have h3:=hC.out.loR b h1;have h4:=(hC.out.run.lt h1).1;rcases h2 with h2 | h2 | h2 <;> omega) (fun b h1 hl=>⟨by have h4:=(hC.out.run.lt h1).1;omega,by omega⟩)
  have hAf:=hC.out.alF.to (S':=(fun b=>wS.heap.size+3≤b∧b≠w5.heap.size)) hXT (fun b h1 hl h2=>by have:=h1.1;have:=h1.2.1;rcases h2 with h2 | h2 | h2 <;> omega) (fun b h1 hl=>⟨by have:=h1.1;omega,by omega⟩)
  have hX9:=(hXl1.out.mono (S':=fun b=>b < wS.heap.size+3∨b=w5.heap.size∨b=G) (fun b _ h=>by rcases h with h | h;exact .inl h.2;exact .inr (.inl h))).trans (hXg.mono (fun b _ h => .inr (.inr h)))
  have hs9:=hXl1_hXc.out
  have hLf:=hlf.out.to (S':=(fun b=>wS.heap.size+3≤b∧b≠w5.heap.size)) hX9 (fun b h1 hl h2=>by rcases h2 with h2 | h2 | h2 <;> omega) (fun b h1 hl=>⟨h1,by omega⟩)
  clear hX9 hs9
  replace bM:=bM.but hXg (by omega);replace bP:=bP.but hXg (by omega);replace bR:=bR.but hXg (by omega);replace bO:=bO.but hXg (by omega)
  have hFg:=ExtBut.ext hF7 hXg (fun b h=>by have h' : b=G:=h;omega)
  replace hKf:=Lib.hid hKf
  replace hRf:=Lib.hid hRf
  replace hAf:=Lib.hid hAf
  replace hLf:=Lib.hid hLf
  obtain ⟨wE,hwE⟩ : ∃ z,(World.setCell (World.setCell w6b ⟨G,i * 2,none⟩ (.int .i64 xn)) ⟨G,i * 2+1,none⟩ (.slice xa xcs.length xc))=z:=⟨_,rfl⟩
  rw [hwE] at hKf hRf hAf hLf bM bP bR bO hFg ⊢
  clear hwE hXg hOg hXT hXX hxW hXc hXx hOo hGn d0 d1 hfr0 hfr1 hGW
  have hXz:=Lib.hid (ExtBut.refl (fun b=>(wS.heap.size≤b∧b < wS.heap.size+3)∨b=w5.heap.size) wE)
  have bR_0 : World.cell? wE ⟨wS.heap.size+2,0,none⟩=some (.slice none 0 0):=bR.cell 0
  have bR_1 : World.cell? wE ⟨wS.heap.size+2,1,none⟩=some (.int .i64 0):=bR.cell 1
  have bR_2 : World.cell? wE ⟨wS.heap.size+2,2,none⟩=some (.slice none 0 0):=bR.cell 2
  have bR_3 : World.cell? wE ⟨wS.heap.size+2,3,none⟩=some (.slice none 0 0):=bR.cell 3
  have bR_4 : World.cell? wE ⟨wS.heap.size+2,4,none⟩=some (.int .i64 0):=bR.cell 4
  have bR_5 : World.cell? wE ⟨wS.heap.size+2,5,none⟩=some (.int .i64 0):=bR.cell 5
  have bR_f0 : World.frozen? wE ⟨wS.heap.size+2,0,none⟩=false:=bR.frozen 0
  have bR_f1 : World.frozen? wE ⟨wS.heap.size+2,1,none⟩=false:=bR.frozen 1
  have bR_f2 : World.frozen? wE ⟨wS.heap.size+2,2,none⟩=false:=bR.frozen 2
  have bR_f3 : World.frozen? wE ⟨wS.heap.size+2,3,none⟩=false:=bR.frozen 3
  have bR_f4 : World.frozen? wE ⟨wS.heap.size+2,4,none⟩=false:=bR.frozen 4
  have bR_f5 : World.frozen? wE ⟨wS.heap.size+2,5,none⟩=false:=bR.frozen 5
  have bR_l:=bR.lt
  obtain ⟨bO_0,bO_1,bO_2,bO_3,bO_4,bO_5,bO_l⟩:=bO.c6
  go_wp2
  rw [hres1.out]
  have hXe : ExtBut (fun b=>(wS.heap.size≤b∧b < wS.heap.size+3)∨b=w5.heap.size) wE (World.setCell (World.setCell (World.setCell (World.setCell (World.setCell (World.setCell wE ⟨wS.heap.size+2,0,none⟩ (.slice ca m.mem.al.length cac)) ⟨wS.heap.size+2,1,none⟩ (.int .i64 m.mem.next)) ⟨wS.heap.size+2,2,none⟩ (.slice (some ⟨G,0,none⟩) m.stks.length ckc)) ⟨wS.heap.size+2,3,none⟩ (.slice cr m.run.length crc)) ⟨wS.heap.size+2,4,none⟩ (.int .i64 m.tag)) ⟨wS.heap.size+2,5,none⟩ (.int .i64 m.call)):=by (repeat' with_reducible first | exact ExtBut.refl _ _ | refine ExtBut.dr ?_ | refine ExtBut.sc ?_ ?_ | fail) <;> dsimp only <;> omega
  refine bodyPost_ret (v := .tuple #[.agg #[.slice ca m.mem.al.length cac,.int .i64 m.mem.next,.slice (some ⟨G,0,none⟩) m.stks.length ckc,.slice cr m.run.length crc,.int .i64 m.tag,.int .i64 m.call],.slice la ll.length lc,.int .u8 0,.int .i64 0]) (by simp [results,Tryz.f10,go_sem,bR_0,bR_1,bR_2,bR_3,bR_4,bR_5]) rfl ?_
  have hFe:=ExtBut.ext hFg hXe (fun b h=>by have h0:=szbO.out;rcases h with h | h <;> omega)
  have hXze:=ExtBut.trans hXz.out hXe
  have hKt:=(hKf.out.to (S':=fun b=>wS.heap.size≤b) hXze (fun b h1 _ h2=>by rcases h2 with h2 | h2 <;> omega) (fun b h1 _=>by omega))
  exact ⟨_,_,rfl,FrMon.of_fs (m:=⟨m.mem,m.stks.set i ⟨xn,xcs⟩,m.run,m.tag,m.call⟩) (hAf.out.to (S':=fun b=>wS.heap.size≤b) hXze (fun b h1 _ h2=>by rcases h2 with h2 | h2 <;> omega) (fun b h1 _=>by omega)) hKt (hRf.out.to (S':=fun b=>wS.heap.size≤b) hXze (fun b h1 _ h2=>by rcases h2 with h2 | h2 <;> omega) (fun b h1 _=>by omega)),(hLf.out.to (S':=fun b=>wS.heap.size≤b) hXze (fun b h1 _ h2=>by rcases h2 with h2 | h2 <;> omega) (fun b h1 _=>by omega)),hFe⟩
end Go.Proofs.YtnplphcnagooeaaGreatDoor
