/- Several texts in one: RfJ. -/
import Derived.Test.YtnplphcnagooeaaGreatDoorQ20
import Derived.Test.YtnplphcnagooeaaGreatDoorQ15
/- Contracts: the reference's Store of layer 35. (printed by gen/ref35j.py) -/
namespace Go.Proofs.YtnplphcnagooeaaGreatDoor
set_option maxRecDepth 100000
open Go.RowKit
set_option maxRecDepth 100000 in
set_option maxHeartbeats 6400000 in
theorem ref35_Store {m : Mon} {sa ss sr u : Value} {wS : World} {l : List Cell} (pa po pt : Int) (hA : Als wS sa m.mem.al) (hn : i64B m.mem.next) (hK : Kts wS ss m.stks) (hR : Nts wS sr m.run) (hl : Cls wS u l) :
  Calls Tryz.prog 12 #[.agg #[sa,.int .i64 m.mem.next,ss,sr,.int .i64 m.tag,.int .i64 m.call],.agg #[.int .i64 pa,.int .i64 po,.int .i64 pt],u] wS (RetF wS (fun v => .tuple #[v,.int .u8 (storeM m ⟨pa,po,pt⟩ l).2.1,.int .i64 (storeM m ⟨pa,po,pt⟩ l).2.2]) (storeM m ⟨pa,po,pt⟩ l).1):=by
 obtain ⟨lla,llc,rfl,hlc,hlm,-⟩:=hl.form
 unfold maxLen at hlm
 obtain ⟨aa,ac,rfl,hac,hacm,-⟩:=hA.form
 obtain ⟨ka,kc,rfl,hkc,hkcm,-⟩:=hK.form
 obtain ⟨ra,rc,rfl,hrc,hrcm,-⟩:=hR.form
 unfold maxLen at hacm hkcm hrcm
 have hE0 : Ext wS (World.alloc (World.alloc (World.alloc wS (.cells #[.slice aa m.mem.al.length ac,.int .i64 m.mem.next,.slice ka m.stks.length kc,.slice ra m.run.length rc,.int .i64 m.tag,.int .i64 m.call] 28)) (.cells #[.int .i64 pa,.int .i64 po,.int .i64 pt] 30)) (.cells #[.slice none 0 0,.int .i64 0,.slice none 0 0,.slice none 0 0,.int .i64 0,.int .i64 0] 28)):=by repeat (first | exact Ext.refl _ | refine Ext.alloc ?_ _)
 have bM : Box (World.alloc (World.alloc (World.alloc wS (.cells #[.slice aa m.mem.al.length ac,.int .i64 m.mem.next,.slice ka m.stks.length kc,.slice ra m.run.length rc,.int .i64 m.tag,.int .i64 m.call] 28)) (.cells #[.int .i64 pa,.int .i64 po,.int .i64 pt] 30)) (.cells #[.slice none 0 0,.int .i64 0,.slice none 0 0,.slice none 0 0,.int .i64 0,.int .i64 0] 28)) (wS.heap.size) 28 #[.slice aa m.mem.al.length ac,.int .i64 m.mem.next,.slice ka m.stks.length kc,.slice ra m.run.length rc,.int .i64 m.tag,.int .i64 m.call]:=(by
  have h:=Box.new wS 28 #[.slice aa m.mem.al.length ac,.int .i64 m.mem.next,.slice ka m.stks.length kc,.slice ra m.run.length rc,.int .i64 m.tag,.int .i64 m.call]
  replace h:=Box.ext h ((Ext.refl _).alloc (.cells #[.int .i64 pa,.int .i64 po,.int .i64 pt] 30))
  replace h:=Box.ext h ((Ext.refl _).alloc (.cells #[.slice none 0 0,.int .i64 0,.slice none 0 0,.slice none 0 0,.int .i64 0,.int .i64 0] 28))
  exact h)
 have bP : Box (World.alloc (World.alloc (World.alloc wS (.cells #[.slice aa m.mem.al.length ac,.int .i64 m.mem.next,.slice ka m.stks.length kc,.slice ra m.run.length rc,.int .i64 m.tag,.int .i64 m.call] 28)) (.cells #[.int .i64 pa,.int .i64 po,.int .i64 pt] 30)) (.cells #[.slice none 0 0,.int .i64 0,.slice none 0 0,.slice none 0 0,.int .i64 0,.int .i64 0] 28)) (wS.heap.size+1) 30 #[.int .i64 pa,.int .i64 po,.int .i64 pt]:=(by
  have h:=Box.new (World.alloc wS (.cells #[.slice aa m.mem.al.length ac,.int .i64 m.mem.next,.slice ka m.stks.length kc,.slice ra m.run.length rc,.int .i64 m.tag,.int .i64 m.call] 28)) 30 #[.int .i64 pa,.int .i64 po,.int .i64 pt]
  simp only [World.size_alloc] at h
  replace h:=Box.ext h ((Ext.refl _).alloc (.cells #[.slice none 0 0,.int .i64 0,.slice none 0 0,.slice none 0 0,.int .i64 0,.int .i64 0] 28))
  exact h)
 have bR : Box (World.alloc (World.alloc (World.alloc wS (.cells #[.slice aa m.mem.al.length ac,.int .i64 m.mem.next,.slice ka m.stks.length kc,.slice ra m.run.length rc,.int .i64 m.tag,.int .i64 m.call] 28)) (.cells #[.int .i64 pa,.int .i64 po,.int .i64 pt] 30)) (.cells #[.slice none 0 0,.int .i64 0,.slice none 0 0,.slice none 0 0,.int .i64 0,.int .i64 0] 28)) (wS.heap.size+2) 28 #[.slice none 0 0,.int .i64 0,.slice none 0 0,.slice none 0 0,.int .i64 0,.int .i64 0]:=(by
  have h:=Box.new (World.alloc (World.alloc wS (.cells #[.slice aa m.mem.al.length ac,.int .i64 m.mem.next,.slice ka m.stks.length kc,.slice ra m.run.length rc,.int .i64 m.tag,.int .i64 m.call] 28)) (.cells #[.int .i64 pa,.int .i64 po,.int .i64 pt] 30)) 28 #[.slice none 0 0,.int .i64 0,.slice none 0 0,.slice none 0 0,.int .i64 0,.int .i64 0]
  simp only [World.size_alloc] at h
  exact h)
 obtain ⟨w0,hw0⟩ : ∃ z,(World.alloc (World.alloc (World.alloc wS (.cells #[.slice aa m.mem.al.length ac,.int .i64 m.mem.next,.slice ka m.stks.length kc,.slice ra m.run.length rc,.int .i64 m.tag,.int .i64 m.call] 28)) (.cells #[.int .i64 pa,.int .i64 po,.int .i64 pt] 30)) (.cells #[.slice none 0 0,.int .i64 0,.slice none 0 0,.slice none 0 0,.int .i64 0,.int .i64 0] 28))=z:=⟨_,rfl⟩
 rw [hw0] at hE0 bM bP bR
 have hs0 : w0.heap.size=wS.heap.size+3:=by rw [← hw0];simp
 replace hs0:=Lib.hid hs0
 replace hA:=Lib.hid hA
 replace hK:=Lib.hid hK
 replace hR:=Lib.hid hR
 replace hn:=Lib.hid hn
 replace hl:=Lib.hid hl
 go_enter Tryz.func12,Tryz.ntmps12
 obtain ⟨bM_0,bM_1,bM_2,bM_3,bM_4,bM_5,bM_l⟩:=bM.c6
 go_wp2_with fail
 clear bM_0 bM_1 bM_2 bM_3 bM_4 bM_5 bM_l
 refine (ref35_Check (hA.out.ext hE0) hn.out (hK.out.ext hE0) (hR.out.ext hE0)).mono ?_
 rintro e w1 ⟨rfl,hE1⟩
 replace bM:=bM.ext hE1
 replace bP:=bP.ext hE1
 replace bR:=bR.ext hE1
 have hF1:=Ext.trans hE0 hE1
 clear hw0
 cases hok : okMon m
 ·skip
  rw [monErr_not hok]
  have hres:=Lib.hid (storeM_bad (p:=⟨pa,po,pt⟩) (l:=l) hok)
  clear hok
  obtain ⟨bM_0,bM_1,bM_2,bM_3,bM_4,bM_5,bM_l⟩:=bM.c6
  have bR_0 : World.cell? w1 ⟨wS.heap.size+2,0,none⟩=some (.slice none 0 0):=bR.cell 0
  have bR_1 : World.cell? w1 ⟨wS.heap.size+2,1,none⟩=some (.int .i64 0):=bR.cell 1
  have bR_2 : World.cell? w1 ⟨wS.heap.size+2,2,none⟩=some (.slice none 0 0):=bR.cell 2
  have bR_3 : World.cell? w1 ⟨wS.heap.size+2,3,none⟩=some (.slice none 0 0):=bR.cell 3
  have bR_4 : World.cell? w1 ⟨wS.heap.size+2,4,none⟩=some (.int .i64 0):=bR.cell 4
  have bR_5 : World.cell? w1 ⟨wS.heap.size+2,5,none⟩=some (.int .i64 0):=bR.cell 5
  have bR_f0 : World.frozen? w1 ⟨wS.heap.size+2,0,none⟩=false:=bR.frozen 0
  have bR_f1 : World.frozen? w1 ⟨wS.heap.size+2,1,none⟩=false:=bR.frozen 1
  have bR_f2 : World.frozen? w1 ⟨wS.heap.size+2,2,none⟩=false:=bR.frozen 2
  have bR_f3 : World.frozen? w1 ⟨wS.heap.size+2,3,none⟩=false:=bR.frozen 3
  have bR_f4 : World.frozen? w1 ⟨wS.heap.size+2,4,none⟩=false:=bR.frozen 4
  have bR_f5 : World.frozen? w1 ⟨wS.heap.size+2,5,none⟩=false:=bR.frozen 5
  have bR_l:=bR.lt
  go_wp2
  rw [hres.out]
  have hXe : ExtBut (fun b=>wS.heap.size≤b∧b < wS.heap.size+3) w1 (World.setCell (World.setCell (World.setCell (World.setCell (World.setCell (World.setCell w1 ⟨wS.heap.size+2,0,none⟩ (.slice none 0 0)) ⟨wS.heap.size+2,1,none⟩ (.int .i64 0)) ⟨wS.heap.size+2,2,none⟩ (.slice none 0 0)) ⟨wS.heap.size+2,3,none⟩ (.slice none 0 0)) ⟨wS.heap.size+2,4,none⟩ (.int .i64 0)) ⟨wS.heap.size+2,5,none⟩ (.int .i64 0)):=by (repeat' with_reducible first | exact ExtBut.refl _ _ | refine ExtBut.dr ?_ | refine ExtBut.sc ?_ ?_ | fail) <;> dsimp only <;> omega
  refine bodyPost_ret (v := .tuple #[.agg #[.slice none 0 0,.int .i64 0,.slice none 0 0,.slice none 0 0,.int .i64 0,.int .i64 0],.int .u8 0,.int .i64 8]) (by simp [results,Tryz.f12,go_sem,bR_0,bR_1,bR_2,bR_3,bR_4,bR_5]) rfl ?_
  have hFe:=ExtBut.ext hF1 hXe (fun b h=>h.1)
  exact ⟨_,rfl,FrMon.zero _ _,hFe⟩
 rw [monErr_of hok]
 have hMok:=MonOk.of hok;have hcl:=Lib.hid hMok.small
 obtain ⟨⟨y,un,er⟩,hsd⟩ : ∃ z,storeR m.mem ⟨pa,po,pt⟩ l=z:=⟨_,rfl⟩
 have hsdh:=Lib.hid hsd;have hokh:=Lib.hid hok;have hMokh:=Lib.hid hMok
 clear hok hMok hsd
 obtain ⟨bM_0,bM_1,bM_2,bM_3,bM_4,bM_5,bM_l⟩:=bM.c6
 obtain ⟨bP_0,bP_1,bP_2,bP_l⟩:=bP.c3
 go_wp2_with fail
 clear bM_0 bM_1 bM_2 bM_3 bM_4 bM_5 bM_l bP_0 bP_1 bP_2 bP_l
 have hXas:=Lib.hid (by have:=bR.lt;omega : wS.heap.size+3≤w1.heap.size)
 refine (ref27_StoreAll (m:=m.mem) (l:=l) ⟨pa,po,pt⟩ (hA.out.ext hF1) hn.out (hl.out.ext hF1)).mono ?_
 rintro e w2 ⟨v,rfl,fM,hE2⟩
 replace bM:=bM.ext hE2
 replace bP:=bP.ext hE2
 replace bR:=bR.ext hE2
 have hF2:=Ext.trans hF1 hE2
 rw [hsdh.out] at fM ⊢
 obtain ⟨sy,rfl,hy⟩:=FrM.fs fM
 clear fM
 have hv:=hy.read.form
 obtain ⟨ya,yc,rfl,-⟩:=hv
 dsimp only at hy ⊢
 replace hy:=Lib.hid (Fq.mono hy (S':=fun b=>wS.heap.size+3≤b) (fun b h1 _=>by have:=hXas.out;omega))
 have hXa:=Lib.hid (ExtBut.refl (fun b=>wS.heap.size≤b∧b < wS.heap.size+3) w2)
 go_upto_region 5 with fail
 have szbY:=Lib.hid (by have:=bR.lt;omega : wS.heap.size+3≤w2.heap.size)
 have bY:=Box.new w2 24 #[.slice ya y.al.length yc,.int .i64 y.next]
 have hzb0 : (World.alloc w2 (.cells #[.slice ya y.al.length yc,.int .i64 y.next] 24)).heap.size=w2.heap.size+1:=by rw [World.size_alloc]
 have hx3 : Ext w2 (World.alloc w2 (.cells #[.slice ya y.al.length yc,.int .i64 y.next] 24)):=(Ext.refl _).alloc _
 obtain ⟨w3b,hw3⟩ : ∃ z,World.alloc w2 (.cells #[.slice ya y.al.length yc,.int .i64 y.next] 24)=z:=⟨_,rfl⟩
 rw [hw3] at bY hx3 hzb0 ⊢
 clear hw3
 replace bM:=bM.ext hx3
 replace bP:=bP.ext hx3
 replace bR:=bR.ext hx3
 replace hXa:=Lib.hid (ExtBut.trans hXa.out (ExtBut.of_ext hx3))
 have hF4:=Ext.trans hF2 hx3
 clear hzb0
 by_cases he : er=0
 rotate_left
 ·skip
  have q1 : (er != 0)=true:=by simpa using he
  have hres:=Lib.hid (storeM_err (p:=⟨pa,po,pt⟩) hokh.out hsdh.out (.inl he))
  clear he
  obtain ⟨bM_0,bM_1,bM_2,bM_3,bM_4,bM_5,bM_l⟩:=bM.c6
  have bR_0 : World.cell? w3b ⟨wS.heap.size+2,0,none⟩=some (.slice none 0 0):=bR.cell 0
  have bR_1 : World.cell? w3b ⟨wS.heap.size+2,1,none⟩=some (.int .i64 0):=bR.cell 1
  have bR_2 : World.cell? w3b ⟨wS.heap.size+2,2,none⟩=some (.slice none 0 0):=bR.cell 2
  have bR_3 : World.cell? w3b ⟨wS.heap.size+2,3,none⟩=some (.slice none 0 0):=bR.cell 3
  have bR_4 : World.cell? w3b ⟨wS.heap.size+2,4,none⟩=some (.int .i64 0):=bR.cell 4
  have bR_5 : World.cell? w3b ⟨wS.heap.size+2,5,none⟩=some (.int .i64 0):=bR.cell 5
  have bR_f0 : World.frozen? w3b ⟨wS.heap.size+2,0,none⟩=false:=bR.frozen 0
  have bR_f1 : World.frozen? w3b ⟨wS.heap.size+2,1,none⟩=false:=bR.frozen 1
  have bR_f2 : World.frozen? w3b ⟨wS.heap.size+2,2,none⟩=false:=bR.frozen 2
  have bR_f3 : World.frozen? w3b ⟨wS.heap.size+2,3,none⟩=false:=bR.frozen 3
  have bR_f4 : World.frozen? w3b ⟨wS.heap.size+2,4,none⟩=false:=bR.frozen 4
  have bR_f5 : World.frozen? w3b ⟨wS.heap.size+2,5,none⟩=false:=bR.frozen 5
  have bR_l:=bR.lt
  go_wp2
  rw [hres.out]
  have hXe : ExtBut (fun b=>wS.heap.size≤b∧b < wS.heap.size+3) w3b (World.setCell (World.setCell (World.setCell (World.setCell (World.setCell (World.setCell w3b ⟨wS.heap.size+2,0,none⟩ (.slice none 0 0)) ⟨wS.heap.size+2,1,none⟩ (.int .i64 0)) ⟨wS.heap.size+2,2,none⟩ (.slice none 0 0)) ⟨wS.heap.size+2,3,none⟩ (.slice none 0 0)) ⟨wS.heap.size+2,4,none⟩ (.int .i64 0)) ⟨wS.heap.size+2,5,none⟩ (.int .i64 0)):=by (repeat' with_reducible first | exact ExtBut.refl _ _ | refine ExtBut.dr ?_ | refine ExtBut.sc ?_ ?_ | fail) <;> dsimp only <;> omega
  refine bodyPost_ret (v := .tuple #[.agg #[.slice none 0 0,.int .i64 0,.slice none 0 0,.slice none 0 0,.int .i64 0,.int .i64 0],.int .u8 un,.int .i64 er]) (by simp [results,Tryz.f12,go_sem,bR_0,bR_1,bR_2,bR_3,bR_4,bR_5]) rfl ?_
  have hFe:=ExtBut.ext hF4 hXe (fun b h=>h.1)
  have hXae:=ExtBut.trans hXa.out hXe
  exact ⟨_,rfl,FrMon.zero _ _,hFe⟩
 subst he
 by_cases hu : un=0
 rotate_left
 ·skip
  have q2 : (un != 0)=true:=by simpa using hu
  have hres:=Lib.hid (storeM_err (p:=⟨pa,po,pt⟩) hokh.out hsdh.out (.inr hu))
  clear hu
  obtain ⟨bM_0,bM_1,bM_2,bM_3,bM_4,bM_5,bM_l⟩:=bM.c6
  have bR_0 : World.cell? w3b ⟨wS.heap.size+2,0,none⟩=some (.slice none 0 0):=bR.cell 0
  have bR_1 : World.cell? w3b ⟨wS.heap.size+2,1,none⟩=some (.int .i64 0):=bR.cell 1
  have bR_2 : World.cell? w3b ⟨wS.heap.size+2,2,none⟩=some (.slice none 0 0):=bR.cell 2
  have bR_3 : World.cell? w3b ⟨wS.heap.size+2,3,none⟩=some (.slice none 0 0):=bR.cell 3
  have bR_4 : World.cell? w3b ⟨wS.heap.size+2,4,none⟩=some (.int .i64 0):=bR.cell 4
  have bR_5 : World.cell? w3b ⟨wS.heap.size+2,5,none⟩=some (.int .i64 0):=bR.cell 5
  have bR_f0 : World.frozen? w3b ⟨wS.heap.size+2,0,none⟩=false:=bR.frozen 0
  have bR_f1 : World.frozen? w3b ⟨wS.heap.size+2,1,none⟩=false:=bR.frozen 1
  have bR_f2 : World.frozen? w3b ⟨wS.heap.size+2,2,none⟩=false:=bR.frozen 2
  have bR_f3 : World.frozen? w3b ⟨wS.heap.size+2,3,none⟩=false:=bR.frozen 3
  have bR_f4 : World.frozen? w3b ⟨wS.heap.size+2,4,none⟩=false:=bR.frozen 4
  have bR_f5 : World.frozen? w3b ⟨wS.heap.size+2,5,none⟩=false:=bR.frozen 5
  have bR_l:=bR.lt
  go_wp2
  rw [hres.out]
  have hXe : ExtBut (fun b=>wS.heap.size≤b∧b < wS.heap.size+3) w3b (World.setCell (World.setCell (World.setCell (World.setCell (World.setCell (World.setCell w3b ⟨wS.heap.size+2,0,none⟩ (.slice none 0 0)) ⟨wS.heap.size+2,1,none⟩ (.int .i64 0)) ⟨wS.heap.size+2,2,none⟩ (.slice none 0 0)) ⟨wS.heap.size+2,3,none⟩ (.slice none 0 0)) ⟨wS.heap.size+2,4,none⟩ (.int .i64 0)) ⟨wS.heap.size+2,5,none⟩ (.int .i64 0)):=by (repeat' with_reducible first | exact ExtBut.refl _ _ | refine ExtBut.dr ?_ | refine ExtBut.sc ?_ ?_ | fail) <;> dsimp only <;> omega
  refine bodyPost_ret (v := .tuple #[.agg #[.slice none 0 0,.int .i64 0,.slice none 0 0,.slice none 0 0,.int .i64 0,.int .i64 0],.int .u8 un,.int .i64 0]) (by simp [results,Tryz.f12,go_sem,bR_0,bR_1,bR_2,bR_3,bR_4,bR_5]) rfl ?_
  have hFe:=ExtBut.ext hF4 hXe (fun b h=>h.1)
  have hXae:=ExtBut.trans hXa.out hXe
  exact ⟨_,rfl,FrMon.zero _ _,hFe⟩
 subst hu
 obtain ⟨i,al,hat,hal,-,hwh,-⟩:=store_ways hsdh.out
 have hil:=(List.getElem?_eq_some_iff.1 hal).1
 have hMok:=hMokh.out
 obtain ⟨st,al',hst,-,hrow⟩:=hMok.stk hil
 obtain ⟨sn,scs⟩:=st
 obtain ⟨⟨⟨xn,xcs⟩,why,e4⟩,hd⟩ : ∃ z,use33 ⟨sn,scs⟩ po (l.length : Int) pt true m.run=z:=⟨_,rfl⟩
 have hi2 : i < m.stks.length:=(List.getElem?_eq_some_iff.1 hst).1
 have hi0 : (0 : Int)≤(i : Int):=by omega
 have hi1 : (i : Int) < (m.stks.length : Int):=by omega
 obtain ⟨kb,ko,ks,rfl,hkb,k0,k1,hks⟩:=hK.out.cell hst
 have hv:=hks.form
 obtain ⟨sa',sc',rfl,-⟩:=hv
 dsimp only at k0 k1
 replace hks:=Lib.hid hks
 have hdh:=Lib.hid hd
 have hres:=Lib.hid (storeM_live (p:=⟨pa,po,pt⟩) hokh.out hsdh.out hat hst hd)
 have hsth:=Lib.hid hst;replace hwh:=Lib.hid hwh
 clear hat hal hst hrow hd hil hkb hMok
 obtain ⟨bM_0,bM_1,bM_2,bM_3,bM_4,bM_5,bM_l⟩:=bM.c6
 obtain ⟨bP_0,bP_1,bP_2,bP_l⟩:=bP.c3
 go_wp2_with fail
 clear bM_0 bM_1 bM_2 bM_3 bM_4 bM_5 bM_l bP_0 bP_1 bP_2 bP_l
 refine (ref35_where (m:=m) ⟨pa,po,pt⟩ (l.length : Int) (hA.out.ext hF4) hn.out (hK.out.ext hF4) (hR.out.ext hF4)).mono ?_
 rintro e w5 ⟨rfl,hE5⟩
 replace bM:=bM.ext hE5
 replace bP:=bP.ext hE5
 replace bR:=bR.ext hE5
 replace bY:=bY.ext hE5
 replace hXa:=Lib.hid (ExtBut.trans hXa.out (ExtBut.of_ext hE5))
 have hF5:=Ext.trans hF4 hE5
 rw [hwh.out]
 dsimp only
 obtain ⟨bM_0,bM_1,bM_2,bM_3,bM_4,bM_5,bM_l⟩:=bM.c6
 obtain ⟨bP_0,bP_1,bP_2,bP_l⟩:=bP.c3
 go_upto_region 8 with fail
 clear bM_0 bM_1 bM_2 bM_3 bM_4 bM_5 bM_l bP_0 bP_1 bP_2 bP_l
 have bMc2 : World.cell? w5 ⟨wS.heap.size,2,none⟩=some (.slice (some ⟨kb,ko,none⟩) m.stks.length kc):=bM.cell 2
 have bMc3 : World.cell? w5 ⟨wS.heap.size,3,none⟩=some (.slice ra m.run.length rc):=bM.cell 3
 have bPc1 : World.cell? w5 ⟨wS.heap.size+1,1,none⟩=some (.int .i64 po):=bP.cell 1
 have bPc2 : World.cell? w5 ⟨wS.heap.size+1,2,none⟩=some (.int .i64 pt):=bP.cell 2
 have r0:=Ext.cell hF5 k0;have r1:=Ext.cell hF5 k1
 have hKc:=Lib.hid (hks.out.ext hF5);have hRc:=Lib.hid (hR.out.ext hF5)
 refine wp_region_rel (R:=(BxX w5.drew.heap.size 68 2 (X35 w5.drew.heap.size ⟨xn,xcs⟩))) BxX.refl (fun _ _ _=>BxX.trans X35_bxr) [PrR.eq _ (.pointer (some ⟨wS.heap.size,2,none⟩)),PrR.eq _ (.slice (some ⟨kb,ko,none⟩) m.stks.length kc),PrR.eq _ (.int .i64 (i : Int)),PrR.eq _ (.pointer (some ⟨kb,ko+i * 2,none⟩)),PrR.eq _ (.agg #[.int .i64 sn,.slice sa' scs.length sc']),PrR.eq _ (.pointer (some ⟨wS.heap.size+1,1,none⟩)),PrR.eq _ (.int .i64 po),PrR.eq _ (.slice lla l.length llc),PrR.eq _ (.int .i64 l.length),PrR.eq _ (.pointer (some ⟨wS.heap.size+1,2,none⟩)),PrR.eq _ (.int .i64 pt),PrR.eq _ (.pointer (some ⟨wS.heap.size,3,none⟩)),PrR.eq _ (.slice ra m.run.length rc),(PrRK w5.drew.heap.size ⟨xn,xcs⟩ (fun a' c' => .tuple #[.agg #[.int .i64 xn,.slice a' xcs.length c'],.int .u8 why,.int .i64 e4])),(PrRK w5.drew.heap.size ⟨xn,xcs⟩ (fun a' c' => .tuple #[.agg #[.int .i64 xn,.slice a' xcs.length c'],.int .u8 why,.int .i64 e4])),(PrRK w5.drew.heap.size ⟨xn,xcs⟩ (fun a' c' => .agg #[.int .i64 xn,.slice a' xcs.length c'])),PrR.eq _ (.int .u8 why),PrR.eq _ (.int .i64 e4),(PrR.up (PrRB w5.drew.heap.size 68 2)),(PrRT w5.drew.heap.size ⟨xn,xcs⟩),PrR.eq _ (.int .u8 why),PrR.eq _ (.int .i64 e4)] (by kernel_rfl) (by kernel_rfl) ?_ ?_
 ·refine ⟨?_,?_,?_,?_,?_,?_,?_,?_,?_,?_,?_,?_,?_,?_,?_,?_,?_,?_,?_,?_,?_,?_,trivial⟩
  ·intro a w hE hd ho
   refine .inl ⟨rfl,?_⟩
   intro Kq hKq
   have hF : Ext w5 w:=Ext.trans ((Ext.refl _).drew) (BxX.to_ext hE (Nat.le_refl _))
   have e3 : a.eval (.tmp 3) = .pointer (some ⟨wS.heap.size,0,none⟩):=ho 3 (by kernel_rfl)
   rw [eval_tmp] at e3
   clear bMc2 bMc3 bPc1 bPc2 r0 r1
   clear hd ho
   replace hKq:=Lib.hid hKq
   go_simp
   exact hKq.out _ _ rfl (BxX.refl _)
  ·intro a w hE hd ho
   refine .inl ⟨rfl,?_⟩
   intro Kq hKq
   have hF : Ext w5 w:=Ext.trans ((Ext.refl _).drew) (BxX.to_ext hE (Nat.le_refl _))
   have e53 : a.eval (.tmp 53) = .pointer (some ⟨wS.heap.size,2,none⟩):=hd 0 (by kernel_rfl)
   rw [eval_tmp] at e53
   have bMc2w:=Ext.cell hF bMc2
   clear bMc2 bMc3 bPc1 bPc2 r0 r1
   clear hd ho
   replace hKq:=Lib.hid hKq
   go_simp
   exact hKq.out _ _ rfl (BxX.refl _)
  ·intro a w hE hd ho
   refine .inl ⟨rfl,?_⟩
   intro Kq hKq
   have hF : Ext w5 w:=Ext.trans ((Ext.refl _).drew) (BxX.to_ext hE (Nat.le_refl _))
   have e13 : a.eval (.tmp 13) = .int .i64 (i : Int):=ho 13 (by kernel_rfl)
   rw [eval_tmp] at e13
   clear bMc2 bMc3 bPc1 bPc2 r0 r1
   clear hd ho
   replace hKq:=Lib.hid hKq
   go_simp
   exact hKq.out _ _ rfl (BxX.refl _)
  ·intro a w hE hd ho
   refine .inl ⟨rfl,?_⟩
   intro Kq hKq
   have hF : Ext w5 w:=Ext.trans ((Ext.refl _).drew) (BxX.to_ext hE (Nat.le_refl _))
   have e54 : a.eval (.tmp 54) = .slice (some ⟨kb,ko,none⟩) m.stks.length kc:=hd 1 (by kernel_rfl)
   rw [eval_tmp] at e54
   have e55 : a.eval (.tmp 55) = .int .i64 (i : Int):=hd 2 (by kernel_rfl)
   rw [eval_tmp] at e55
   clear bMc2 bMc3 bPc1 bPc2 r0 r1
   clear hd ho
   replace hKq:=Lib.hid hKq
   go_simp
   exact hKq.out _ _ rfl (BxX.refl _)
  ·intro a w hE hd ho
   refine .inl ⟨rfl,?_⟩
   intro Kq hKq
   have hF : Ext w5 w:=Ext.trans ((Ext.refl _).drew) (BxX.to_ext hE (Nat.le_refl _))
   have e56 : a.eval (.tmp 56) = .pointer (some ⟨kb,ko+i * 2,none⟩):=hd 3 (by kernel_rfl)
   rw [eval_tmp] at e56
   have r0w:=Ext.cell hF r0
   have r1w:=Ext.cell hF r1
   clear bMc2 bMc3 bPc1 bPc2 r0 r1
   clear hd ho
   replace hKq:=Lib.hid hKq
   go_simp
   exact hKq.out _ _ rfl (BxX.refl _)
  ·intro a w hE hd ho
   refine .inl ⟨rfl,?_⟩
   intro Kq hKq
   have hF : Ext w5 w:=Ext.trans ((Ext.refl _).drew) (BxX.to_ext hE (Nat.le_refl _))
   have e4 : a.eval (.tmp 4) = .pointer (some ⟨wS.heap.size+1,0,none⟩):=ho 4 (by kernel_rfl)
   rw [eval_tmp] at e4
   clear bMc2 bMc3 bPc1 bPc2 r0 r1
   clear hd ho
   replace hKq:=Lib.hid hKq
   go_simp
   exact hKq.out _ _ rfl (BxX.refl _)
  ·intro a w hE hd ho
   refine .inl ⟨rfl,?_⟩
   intro Kq hKq
   have hF : Ext w5 w:=Ext.trans ((Ext.refl _).drew) (BxX.to_ext hE (Nat.le_refl _))
   have e58 : a.eval (.tmp 58) = .pointer (some ⟨wS.heap.size+1,1,none⟩):=hd 5 (by kernel_rfl)
   rw [eval_tmp] at e58
   have bPc1w:=Ext.cell hF bPc1
   clear bMc2 bMc3 bPc1 bPc2 r0 r1
   clear hd ho
   replace hKq:=Lib.hid hKq
   go_simp
   exact hKq.out _ _ rfl (BxX.refl _)
  ·intro a w hE hd ho
   refine .inl ⟨rfl,?_⟩
   intro Kq hKq
   have hF : Ext w5 w:=Ext.trans ((Ext.refl _).drew) (BxX.to_ext hE (Nat.le_refl _))
   have e2 : a.eval (.tmp 2) = .slice lla l.length llc:=ho 2 (by kernel_rfl)
   rw [eval_tmp] at e2
   clear bMc2 bMc3 bPc1 bPc2 r0 r1
   clear hd ho
   replace hKq:=Lib.hid hKq
   go_simp
   exact hKq.out _ _ rfl (BxX.refl _)
  ·intro a w hE hd ho
   refine .inl ⟨rfl,?_⟩
   intro Kq hKq
   have hF : Ext w5 w:=Ext.trans ((Ext.refl _).drew) (BxX.to_ext hE (Nat.le_refl _))
   have e60 : a.eval (.tmp 60) = .slice lla l.length llc:=hd 7 (by kernel_rfl)
   rw [eval_tmp] at e60
   clear bMc2 bMc3 bPc1 bPc2 r0 r1
   clear hd ho
   replace hKq:=Lib.hid hKq
   go_simp
   exact hKq.out _ _ rfl (BxX.refl _)
  ·intro a w hE hd ho
   refine .inl ⟨rfl,?_⟩
   intro Kq hKq
   have hF : Ext w5 w:=Ext.trans ((Ext.refl _).drew) (BxX.to_ext hE (Nat.le_refl _))
   have e4 : a.eval (.tmp 4) = .pointer (some ⟨wS.heap.size+1,0,none⟩):=ho 4 (by kernel_rfl)
   rw [eval_tmp] at e4
   clear bMc2 bMc3 bPc1 bPc2 r0 r1
   clear hd ho
   replace hKq:=Lib.hid hKq
   go_simp
   exact hKq.out _ _ rfl (BxX.refl _)
  ·intro a w hE hd ho
   refine .inl ⟨rfl,?_⟩
   intro Kq hKq
   have hF : Ext w5 w:=Ext.trans ((Ext.refl _).drew) (BxX.to_ext hE (Nat.le_refl _))
   have e62 : a.eval (.tmp 62) = .pointer (some ⟨wS.heap.size+1,2,none⟩):=hd 9 (by kernel_rfl)
   rw [eval_tmp] at e62
   have bPc2w:=Ext.cell hF bPc2
   clear bMc2 bMc3 bPc1 bPc2 r0 r1
   clear hd ho
   replace hKq:=Lib.hid hKq
   go_simp
   exact hKq.out _ _ rfl (BxX.refl _)
  ·intro a w hE hd ho
   refine .inl ⟨rfl,?_⟩
   intro Kq hKq
   have hF : Ext w5 w:=Ext.trans ((Ext.refl _).drew) (BxX.to_ext hE (Nat.le_refl _))
   have e3 : a.eval (.tmp 3) = .pointer (some ⟨wS.heap.size,0,none⟩):=ho 3 (by kernel_rfl)
   rw [eval_tmp] at e3
   clear bMc2 bMc3 bPc1 bPc2 r0 r1
   clear hd ho
   replace hKq:=Lib.hid hKq
   go_simp
   exact hKq.out _ _ rfl (BxX.refl _)
  ·intro a w hE hd ho
   refine .inl ⟨rfl,?_⟩
   intro Kq hKq
   have hF : Ext w5 w:=Ext.trans ((Ext.refl _).drew) (BxX.to_ext hE (Nat.le_refl _))
   have e64 : a.eval (.tmp 64) = .pointer (some ⟨wS.heap.size,3,none⟩):=hd 11 (by kernel_rfl)
   rw [eval_tmp] at e64
   have bMc3w:=Ext.cell hF bMc3
   clear bMc2 bMc3 bPc1 bPc2 r0 r1
   clear hd ho
   replace hKq:=Lib.hid hKq
   go_simp
   exact hKq.out _ _ rfl (BxX.refl _)
  ·intro a w hE hd ho
   refine .inl ⟨rfl,?_⟩
   intro Kq hKq
   have hF : Ext w5 w:=Ext.trans ((Ext.refl _).drew) (BxX.to_ext hE (Nat.le_refl _))
   have e57 : a.eval (.tmp 57) = .agg #[.int .i64 sn,.slice sa' scs.length sc']:=hd 4 (by kernel_rfl)
   rw [eval_tmp] at e57
   have e59 : a.eval (.tmp 59) = .int .i64 po:=hd 6 (by kernel_rfl)
   rw [eval_tmp] at e59
   have e61 : a.eval (.tmp 61) = .int .i64 l.length:=hd 8 (by kernel_rfl)
   rw [eval_tmp] at e61
   have e63 : a.eval (.tmp 63) = .int .i64 pt:=hd 10 (by kernel_rfl)
   rw [eval_tmp] at e63
   have e65 : a.eval (.tmp 65) = .slice ra m.run.length rc:=hd 12 (by kernel_rfl)
   rw [eval_tmp] at e65
   clear bMc2 bMc3 bPc1 bPc2 r0 r1
   clear hd ho
   replace hKq:=Lib.hid hKq
   go_simp
   refine (ref33_Write (num:=sn) (a:=po) (n:=(l.length : Int)) pt (hKc.out.ext hF) (hRc.out.ext hF)).mono ?_
   rintro e wz ⟨v1,vs1,rfl,hO1,hZ⟩
   rw [hdh.out] at hO1 ⊢
   dsimp only at hO1 ⊢
   obtain ⟨a1,c1,rfl,-⟩:=hO1.outer.sl.slice_form
   go_simp
   exact hKq.out _ _ ⟨_,_,_,rfl,OwnS.mono hO1 hF.size⟩ (BxX.of_ext hZ)
  ·intro a w hE hd ho
   refine .inl ⟨rfl,?_⟩
   intro Kq hKq
   have hF : Ext w5 w:=Ext.trans ((Ext.refl _).drew) (BxX.to_ext hE (Nat.le_refl _))
   obtain ⟨xa66,xc66,xu66,e66,g66⟩ : ∃ a' c' us,a.eval (.tmp 66) = .tuple #[.agg #[.int .i64 xn,.slice a' xcs.length c'],.int .u8 why,.int .i64 e4]∧OwnS w w5.drew.heap.size (.slice a' xcs.length c') us xcs:=hd 13 (by kernel_rfl)
   rw [eval_tmp] at e66
   clear bMc2 bMc3 bPc1 bPc2 r0 r1
   clear hd ho
   replace hKq:=Lib.hid hKq
   go_simp
   exact hKq.out _ _ ⟨_,_,_,rfl,g66⟩ (BxX.refl _)
  ·intro a w hE hd ho
   refine .inl ⟨rfl,?_⟩
   intro Kq hKq
   have hF : Ext w5 w:=Ext.trans ((Ext.refl _).drew) (BxX.to_ext hE (Nat.le_refl _))
   obtain ⟨xa52,xc52,xu52,e52,g52⟩ : ∃ a' c' us,a.eval (.tmp 52) = .tuple #[.agg #[.int .i64 xn,.slice a' xcs.length c'],.int .u8 why,.int .i64 e4]∧OwnS w w5.drew.heap.size (.slice a' xcs.length c') us xcs:=hd 14 (by kernel_rfl)
   rw [eval_tmp] at e52
   clear bMc2 bMc3 bPc1 bPc2 r0 r1
   clear hd ho
   replace hKq:=Lib.hid hKq
   go_simp
   exact hKq.out _ _ ⟨_,_,_,rfl,g52⟩ (BxX.refl _)
  ·intro a w hE hd ho
   refine .inl ⟨rfl,?_⟩
   intro Kq hKq
   have hF : Ext w5 w:=Ext.trans ((Ext.refl _).drew) (BxX.to_ext hE (Nat.le_refl _))
   obtain ⟨xa52,xc52,xu52,e52,g52⟩ : ∃ a' c' us,a.eval (.tmp 52) = .tuple #[.agg #[.int .i64 xn,.slice a' xcs.length c'],.int .u8 why,.int .i64 e4]∧OwnS w w5.drew.heap.size (.slice a' xcs.length c') us xcs:=hd 14 (by kernel_rfl)
   rw [eval_tmp] at e52
   clear bMc2 bMc3 bPc1 bPc2 r0 r1
   clear hd ho
   replace hKq:=Lib.hid hKq
   go_simp
   exact hKq.out _ _ rfl (BxX.refl _)
  ·intro a w hE hd ho
   refine .inl ⟨rfl,?_⟩
   intro Kq hKq
   have hF : Ext w5 w:=Ext.trans ((Ext.refl _).drew) (BxX.to_ext hE (Nat.le_refl _))
   obtain ⟨xa52,xc52,xu52,e52,g52⟩ : ∃ a' c' us,a.eval (.tmp 52) = .tuple #[.agg #[.int .i64 xn,.slice a' xcs.length c'],.int .u8 why,.int .i64 e4]∧OwnS w w5.drew.heap.size (.slice a' xcs.length c') us xcs:=hd 14 (by kernel_rfl)
   rw [eval_tmp] at e52
   clear bMc2 bMc3 bPc1 bPc2 r0 r1
   clear hd ho
   replace hKq:=Lib.hid hKq
   go_simp
   exact hKq.out _ _ rfl (BxX.refl _)
  ·intro a w hE hd ho
   refine .inl ⟨rfl,?_⟩
   intro Kq hKq
   have hF : Ext w5 w:=Ext.trans ((Ext.refl _).drew) (BxX.to_ext hE (Nat.le_refl _))
   clear bMc2 bMc3 bPc1 bPc2 r0 r1
   clear hd ho
   replace hKq:=Lib.hid hKq
   go_simp
   exact hKq.out _ _ ⟨_,rfl,BxX.size hE,#[.int .i64 0,.slice none 0 0],rfl,Box.new _ _ _⟩ (BxX.of_ext ((Ext.refl _).alloc _))
  ·intro a w hE hd ho
   refine .inl ⟨rfl,?_⟩
   intro Kq hKq
   have hF : Ext w5 w:=Ext.trans ((Ext.refl _).drew) (BxX.to_ext hE (Nat.le_refl _))
   obtain ⟨bq,eq,hNb,vs0,hv0,hbx⟩ : ∃ b,a.eval (.tmp 16) = .pointer (some ⟨b,0,none⟩)∧w5.drew.heap.size≤b∧BoxT 68 2 w b:=hd 18 (by kernel_rfl)
   rw [eval_tmp] at eq
   have hBT : BoxT 68 2 w bq:=⟨vs0,hv0,hbx⟩
   obtain ⟨u0,u1,rfl⟩ : ∃ u0 u1,vs0=#[u0,u1]:=by match vs0,hv0 with | ⟨[u0,u1]⟩,_=>exact ⟨u0,u1,rfl⟩
   have bc0 : World.cell? w ⟨bq,0,none⟩=some u0:=hbx.cell 0
   have bf0:=hbx.frozen 0
   have bc1 : World.cell? w ⟨bq,1,none⟩=some u1:=hbx.cell 1
   have bf1:=hbx.frozen 1
   have hbl:=hbx.lt
   replace hBT:=Lib.hid hBT
   obtain ⟨xa67,xc67,xu67,e67,g67⟩ : ∃ a' c' us,a.eval (.tmp 67) = .agg #[.int .i64 xn,.slice a' xcs.length c']∧OwnS w w5.drew.heap.size (.slice a' xcs.length c') us xcs:=hd 15 (by kernel_rfl)
   rw [eval_tmp] at e67
   clear bMc2 bMc3 bPc1 bPc2 r0 r1
   have eq0:=Lib.hid ((eval_tmp a 16).trans eq)
   clear hd ho
   replace hKq:=Lib.hid hKq
   go_simp
   have hEb : ExtBut (· = bq) w (World.setCell (World.setCell w ⟨bq,0,none⟩ (.int .i64 xn)) ⟨bq,1,none⟩ (.slice xa67 xcs.length xc67)):=(ExtBut.setCell w ⟨bq,0,none⟩ (.int .i64 xn)).trans (ExtBut.setCell (World.setCell w ⟨bq,0,none⟩ (.int .i64 xn)) ⟨bq,1,none⟩ (.slice xa67 xcs.length xc67))
   have hBx : Box (World.setCell (World.setCell w ⟨bq,0,none⟩ (.int .i64 xn)) ⟨bq,1,none⟩ (.slice xa67 xcs.length xc67)) bq 68 #[.int .i64 xn,.slice xa67 xcs.length xc67]:=(hbx.set 0 _).set 1 _
   have hB0 : BxR w5.drew.heap.size 68 2 w (World.setCell w ⟨bq,0,none⟩ (.int .i64 xn)):=BxR.set hBT.out hNb 0 _
   have hB1 : BxR w5.drew.heap.size 68 2 w (World.setCell (World.setCell w ⟨bq,0,none⟩ (.int .i64 xn)) ⟨bq,1,none⟩ (.slice xa67 xcs.length xc67)):=hB0.trans (BxR.set (hB0.boxT hBT.out) hNb 1 _)
   have hOS:=g67.bxr hB1
   have hRR : (BxX w5.drew.heap.size 68 2 (X35 w5.drew.heap.size ⟨xn,xcs⟩)) w (World.setCell (World.setCell w ⟨bq,0,none⟩ (.int .i64 xn)) ⟨bq,1,none⟩ (.slice xa67 xcs.length xc67)):=BxX.but hEb hBT.out hNb rfl hBx ⟨_,_,_,rfl,hOS⟩
   exact hKq.out undef (World.setCell (World.setCell w ⟨bq,0,none⟩ (.int .i64 xn)) ⟨bq,1,none⟩ (.slice xa67 xcs.length xc67)) ⟨bq,_,_,_,eq0.out,hNb,hBx,hOS⟩ hRR
  ·intro a w hE hd ho
   refine .inl ⟨rfl,?_⟩
   intro Kq hKq
   have hF : Ext w5 w:=Ext.trans ((Ext.refl _).drew) (BxX.to_ext hE (Nat.le_refl _))
   have e68 : a.eval (.tmp 68) = .int .u8 why:=hd 16 (by kernel_rfl)
   rw [eval_tmp] at e68
   clear bMc2 bMc3 bPc1 bPc2 r0 r1
   clear hd ho
   replace hKq:=Lib.hid hKq
   go_simp
   exact hKq.out _ _ rfl (BxX.refl _)
  ·intro a w hE hd ho
   refine .inl ⟨rfl,?_⟩
   intro Kq hKq
   have hF : Ext w5 w:=Ext.trans ((Ext.refl _).drew) (BxX.to_ext hE (Nat.le_refl _))
   have e69 : a.eval (.tmp 69) = .int .i64 e4:=hd 17 (by kernel_rfl)
   rw [eval_tmp] at e69
   clear bMc2 bMc3 bPc1 bPc2 r0 r1
   clear hd ho
   replace hKq:=Lib.hid hKq
   go_simp
   exact hKq.out _ _ rfl (BxX.refl _)
 ·intro vals Ac wq hAc hE hv hsv
  have hF : Ext w5 wq:=Ext.trans ((Ext.refl _).drew) (BxX.to_ext hE (Nat.le_refl _))
  obtain ⟨BX,xa,xc,xu,eb,hNb,bX,hOx⟩ : ∃ b a c us,vals 19 = .pointer (some ⟨b,0,none⟩)∧w5.drew.heap.size≤b∧Box wq b 68 #[.int .i64 xn,.slice a xcs.length c]∧OwnS wq w5.drew.heap.size (.slice a xcs.length c) us xcs:=hv 19 (by decide)
  have e1 : vals 18 = .pointer (some ⟨BX,0,none⟩):=((hsv 18).trans (hsv 19).symm).trans eb
  have e2 : vals 20 = .int .u8 why:=hv 20 (by decide)
  have e3 : vals 21 = .int .i64 e4:=hv 21 (by decide)
  clear hv hsv hE eb bMc2 bMc3 bPc1 bPc2 r0 r1
  subst hAc
  simp only [putAll]
  go_simp
  try rw [e1,e2,e3]
  clear e1 e2 e3
  have szbX:=Lib.hid (by have h3 : w5.heap.size≤BX:=hNb;have h4:=bR.lt;omega : wS.heap.size+3≤BX)
  have hXs0:=Lib.hid (by have h4:=bR.lt;omega : wS.heap.size+3≤w5.heap.size)
  replace bM:=bM.ext hF
  replace bP:=bP.ext hF
  replace bR:=bR.ext hF
  replace bY:=bY.ext hF
  replace hXa:=Lib.hid (ExtBut.trans hXa.out (ExtBut.of_ext hF))
  have hF6:=Ext.trans hF5 hF
  have hxf:=Lib.hid ((OwnS.fs hOx).mono (S':=fun b=>wS.heap.size+3≤b∧b < wq.heap.size) (fun b h1 hl=>⟨by have h2 : w5.heap.size≤b:=h1;have h3:=hXs0.out;omega,hl⟩))
  clear hNb hOx hKc hRc
  have hXx:=Lib.hid (ExtBut.refl (fun b=>wS.heap.size≤b∧b < wS.heap.size+3) wq)
  have hXl:=Lib.hid bX.lt
  by_cases hw : why=0
  rotate_left
  ·skip
   have q4 : (why != 0)=true:=by simpa using hw
   have hres1:=hres.out;rw [if_neg hw] at hres1;replace hres1:=Lib.hid hres1
   clear hw
   obtain ⟨bM_0,bM_1,bM_2,bM_3,bM_4,bM_5,bM_l⟩:=bM.c6
   have bR_0 : World.cell? wq ⟨wS.heap.size+2,0,none⟩=some (.slice none 0 0):=bR.cell 0
   have bR_1 : World.cell? wq ⟨wS.heap.size+2,1,none⟩=some (.int .i64 0):=bR.cell 1
   have bR_2 : World.cell? wq ⟨wS.heap.size+2,2,none⟩=some (.slice none 0 0):=bR.cell 2
   have bR_3 : World.cell? wq ⟨wS.heap.size+2,3,none⟩=some (.slice none 0 0):=bR.cell 3
   have bR_4 : World.cell? wq ⟨wS.heap.size+2,4,none⟩=some (.int .i64 0):=bR.cell 4
   have bR_5 : World.cell? wq ⟨wS.heap.size+2,5,none⟩=some (.int .i64 0):=bR.cell 5
   have bR_f0 : World.frozen? wq ⟨wS.heap.size+2,0,none⟩=false:=bR.frozen 0
   have bR_f1 : World.frozen? wq ⟨wS.heap.size+2,1,none⟩=false:=bR.frozen 1
   have bR_f2 : World.frozen? wq ⟨wS.heap.size+2,2,none⟩=false:=bR.frozen 2
   have bR_f3 : World.frozen? wq ⟨wS.heap.size+2,3,none⟩=false:=bR.frozen 3
   have bR_f4 : World.frozen? wq ⟨wS.heap.size+2,4,none⟩=false:=bR.frozen 4
   have bR_f5 : World.frozen? wq ⟨wS.heap.size+2,5,none⟩=false:=bR.frozen 5
   have bR_l:=bR.lt
   go_wp2
   rw [hres1.out]
   have hXe : ExtBut (fun b=>wS.heap.size≤b∧b < wS.heap.size+3) wq (World.setCell (World.setCell (World.setCell (World.setCell (World.setCell (World.setCell wq ⟨wS.heap.size+2,0,none⟩ (.slice none 0 0)) ⟨wS.heap.size+2,1,none⟩ (.int .i64 0)) ⟨wS.heap.size+2,2,none⟩ (.slice none 0 0)) ⟨wS.heap.size+2,3,none⟩ (.slice none 0 0)) ⟨wS.heap.size+2,4,none⟩ (.int .i64 0)) ⟨wS.heap.size+2,5,none⟩ (.int .i64 0)):=by (repeat' with_reducible first | exact ExtBut.refl _ _ | refine ExtBut.dr ?_ | refine ExtBut.sc ?_ ?_ | fail) <;> dsimp only <;> omega
   refine bodyPost_ret (v := .tuple #[.agg #[.slice none 0 0,.int .i64 0,.slice none 0 0,.slice none 0 0,.int .i64 0,.int .i64 0],.int .u8 why,.int .i64 0]) (by simp [results,Tryz.f12,go_sem,bR_0,bR_1,bR_2,bR_3,bR_4,bR_5]) rfl ?_
   have hFe:=ExtBut.ext hF6 hXe (fun b h=>h.1)
   have hXae:=ExtBut.trans hXa.out hXe
   have hXxe:=ExtBut.trans hXx.out hXe
   exact ⟨_,rfl,FrMon.zero _ _,hFe⟩
  subst hw
  have hres1:=hres.out;rw [if_pos rfl] at hres1;replace hres1:=Lib.hid hres1;clear hres
  obtain ⟨bM_0,bM_1,bM_2,bM_3,bM_4,bM_5,bM_l⟩:=bM.c6
  go_wp2_with fail
  clear bM_0 bM_1 bM_2 bM_3 bM_4 bM_5 bM_l
  have hXcs:=Lib.hid (by have:=bR.lt;omega : wS.heap.size+3≤wq.heap.size)
  have hXa_hXc:=Lib.hid hXa.out.size
  have hXx_hXc:=Lib.hid hXx.out.size
  refine (ref35_Twin (hA.out.ext hF6) (hK.out.ext hF6) (hR.out.ext hF6) hcl.out.1 hcl.out.2.1 hcl.out.2.2).mono ?_
  rintro e w7 ⟨TN,ca,ck,cr,vsA,vs,rfl,hC,hE7⟩
  replace bM:=bM.ext hE7
  replace bP:=bP.ext hE7
  replace bR:=bR.ext hE7
  replace bY:=bY.ext hE7
  replace bX:=bX.ext hE7
  replace hXa:=Lib.hid (ExtBut.trans hXa.out (ExtBut.of_ext hE7))
  replace hXx:=Lib.hid (ExtBut.trans hXx.out (ExtBut.of_ext hE7))
  have hF7:=Ext.trans hF6 hE7
  have hv:=(OM.read hC.al).form
  obtain ⟨ca,cac,rfl,-⟩:=hv
  have hv:=hC.stk.outer.sl.slice_form
  obtain ⟨ck,ckc,rfl,-⟩:=hv
  have hv:=hC.run.sl.slice_form
  obtain ⟨cr,crc,rfl,-⟩:=hv
  replace hC:=Lib.hid hC
  have hXc:=Lib.hid (ExtBut.refl (fun b=>wS.heap.size≤b∧b < wS.heap.size+3) w7)
  have hTl:=Lib.hid (hC.out.low.1);have hTs:=Lib.hid (hC.out.low.2)
  have ltX:=Lib.hid bX.lt;have ltY:=Lib.hid bY.lt
  obtain ⟨bM_0,bM_1,bM_2,bM_3,bM_4,bM_5,bM_l⟩:=bM.c6
  obtain ⟨bY_0,bY_1,bY_l⟩:=bY.c2
  go_upto_region 12 with fail
  clear bM_0 bM_1 bM_2 bM_3 bM_4 bM_5 bM_l bY_0 bY_1 bY_l
  have szbO:=Lib.hid (by have:=bR.lt;omega : wS.heap.size+3≤w7.heap.size)
  have bO:=Box.new w7 28 #[.slice ca m.mem.al.length cac,.int .i64 m.mem.next,.slice ck m.stks.length ckc,.slice cr m.run.length crc,.int .i64 m.tag,.int .i64 m.call]
  have hzb0 : (World.alloc w7 (.cells #[.slice ca m.mem.al.length cac,.int .i64 m.mem.next,.slice ck m.stks.length ckc,.slice cr m.run.length crc,.int .i64 m.tag,.int .i64 m.call] 28)).heap.size=w7.heap.size+1:=by rw [World.size_alloc]
  have hx8 : Ext w7 (World.alloc w7 (.cells #[.slice ca m.mem.al.length cac,.int .i64 m.mem.next,.slice ck m.stks.length ckc,.slice cr m.run.length crc,.int .i64 m.tag,.int .i64 m.call] 28)):=(Ext.refl _).alloc _
  obtain ⟨w8b,hw8⟩ : ∃ z,World.alloc w7 (.cells #[.slice ca m.mem.al.length cac,.int .i64 m.mem.next,.slice ck m.stks.length ckc,.slice cr m.run.length crc,.int .i64 m.tag,.int .i64 m.call] 28)=z:=⟨_,rfl⟩
  rw [hw8] at bO hx8 hzb0 ⊢
  clear hw8
  replace bM:=bM.ext hx8
  replace bP:=bP.ext hx8
  replace bR:=bR.ext hx8
  replace bY:=bY.ext hx8
  replace bX:=bX.ext hx8
  replace hXa:=Lib.hid (ExtBut.trans hXa.out (ExtBut.of_ext hx8))
  replace hXx:=Lib.hid (ExtBut.trans hXx.out (ExtBut.of_ext hx8))
  replace hXc:=Lib.hid (ExtBut.trans hXc.out (ExtBut.of_ext hx8))
  have hF9:=Ext.trans hF7 hx8
  clear hzb0
  replace hXa:=Lib.hid (ExtBut.mono hXa.out (S':=(fun b=>(wS.heap.size≤b∧b < wS.heap.size+3)∨b=w7.heap.size)) (fun b _ h => .inl h))
  replace hXx:=Lib.hid (ExtBut.mono hXx.out (S':=(fun b=>(wS.heap.size≤b∧b < wS.heap.size+3)∨b=w7.heap.size)) (fun b _ h => .inl h))
  replace hXc:=Lib.hid (ExtBut.mono hXc.out (S':=(fun b=>(wS.heap.size≤b∧b < wS.heap.size+3)∨b=w7.heap.size)) (fun b _ h => .inl h))
  have hTl1:=hTl.out;have hTs1:=hTs.out
  obtain ⟨G,sv,e,hG1,hG2,hvs,-,c0,c1,hfr⟩:=OwnK.cell (hC.out.stk) hsth.out
  subst e
  have hhXc1:=hXcs.out;have hhXc2:=hXc.out.size
  have hGn : ¬ ((fun b=>(wS.heap.size≤b∧b < wS.heap.size+3)∨b=w7.heap.size)) G:=by intro h;rcases h with h | h <;> omega
  have d0:=hXc.out.cell c0 hGn
  have d1:=hXc.out.cell c1 hGn
  have hOo:=ExtBut.own (hC.out.stk).outer hXc.out (fun g e=>by have e' : some G=some g:=e;cases e';exact hGn)
  have hfr0:=hOo.frozen (i * 2);have hfr1:=hOo.frozen (i * 2+1)
  have hXlo:=hXl.out;have hXxt:=hXx_hXc.out
  have hGX : G≠BX:=by omega
  have hGW : G < w8b.heap.size:=by omega
  clear hOo;replace hvs:=Lib.hid hvs;replace hGn:=Lib.hid hGn
  clear c0 c1 hfr hhXc2
  have n0a : BX≠w7.heap.size:=by have:=ltX.out;omega
  have n0b : w7.heap.size≠BX:=by have:=ltX.out;omega
  have n1a : G≠w7.heap.size:=by have:=hG2;omega
  have n1b : w7.heap.size≠G:=by have:=hG2;omega
  have n2a : w2.heap.size≠w7.heap.size:=by have:=ltY.out;omega
  have n2b : w7.heap.size≠w2.heap.size:=by have:=ltY.out;omega
  obtain ⟨bY_0,bY_1,bY_l⟩:=bY.c2
  obtain ⟨bX_0,bX_1,bX_l⟩:=bX.c2
  have bO_0 : World.cell? w8b ⟨w7.heap.size,0,none⟩=some (.slice ca m.mem.al.length cac):=bO.cell 0
  have bO_1 : World.cell? w8b ⟨w7.heap.size,1,none⟩=some (.int .i64 m.mem.next):=bO.cell 1
  have bO_2 : World.cell? w8b ⟨w7.heap.size,2,none⟩=some (.slice (some ⟨G,0,none⟩) m.stks.length ckc):=bO.cell 2
  have bO_3 : World.cell? w8b ⟨w7.heap.size,3,none⟩=some (.slice cr m.run.length crc):=bO.cell 3
  have bO_4 : World.cell? w8b ⟨w7.heap.size,4,none⟩=some (.int .i64 m.tag):=bO.cell 4
  have bO_5 : World.cell? w8b ⟨w7.heap.size,5,none⟩=some (.int .i64 m.call):=bO.cell 5
  have bO_f0 : World.frozen? w8b ⟨w7.heap.size,0,none⟩=false:=bO.frozen 0
  have bO_f1 : World.frozen? w8b ⟨w7.heap.size,1,none⟩=false:=bO.frozen 1
  have bO_f2 : World.frozen? w8b ⟨w7.heap.size,2,none⟩=false:=bO.frozen 2
  have bO_f3 : World.frozen? w8b ⟨w7.heap.size,3,none⟩=false:=bO.frozen 3
  have bO_f4 : World.frozen? w8b ⟨w7.heap.size,4,none⟩=false:=bO.frozen 4
  have bO_f5 : World.frozen? w8b ⟨w7.heap.size,5,none⟩=false:=bO.frozen 5
  have bO_l:=bO.lt
  go_region
  clear bY_0 bY_1 bY_l bX_0 bX_1 bX_l bO_0 bO_1 bO_2 bO_3 bO_4 bO_5 bO_f0 bO_f1 bO_f2 bO_f3 bO_f4 bO_f5 bO_l
  have hS10 : ExtBut (fun b=>(wS.heap.size≤b∧b < wS.heap.size+3)∨b=w7.heap.size) w8b (World.setCell (World.setCell w8b ⟨w7.heap.size,0,none⟩ (.slice ya y.al.length yc)) ⟨w7.heap.size,1,none⟩ (.int .i64 y.next)):=by (repeat' with_reducible first | exact ExtBut.refl _ _ | refine ExtBut.dr ?_ | refine ExtBut.sc ?_ ?_ | fail) <;> dsimp only <;> omega
  replace bM:=(Box.other (Box.other bM (p:=⟨w7.heap.size,0,none⟩) (by have:=szbO.out;show w7.heap.size≠wS.heap.size;omega) (.slice ya y.al.length yc)) (p:=⟨w7.heap.size,1,none⟩) (by have:=szbO.out;show w7.heap.size≠wS.heap.size;omega) (.int .i64 y.next))
  replace bP:=(Box.other (Box.other bP (p:=⟨w7.heap.size,0,none⟩) (by have:=szbO.out;show w7.heap.size≠wS.heap.size+1;omega) (.slice ya y.al.length yc)) (p:=⟨w7.heap.size,1,none⟩) (by have:=szbO.out;show w7.heap.size≠wS.heap.size+1;omega) (.int .i64 y.next))
  replace bR:=(Box.other (Box.other bR (p:=⟨w7.heap.size,0,none⟩) (by have:=szbO.out;show w7.heap.size≠wS.heap.size+2;omega) (.slice ya y.al.length yc)) (p:=⟨w7.heap.size,1,none⟩) (by have:=szbO.out;show w7.heap.size≠wS.heap.size+2;omega) (.int .i64 y.next))
  replace bY:=(Box.other (Box.other bY (p:=⟨w7.heap.size,0,none⟩) (by have:=szbO.out;show w7.heap.size≠w2.heap.size;omega) (.slice ya y.al.length yc)) (p:=⟨w7.heap.size,1,none⟩) (by have:=szbO.out;show w7.heap.size≠w2.heap.size;omega) (.int .i64 y.next))
  replace bX:=(Box.other (Box.other bX (p:=⟨w7.heap.size,0,none⟩) (by have:=szbO.out;show w7.heap.size≠BX;omega) (.slice ya y.al.length yc)) (p:=⟨w7.heap.size,1,none⟩) (by have:=szbO.out;show w7.heap.size≠BX;omega) (.int .i64 y.next))
  replace bO:=(Box.setL (Box.setL bO 0 (.slice ya y.al.length yc)) 1 (.int .i64 y.next))
  simp only [List.set_cons_zero,List.set_cons_succ] at bO
  obtain ⟨w10s,hw10⟩ : ∃ z,(World.setCell (World.setCell w8b ⟨w7.heap.size,0,none⟩ (.slice ya y.al.length yc)) ⟨w7.heap.size,1,none⟩ (.int .i64 y.next))=z:=⟨_,rfl⟩
  rw [hw10] at hS10 bM bP bR bY bX bO ⊢
  clear hw10
  have hF10:=ExtBut.ext hF9 hS10 (fun b h=>by have h0:=szbO.out;rcases h with h | h <;> omega)
  replace hXa:=Lib.hid (ExtBut.trans hXa.out hS10)
  replace hXx:=Lib.hid (ExtBut.trans hXx.out hS10)
  replace hXc:=Lib.hid (ExtBut.trans hXc.out hS10)
  clear hS10
  have hXg : ExtBut (fun b=>b=G) w10s (World.drew (World.setCell (World.setCell w10s ⟨G,i * 2,none⟩ (.int .i64 xn)) ⟨G,i * 2+1,none⟩ (.slice xa xcs.length xc))):=by repeat' first | exact ExtBut.refl _ _ | refine ExtBut.sc ?_ rfl | refine ExtBut.dr ?_
  have hTl1:=hTl.out;have hTs1:=hTs.out;have hXcs1:=hXcs.out
  have hOo:=ExtBut.own hC.out.stk.outer hXc.out (fun g e=>by have e' : some G=some g:=e;cases e';exact hGn.out)
  have hOg:=(hOo.set (i * 2) (.int .i64 xn)).set (i * 2+1) (.slice xa xcs.length xc)
  have hXT:=(hXc.out.mono (S':=fun b=>b < wS.heap.size+3∨b=w7.heap.size∨b=G) (fun b _ h=>by rcases h with h | h;exact .inl h.2;exact .inr (.inl h))).trans (hXg.mono (fun b _ h => .inr (.inr h)))
  have hXX:=(hXx.out.mono (S':=fun b=>b < wS.heap.size+3∨b=w7.heap.size∨b=G) (fun b _ h=>by rcases h with h | h;exact .inl h.2;exact .inr (.inl h))).trans (hXg.mono (fun b _ h => .inr (.inr h)))
  have hxW:=hxf.out.to (S':=(fun b=>wS.heap.size+3≤b∧b≠w7.heap.size)) hXX (fun b h1 hl h2=>by have:=h1.1;have:=h1.2;rcases h2 with h2 | h2 | h2 <;> omega) (fun b h1 hl=>⟨h1.1,by have:=h1.2;omega⟩)
  have hKf:=OwnK.setS (y:=⟨xn,xcs⟩) hC.out.stk hi2 hXT (fun b h1 h2 _=>⟨fun h=>by rcases h with h | h | h <;> omega,by omega,by omega⟩) ⟨by omega,by omega⟩ hOg hxW
  have hRf:=hC.out.runF.to (S':=(fun b=>wS.heap.size+3≤b∧b≠w7.heap.size)) hXT (fun b h1 hl h2=>by have h3:=hC.out.loR b h1;have h4:=(hC.out.run.lt h1).1;rcases h2 with h2 | h2 | h2 <;> omega) (fun b h1 hl=>⟨by have h4:=(hC.out.run.lt h1).1;omega,by omega⟩)
  have hX9:=(hXa.out.mono (S':=fun b=>b < wS.heap.size+3∨b=w7.heap.size∨b=G) (fun b _ h=>by rcases h with h | h;exact .inl h.2;exact .inr (.inl h))).trans (hXg.mono (fun b _ h => .inr (.inr h)))
  have hs9:=hXa_hXc.out
  have hAf:=hy.out.to (S':=(fun b=>wS.heap.size+3≤b∧b≠w7.heap.size)) hX9 (fun b h1 hl h2=>by rcases h2 with h2 | h2 | h2 <;> omega) (fun b h1 hl=>⟨h1,by omega⟩)
  clear hX9 hs9
  replace bM:=bM.but hXg (by omega);replace bP:=bP.but hXg (by omega);replace bR:=bR.but hXg (by omega);replace bO:=bO.but hXg (by omega)
  have hFg:=ExtBut.ext hF10 hXg (fun b h=>by have h' : b=G:=h;omega)
  replace hKf:=Lib.hid hKf
  replace hRf:=Lib.hid hRf
  replace hAf:=Lib.hid hAf
  obtain ⟨wE,hwE⟩ : ∃ z,(World.drew (World.setCell (World.setCell w10s ⟨G,i * 2,none⟩ (.int .i64 xn)) ⟨G,i * 2+1,none⟩ (.slice xa xcs.length xc)))=z:=⟨_,rfl⟩
  rw [hwE] at hKf hRf hAf bM bP bR bO hFg ⊢
  clear hwE hXg hOg hXT hXX hxW hXc hXx hOo hGn d0 d1 hfr0 hfr1 hGW
  have hXz:=Lib.hid (ExtBut.refl (fun b=>(wS.heap.size≤b∧b < wS.heap.size+3)∨b=w7.heap.size) wE)
  have bR_0 : World.cell? wE ⟨wS.heap.size+2,0,none⟩=some (.slice none 0 0):=bR.cell 0
  have bR_1 : World.cell? wE ⟨wS.heap.size+2,1,none⟩=some (.int .i64 0):=bR.cell 1
  have bR_2 : World.cell? wE ⟨wS.heap.size+2,2,none⟩=some (.slice none 0 0):=bR.cell 2
  have bR_3 : World.cell? wE ⟨wS.heap.size+2,3,none⟩=some (.slice none 0 0):=bR.cell 3
  have bR_4 : World.cell? wE ⟨wS.heap.size+2,4,none⟩=some (.int .i64 0):=bR.cell 4
  have bR_5 : World.cell? wE ⟨wS.heap.size+2,5,none⟩=some (.int .i64 0):=bR.cell 5
  have bR_f0 : World.frozen? wE ⟨wS.heap.size+2,0,none⟩=false:=bR.frozen 0
  have bR_f1 : World.frozen? wE ⟨wS.heap.size+2,1,none⟩=false:=bR.frozen 1
  have bR_f2 : World.frozen? wE ⟨wS.heap.size+2,2,none⟩=false:=bR.frozen 2
  have bR_f3 : World.frozen? wE ⟨wS.heap.size+2,3,none⟩=false:=bR.frozen 3
  have bR_f4 : World.frozen? wE ⟨wS.heap.size+2,4,none⟩=false:=bR.frozen 4
  have bR_f5 : World.frozen? wE ⟨wS.heap.size+2,5,none⟩=false:=bR.frozen 5
  have bR_l:=bR.lt
  obtain ⟨bO_0,bO_1,bO_2,bO_3,bO_4,bO_5,bO_l⟩:=bO.c6
  go_wp2
  rw [hres1.out]
  have hXe : ExtBut (fun b=>(wS.heap.size≤b∧b < wS.heap.size+3)∨b=w7.heap.size) wE (World.setCell (World.setCell (World.setCell (World.setCell (World.setCell (World.setCell wE ⟨wS.heap.size+2,0,none⟩ (.slice ya y.al.length yc)) ⟨wS.heap.size+2,1,none⟩ (.int .i64 y.next)) ⟨wS.heap.size+2,2,none⟩ (.slice (some ⟨G,0,none⟩) m.stks.length ckc)) ⟨wS.heap.size+2,3,none⟩ (.slice cr m.run.length crc)) ⟨wS.heap.size+2,4,none⟩ (.int .i64 m.tag)) ⟨wS.heap.size+2,5,none⟩ (.int .i64 m.call)):=by (repeat' with_reducible first | exact ExtBut.refl _ _ | refine ExtBut.dr ?_ | refine ExtBut.sc ?_ ?_ | fail) <;> dsimp only <;> omega
  refine bodyPost_ret (v := .tuple #[.agg #[.slice ya y.al.length yc,.int .i64 y.next,.slice (some ⟨G,0,none⟩) m.stks.length ckc,.slice cr m.run.length crc,.int .i64 m.tag,.int .i64 m.call],.int .u8 0,.int .i64 0]) (by simp [results,Tryz.f12,go_sem,bR_0,bR_1,bR_2,bR_3,bR_4,bR_5]) rfl ?_
  have hFe:=ExtBut.ext hFg hXe (fun b h=>by have h0:=szbO.out;rcases h with h | h <;> omega)
  have hXze:=ExtBut.trans hXz.out hXe
  have hKt:=(hKf.out.to (S':=fun b=>wS.heap.size≤b) hXze (fun b h1 _ h2=>by rcases h2 with h2 | h2 <;> omega) (fun b h1 _=>by omega))
  exact ⟨_,rfl,FrMon.of_fs (m:=⟨y,m.stks.set i ⟨xn,xcs⟩,m.run,m.tag,m.call⟩) (hAf.out.to (S':=fun b=>wS.heap.size≤b) hXze (fun b h1 _ h2=>by rcases h2 with h2 | h2 <;> omega) (fun b h1 _=>by omega)) hKt (hRf.out.to (S':=fun b=>wS.heap.size≤b) hXze (fun b h1 _ h2=>by rcases h2 with h2 | h2 <;> omega) (fun b h1 _=>by omega)),hFe⟩
end Go.Proofs.YtnplphcnagooeaaGreatDoor
