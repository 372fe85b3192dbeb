/- Several texts in one: RfK. -/
import Derived.Test.YtnplphcnagooeaaGreatDoorQ20
import Derived.Deep.DeepCutAuto
/- Contracts: the reference's Retag of layer 35. (printed by gen/ref35k.py) -/
namespace Go.Proofs.YtnplphcnagooeaaGreatDoor
set_option maxRecDepth 100000
open Go.RowKit
set_option maxRecDepth 100000 in
set_option maxHeartbeats 6400000 in
theorem ref35_Retag {m : Mon} {sa ss sr : Value} {wS : World} (pa po pt n : Int) {kind : Int} (call : Int) (hkb : u8B kind) (hA : Als wS sa m.mem.al) (hn : i64B m.mem.next) (hK : Kts wS ss m.stks) (hR : Nts wS sr m.run) :
  Calls Tryz.prog 14 #[.agg #[sa,.int .i64 m.mem.next,ss,sr,.int .i64 m.tag,.int .i64 m.call],.agg #[.int .i64 pa,.int .i64 po,.int .i64 pt],.int .i64 n,.int .u8 kind,.int .i64 call] wS (RetF wS (fun v => .tuple #[v,(retagM m ⟨pa,po,pt⟩ n kind call).2.1.val,.int .u8 (retagM m ⟨pa,po,pt⟩ n kind call).2.2.1,.int .i64 (retagM m ⟨pa,po,pt⟩ n kind call).2.2.2]) (retagM m ⟨pa,po,pt⟩ n kind call).1):=by
 replace hkb:=Lib.hid hkb
 obtain ⟨aa,ac,rfl,hac,hacm,-⟩:=hA.form
 obtain ⟨ka,kc,rfl,hkc,hkcm,-⟩:=hK.form
 obtain ⟨ra,rc,rfl,hrc,hrcm,-⟩:=hR.form
 unfold maxLen at hacm hkcm hrcm
 have hE0 : Ext wS (World.alloc (World.alloc (World.alloc (World.alloc wS (.cells #[.slice aa m.mem.al.length ac,.int .i64 m.mem.next,.slice ka m.stks.length kc,.slice ra m.run.length rc,.int .i64 m.tag,.int .i64 m.call] 28)) (.cells #[.int .i64 pa,.int .i64 po,.int .i64 pt] 30)) (.cells #[.slice none 0 0,.int .i64 0,.slice none 0 0,.slice none 0 0,.int .i64 0,.int .i64 0] 28)) (.cells #[.int .i64 0,.int .i64 0,.int .i64 0] 30)):=by repeat (first | exact Ext.refl _ | refine Ext.alloc ?_ _)
 have bM : Box (World.alloc (World.alloc (World.alloc (World.alloc wS (.cells #[.slice aa m.mem.al.length ac,.int .i64 m.mem.next,.slice ka m.stks.length kc,.slice ra m.run.length rc,.int .i64 m.tag,.int .i64 m.call] 28)) (.cells #[.int .i64 pa,.int .i64 po,.int .i64 pt] 30)) (.cells #[.slice none 0 0,.int .i64 0,.slice none 0 0,.slice none 0 0,.int .i64 0,.int .i64 0] 28)) (.cells #[.int .i64 0,.int .i64 0,.int .i64 0] 30)) (wS.heap.size) 28 #[.slice aa m.mem.al.length ac,.int .i64 m.mem.next,.slice ka m.stks.length kc,.slice ra m.run.length rc,.int .i64 m.tag,.int .i64 m.call]:=(by
  have h:=Box.new wS 28 #[.slice aa m.mem.al.length ac,.int .i64 m.mem.next,.slice ka m.stks.length kc,.slice ra m.run.length rc,.int .i64 m.tag,.int .i64 m.call]
  replace h:=Box.ext h ((Ext.refl _).alloc (.cells #[.int .i64 pa,.int .i64 po,.int .i64 pt] 30))
  replace h:=Box.ext h ((Ext.refl _).alloc (.cells #[.slice none 0 0,.int .i64 0,.slice none 0 0,.slice none 0 0,.int .i64 0,.int .i64 0] 28))
  replace h:=Box.ext h ((Ext.refl _).alloc (.cells #[.int .i64 0,.int .i64 0,.int .i64 0] 30))
  exact h)
 have bP : Box (World.alloc (World.alloc (World.alloc (World.alloc wS (.cells #[.slice aa m.mem.al.length ac,.int .i64 m.mem.next,.slice ka m.stks.length kc,.slice ra m.run.length rc,.int .i64 m.tag,.int .i64 m.call] 28)) (.cells #[.int .i64 pa,.int .i64 po,.int .i64 pt] 30)) (.cells #[.slice none 0 0,.int .i64 0,.slice none 0 0,.slice none 0 0,.int .i64 0,.int .i64 0] 28)) (.cells #[.int .i64 0,.int .i64 0,.int .i64 0] 30)) (wS.heap.size+1) 30 #[.int .i64 pa,.int .i64 po,.int .i64 pt]:=(by
  have h:=Box.new (World.alloc wS (.cells #[.slice aa m.mem.al.length ac,.int .i64 m.mem.next,.slice ka m.stks.length kc,.slice ra m.run.length rc,.int .i64 m.tag,.int .i64 m.call] 28)) 30 #[.int .i64 pa,.int .i64 po,.int .i64 pt]
  simp only [World.size_alloc] at h
  replace h:=Box.ext h ((Ext.refl _).alloc (.cells #[.slice none 0 0,.int .i64 0,.slice none 0 0,.slice none 0 0,.int .i64 0,.int .i64 0] 28))
  replace h:=Box.ext h ((Ext.refl _).alloc (.cells #[.int .i64 0,.int .i64 0,.int .i64 0] 30))
  exact h)
 have bR : Box (World.alloc (World.alloc (World.alloc (World.alloc wS (.cells #[.slice aa m.mem.al.length ac,.int .i64 m.mem.next,.slice ka m.stks.length kc,.slice ra m.run.length rc,.int .i64 m.tag,.int .i64 m.call] 28)) (.cells #[.int .i64 pa,.int .i64 po,.int .i64 pt] 30)) (.cells #[.slice none 0 0,.int .i64 0,.slice none 0 0,.slice none 0 0,.int .i64 0,.int .i64 0] 28)) (.cells #[.int .i64 0,.int .i64 0,.int .i64 0] 30)) (wS.heap.size+2) 28 #[.slice none 0 0,.int .i64 0,.slice none 0 0,.slice none 0 0,.int .i64 0,.int .i64 0]:=(by
  have h:=Box.new (World.alloc (World.alloc wS (.cells #[.slice aa m.mem.al.length ac,.int .i64 m.mem.next,.slice ka m.stks.length kc,.slice ra m.run.length rc,.int .i64 m.tag,.int .i64 m.call] 28)) (.cells #[.int .i64 pa,.int .i64 po,.int .i64 pt] 30)) 28 #[.slice none 0 0,.int .i64 0,.slice none 0 0,.slice none 0 0,.int .i64 0,.int .i64 0]
  simp only [World.size_alloc] at h
  replace h:=Box.ext h ((Ext.refl _).alloc (.cells #[.int .i64 0,.int .i64 0,.int .i64 0] 30))
  exact h)
 have bQ : Box (World.alloc (World.alloc (World.alloc (World.alloc wS (.cells #[.slice aa m.mem.al.length ac,.int .i64 m.mem.next,.slice ka m.stks.length kc,.slice ra m.run.length rc,.int .i64 m.tag,.int .i64 m.call] 28)) (.cells #[.int .i64 pa,.int .i64 po,.int .i64 pt] 30)) (.cells #[.slice none 0 0,.int .i64 0,.slice none 0 0,.slice none 0 0,.int .i64 0,.int .i64 0] 28)) (.cells #[.int .i64 0,.int .i64 0,.int .i64 0] 30)) (wS.heap.size+3) 30 #[.int .i64 0,.int .i64 0,.int .i64 0]:=(by
  have h:=Box.new (World.alloc (World.alloc (World.alloc wS (.cells #[.slice aa m.mem.al.length ac,.int .i64 m.mem.next,.slice ka m.stks.length kc,.slice ra m.run.length rc,.int .i64 m.tag,.int .i64 m.call] 28)) (.cells #[.int .i64 pa,.int .i64 po,.int .i64 pt] 30)) (.cells #[.slice none 0 0,.int .i64 0,.slice none 0 0,.slice none 0 0,.int .i64 0,.int .i64 0] 28)) 30 #[.int .i64 0,.int .i64 0,.int .i64 0]
  simp only [World.size_alloc] at h
  exact h)
 obtain ⟨w0,hw0⟩ : ∃ z,(World.alloc (World.alloc (World.alloc (World.alloc wS (.cells #[.slice aa m.mem.al.length ac,.int .i64 m.mem.next,.slice ka m.stks.length kc,.slice ra m.run.length rc,.int .i64 m.tag,.int .i64 m.call] 28)) (.cells #[.int .i64 pa,.int .i64 po,.int .i64 pt] 30)) (.cells #[.slice none 0 0,.int .i64 0,.slice none 0 0,.slice none 0 0,.int .i64 0,.int .i64 0] 28)) (.cells #[.int .i64 0,.int .i64 0,.int .i64 0] 30))=z:=⟨_,rfl⟩
 rw [hw0] at hE0 bM bP bR bQ
 have hs0 : w0.heap.size=wS.heap.size+4:=by rw [← hw0];simp
 replace hs0:=Lib.hid hs0
 replace hA:=Lib.hid hA
 replace hK:=Lib.hid hK
 replace hR:=Lib.hid hR
 replace hn:=Lib.hid hn
 go_enter Tryz.func14,Tryz.ntmps14
 obtain ⟨bM_0,bM_1,bM_2,bM_3,bM_4,bM_5,bM_l⟩:=bM.c6
 go_wp2_with fail
 clear bM_0 bM_1 bM_2 bM_3 bM_4 bM_5 bM_l
 refine (ref35_Check (hA.out.ext hE0) hn.out (hK.out.ext hE0) (hR.out.ext hE0)).mono ?_
 rintro e w1 ⟨rfl,hE1⟩
 replace bM:=bM.ext hE1
 replace bP:=bP.ext hE1
 replace bR:=bR.ext hE1
 replace bQ:=bQ.ext hE1
 have hF1:=Ext.trans hE0 hE1
 clear hw0
 cases hok : okMon m
 ·skip
  rw [monErr_not hok]
  have hres:=Lib.hid (retagM_bad (p:=⟨pa,po,pt⟩) (n:=n) (kind:=kind) (call:=call) hok)
  clear hok
  obtain ⟨bM_0,bM_1,bM_2,bM_3,bM_4,bM_5,bM_l⟩:=bM.c6
  have bR_0 : World.cell? w1 ⟨wS.heap.size+2,0,none⟩=some (.slice none 0 0):=bR.cell 0
  have bR_1 : World.cell? w1 ⟨wS.heap.size+2,1,none⟩=some (.int .i64 0):=bR.cell 1
  have bR_2 : World.cell? w1 ⟨wS.heap.size+2,2,none⟩=some (.slice none 0 0):=bR.cell 2
  have bR_3 : World.cell? w1 ⟨wS.heap.size+2,3,none⟩=some (.slice none 0 0):=bR.cell 3
  have bR_4 : World.cell? w1 ⟨wS.heap.size+2,4,none⟩=some (.int .i64 0):=bR.cell 4
  have bR_5 : World.cell? w1 ⟨wS.heap.size+2,5,none⟩=some (.int .i64 0):=bR.cell 5
  have bR_f0 : World.frozen? w1 ⟨wS.heap.size+2,0,none⟩=false:=bR.frozen 0
  have bR_f1 : World.frozen? w1 ⟨wS.heap.size+2,1,none⟩=false:=bR.frozen 1
  have bR_f2 : World.frozen? w1 ⟨wS.heap.size+2,2,none⟩=false:=bR.frozen 2
  have bR_f3 : World.frozen? w1 ⟨wS.heap.size+2,3,none⟩=false:=bR.frozen 3
  have bR_f4 : World.frozen? w1 ⟨wS.heap.size+2,4,none⟩=false:=bR.frozen 4
  have bR_f5 : World.frozen? w1 ⟨wS.heap.size+2,5,none⟩=false:=bR.frozen 5
  have bR_l:=bR.lt
  have bQ_0 : World.cell? w1 ⟨wS.heap.size+3,0,none⟩=some (.int .i64 0):=bQ.cell 0
  have bQ_1 : World.cell? w1 ⟨wS.heap.size+3,1,none⟩=some (.int .i64 0):=bQ.cell 1
  have bQ_2 : World.cell? w1 ⟨wS.heap.size+3,2,none⟩=some (.int .i64 0):=bQ.cell 2
  have bQ_f0 : World.frozen? w1 ⟨wS.heap.size+3,0,none⟩=false:=bQ.frozen 0
  have bQ_f1 : World.frozen? w1 ⟨wS.heap.size+3,1,none⟩=false:=bQ.frozen 1
  have bQ_f2 : World.frozen? w1 ⟨wS.heap.size+3,2,none⟩=false:=bQ.frozen 2
  have bQ_l:=bQ.lt
  go_wp2
  rw [hres.out]
  have hXe : ExtBut (fun b=>wS.heap.size≤b∧b < wS.heap.size+4) w1 (World.setCell (World.setCell (World.setCell (World.setCell (World.setCell (World.setCell (World.setCell (World.setCell (World.setCell w1 ⟨wS.heap.size+2,0,none⟩ (.slice none 0 0)) ⟨wS.heap.size+2,1,none⟩ (.int .i64 0)) ⟨wS.heap.size+2,2,none⟩ (.slice none 0 0)) ⟨wS.heap.size+2,3,none⟩ (.slice none 0 0)) ⟨wS.heap.size+2,4,none⟩ (.int .i64 0)) ⟨wS.heap.size+2,5,none⟩ (.int .i64 0)) ⟨wS.heap.size+3,0,none⟩ (.int .i64 0)) ⟨wS.heap.size+3,1,none⟩ (.int .i64 0)) ⟨wS.heap.size+3,2,none⟩ (.int .i64 0)):=by (repeat' with_reducible first | exact ExtBut.refl _ _ | refine ExtBut.dr ?_ | refine ExtBut.sc ?_ ?_ | fail) <;> dsimp only <;> omega
  refine bodyPost_ret (v := .tuple #[.agg #[.slice none 0 0,.int .i64 0,.slice none 0 0,.slice none 0 0,.int .i64 0,.int .i64 0],.agg #[.int .i64 0,.int .i64 0,.int .i64 0],.int .u8 0,.int .i64 8]) (by simp [results,Tryz.f14,go_sem,bR_0,bR_1,bR_2,bR_3,bR_4,bR_5,bQ_0,bQ_1,bQ_2]) rfl ?_
  have hFe:=ExtBut.ext hF1 hXe (fun b h=>h.1)
  exact ⟨_,rfl,FrMon.zero _ _,hFe⟩
 rw [monErr_of hok]
 have hMok:=MonOk.of hok;have hcl:=Lib.hid hMok.small;have htb:=Lib.hid hMok.tag
 obtain ⟨⟨ll,un,er⟩,hld⟩ : ∃ z,loadR m.mem ⟨pa,po,pt⟩ n=z:=⟨_,rfl⟩
 have hldh:=Lib.hid hld;have hokh:=Lib.hid hok;have hMokh:=Lib.hid hMok
 clear hok hMok hld
 go_upto_region 4 with fail
 obtain ⟨gd,hgd⟩ : ∃ b,(kindOk kind && (decide (call=0) || hasR m.run call))=b:=⟨_,rfl⟩
 have hgdh:=Lib.hid hgd
 go_cut [40] from 27 to 40 (fun s40 wx=>s40 = .bool (!gd)∧wx=w1)
 case first =>
  clear hgdh
  have m3 : World.cell? w1 ⟨wS.heap.size,3,none⟩=some (.slice ra m.run.length rc):=bM.cell 3
  have hl9:=bM.lt
  replace hgd:=Lib.hid hgd
  cases hk : kindOk kind
  ·skip
   have hke : kindErr kind=2:=by simp [kindErr,hk]
   go_wp2_with fail
   refine (ref30_Check w1 hkb.out).mono ?_
   rintro e wz ⟨rfl,rfl⟩
   rw [hke]
   go_wp2_with fail
   go_meet
   exact ⟨congrArg Value.bool (by rw [← hgd.out];simp [hk]),rfl⟩
  have hke : kindErr kind=0:=by simp [kindErr,hk]
  by_cases hc : call=0
  ·skip
   have q1 : (call != 0)=false:=by simpa using hc
   have hcz:=Lib.hid hc;clear hc
   go_wp2_with fail
   refine (ref30_Check w1 hkb.out).mono ?_
   rintro e wz ⟨rfl,rfl⟩
   rw [hke]
   go_wp2_with fail
   go_meet
   exact ⟨congrArg Value.bool (by rw [← hgd.out];simp [hk,hcz.out]),rfl⟩
  have q1 : (call != 0)=true:=by simpa using hc
  have hcz:=Lib.hid hc;clear hc
  go_wp2_with fail
  refine (ref30_Check w1 hkb.out).mono ?_
  rintro e wz ⟨rfl,rfl⟩
  rw [hke]
  go_wp2_with fail
  refine (ref31_Runs call (hR.out.ext hF1)).mono ?_
  rintro e wz ⟨rfl,rfl⟩
  cases hh : hasR m.run call
  ·skip
   go_wp2_with fail
   go_meet
   exact ⟨congrArg Value.bool (by rw [← hgd.out];simp [hk,hcz.out,hh]),rfl⟩
  ·skip
   go_wp2_with fail
   go_meet
   exact ⟨congrArg Value.bool (by rw [← hgd.out];simp [hk,hcz.out,hh]),rfl⟩
 case rest =>
  obtain ⟨rfl,hwc⟩:=hcut
  rw [hwc]
  clear hwc
  cases gd
  rotate_left
  rotate_left
  ·skip
   have hres:=Lib.hid (retagM_arg (p:=⟨pa,po,pt⟩) (n:=n) hokh.out (m:=m) (kind:=kind) (call:=call) (by intro h9;have h8:=hgdh.out;rcases h9.2 with h7 | h7 <;> simp [h9.1,h7] at h8))
   obtain ⟨bM_0,bM_1,bM_2,bM_3,bM_4,bM_5,bM_l⟩:=bM.c6
   have bR_0 : World.cell? w1 ⟨wS.heap.size+2,0,none⟩=some (.slice none 0 0):=bR.cell 0
   have bR_1 : World.cell? w1 ⟨wS.heap.size+2,1,none⟩=some (.int .i64 0):=bR.cell 1
   have bR_2 : World.cell? w1 ⟨wS.heap.size+2,2,none⟩=some (.slice none 0 0):=bR.cell 2
   have bR_3 : World.cell? w1 ⟨wS.heap.size+2,3,none⟩=some (.slice none 0 0):=bR.cell 3
   have bR_4 : World.cell? w1 ⟨wS.heap.size+2,4,none⟩=some (.int .i64 0):=bR.cell 4
   have bR_5 : World.cell? w1 ⟨wS.heap.size+2,5,none⟩=some (.int .i64 0):=bR.cell 5
   have bR_f0 : World.frozen? w1 ⟨wS.heap.size+2,0,none⟩=false:=bR.frozen 0
   have bR_f1 : World.frozen? w1 ⟨wS.heap.size+2,1,none⟩=false:=bR.frozen 1
   have bR_f2 : World.frozen? w1 ⟨wS.heap.size+2,2,none⟩=false:=bR.frozen 2
   have bR_f3 : World.frozen? w1 ⟨wS.heap.size+2,3,none⟩=false:=bR.frozen 3
   have bR_f4 : World.frozen? w1 ⟨wS.heap.size+2,4,none⟩=false:=bR.frozen 4
   have bR_f5 : World.frozen? w1 ⟨wS.heap.size+2,5,none⟩=false:=bR.frozen 5
   have bR_l:=bR.lt
   have bQ_0 : World.cell? w1 ⟨wS.heap.size+3,0,none⟩=some (.int .i64 0):=bQ.cell 0
   have bQ_1 : World.cell? w1 ⟨wS.heap.size+3,1,none⟩=some (.int .i64 0):=bQ.cell 1
   have bQ_2 : World.cell? w1 ⟨wS.heap.size+3,2,none⟩=some (.int .i64 0):=bQ.cell 2
   have bQ_f0 : World.frozen? w1 ⟨wS.heap.size+3,0,none⟩=false:=bQ.frozen 0
   have bQ_f1 : World.frozen? w1 ⟨wS.heap.size+3,1,none⟩=false:=bQ.frozen 1
   have bQ_f2 : World.frozen? w1 ⟨wS.heap.size+3,2,none⟩=false:=bQ.frozen 2
   have bQ_l:=bQ.lt
   go_wp2
   rw [hres.out]
   have hXe : ExtBut (fun b=>wS.heap.size≤b∧b < wS.heap.size+4) w1 (World.setCell (World.setCell (World.setCell (World.setCell (World.setCell (World.setCell (World.setCell (World.setCell (World.setCell w1 ⟨wS.heap.size+2,0,none⟩ (.slice none 0 0)) ⟨wS.heap.size+2,1,none⟩ (.int .i64 0)) ⟨wS.heap.size+2,2,none⟩ (.slice none 0 0)) ⟨wS.heap.size+2,3,none⟩ (.slice none 0 0)) ⟨wS.heap.size+2,4,none⟩ (.int .i64 0)) ⟨wS.heap.size+2,5,none⟩ (.int .i64 0)) ⟨wS.heap.size+3,0,none⟩ (.int .i64 0)) ⟨wS.heap.size+3,1,none⟩ (.int .i64 0)) ⟨wS.heap.size+3,2,none⟩ (.int .i64 0)):=by (repeat' with_reducible first | exact ExtBut.refl _ _ | refine ExtBut.dr ?_ | refine ExtBut.sc ?_ ?_ | fail) <;> dsimp only <;> omega
   refine bodyPost_ret (v := .tuple #[.agg #[.slice none 0 0,.int .i64 0,.slice none 0 0,.slice none 0 0,.int .i64 0,.int .i64 0],.agg #[.int .i64 0,.int .i64 0,.int .i64 0],.int .u8 0,.int .i64 2]) (by simp [results,Tryz.f14,go_sem,bR_0,bR_1,bR_2,bR_3,bR_4,bR_5,bQ_0,bQ_1,bQ_2]) rfl ?_
   have hFe:=ExtBut.ext hF1 hXe (fun b h=>h.1)
   exact ⟨_,rfl,FrMon.zero _ _,hFe⟩
  have hka : kindOk kind=true∧(call=0∨hasR m.run call=true):=by have h8:=hgdh.out;simpa using h8
  replace hka:=Lib.hid hka;clear hgdh hgd
  obtain ⟨bM_0,bM_1,bM_2,bM_3,bM_4,bM_5,bM_l⟩:=bM.c6
  obtain ⟨bP_0,bP_1,bP_2,bP_l⟩:=bP.c3
  go_wp2_with fail
  clear bM_0 bM_1 bM_2 bM_3 bM_4 bM_5 bM_l bP_0 bP_1 bP_2 bP_l
  refine (ref35_where (m:=m) ⟨pa,po,pt⟩ n (hA.out.ext hF1) hn.out (hK.out.ext hF1) (hR.out.ext hF1)).mono ?_
  rintro e w2 ⟨rfl,hE2⟩
  replace bM:=bM.ext hE2
  replace bP:=bP.ext hE2
  replace bR:=bR.ext hE2
  replace bQ:=bQ.ext hE2
  have hF2:=Ext.trans hF1 hE2
  rcases load_ways hldh.out with ⟨he,rfl,hwh⟩ | ⟨rfl,rfl,hwh⟩ | ⟨rfl,hun,i,al,hat,hal,-,hwh,-⟩
  ·skip
   rw [hwh];dsimp only
   have q1 : (er != 0)=true:=by simpa using he
   have hres:=Lib.hid (retagM_err (p:=⟨pa,po,pt⟩) hokh.out hka.out hldh.out he)
   clear he hwh
   obtain ⟨bM_0,bM_1,bM_2,bM_3,bM_4,bM_5,bM_l⟩:=bM.c6
   have bR_0 : World.cell? w2 ⟨wS.heap.size+2,0,none⟩=some (.slice none 0 0):=bR.cell 0
   have bR_1 : World.cell? w2 ⟨wS.heap.size+2,1,none⟩=some (.int .i64 0):=bR.cell 1
   have bR_2 : World.cell? w2 ⟨wS.heap.size+2,2,none⟩=some (.slice none 0 0):=bR.cell 2
   have bR_3 : World.cell? w2 ⟨wS.heap.size+2,3,none⟩=some (.slice none 0 0):=bR.cell 3
   have bR_4 : World.cell? w2 ⟨wS.heap.size+2,4,none⟩=some (.int .i64 0):=bR.cell 4
   have bR_5 : World.cell? w2 ⟨wS.heap.size+2,5,none⟩=some (.int .i64 0):=bR.cell 5
   have bR_f0 : World.frozen? w2 ⟨wS.heap.size+2,0,none⟩=false:=bR.frozen 0
   have bR_f1 : World.frozen? w2 ⟨wS.heap.size+2,1,none⟩=false:=bR.frozen 1
   have bR_f2 : World.frozen? w2 ⟨wS.heap.size+2,2,none⟩=false:=bR.frozen 2
   have bR_f3 : World.frozen? w2 ⟨wS.heap.size+2,3,none⟩=false:=bR.frozen 3
   have bR_f4 : World.frozen? w2 ⟨wS.heap.size+2,4,none⟩=false:=bR.frozen 4
   have bR_f5 : World.frozen? w2 ⟨wS.heap.size+2,5,none⟩=false:=bR.frozen 5
   have bR_l:=bR.lt
   have bQ_0 : World.cell? w2 ⟨wS.heap.size+3,0,none⟩=some (.int .i64 0):=bQ.cell 0
   have bQ_1 : World.cell? w2 ⟨wS.heap.size+3,1,none⟩=some (.int .i64 0):=bQ.cell 1
   have bQ_2 : World.cell? w2 ⟨wS.heap.size+3,2,none⟩=some (.int .i64 0):=bQ.cell 2
   have bQ_f0 : World.frozen? w2 ⟨wS.heap.size+3,0,none⟩=false:=bQ.frozen 0
   have bQ_f1 : World.frozen? w2 ⟨wS.heap.size+3,1,none⟩=false:=bQ.frozen 1
   have bQ_f2 : World.frozen? w2 ⟨wS.heap.size+3,2,none⟩=false:=bQ.frozen 2
   have bQ_l:=bQ.lt
   go_wp2
   rw [hres.out]
   have hXe : ExtBut (fun b=>wS.heap.size≤b∧b < wS.heap.size+4) w2 (World.setCell (World.setCell (World.setCell (World.setCell (World.setCell (World.setCell (World.setCell (World.setCell (World.setCell w2 ⟨wS.heap.size+2,0,none⟩ (.slice none 0 0)) ⟨wS.heap.size+2,1,none⟩ (.int .i64 0)) ⟨wS.heap.size+2,2,none⟩ (.slice none 0 0)) ⟨wS.heap.size+2,3,none⟩ (.slice none 0 0)) ⟨wS.heap.size+2,4,none⟩ (.int .i64 0)) ⟨wS.heap.size+2,5,none⟩ (.int .i64 0)) ⟨wS.heap.size+3,0,none⟩ (.int .i64 0)) ⟨wS.heap.size+3,1,none⟩ (.int .i64 0)) ⟨wS.heap.size+3,2,none⟩ (.int .i64 0)):=by (repeat' with_reducible first | exact ExtBut.refl _ _ | refine ExtBut.dr ?_ | refine ExtBut.sc ?_ ?_ | fail) <;> dsimp only <;> omega
   refine bodyPost_ret (v := .tuple #[.agg #[.slice none 0 0,.int .i64 0,.slice none 0 0,.slice none 0 0,.int .i64 0,.int .i64 0],.agg #[.int .i64 0,.int .i64 0,.int .i64 0],.int .u8 0,.int .i64 er]) (by simp [results,Tryz.f14,go_sem,bR_0,bR_1,bR_2,bR_3,bR_4,bR_5,bQ_0,bQ_1,bQ_2]) rfl ?_
   have hFe:=ExtBut.ext hF2 hXe (fun b h=>h.1)
   exact ⟨_,rfl,FrMon.zero _ _,hFe⟩
  ·skip
   rw [hwh];dsimp only
   clear hwh
   by_cases ht : m.tag=1000000
   ·skip
    have q2 : (m.tag == 1000000)=true:=by rw [ht];rfl
    have hres:=Lib.hid (retagM_full (p:=⟨pa,po,pt⟩) hokh.out hka.out hldh.out ht)
    clear ht
    obtain ⟨bM_0,bM_1,bM_2,bM_3,bM_4,bM_5,bM_l⟩:=bM.c6
    have bR_0 : World.cell? w2 ⟨wS.heap.size+2,0,none⟩=some (.slice none 0 0):=bR.cell 0
    have bR_1 : World.cell? w2 ⟨wS.heap.size+2,1,none⟩=some (.int .i64 0):=bR.cell 1
    have bR_2 : World.cell? w2 ⟨wS.heap.size+2,2,none⟩=some (.slice none 0 0):=bR.cell 2
    have bR_3 : World.cell? w2 ⟨wS.heap.size+2,3,none⟩=some (.slice none 0 0):=bR.cell 3
    have bR_4 : World.cell? w2 ⟨wS.heap.size+2,4,none⟩=some (.int .i64 0):=bR.cell 4
    have bR_5 : World.cell? w2 ⟨wS.heap.size+2,5,none⟩=some (.int .i64 0):=bR.cell 5
    have bR_f0 : World.frozen? w2 ⟨wS.heap.size+2,0,none⟩=false:=bR.frozen 0
    have bR_f1 : World.frozen? w2 ⟨wS.heap.size+2,1,none⟩=false:=bR.frozen 1
    have bR_f2 : World.frozen? w2 ⟨wS.heap.size+2,2,none⟩=false:=bR.frozen 2
    have bR_f3 : World.frozen? w2 ⟨wS.heap.size+2,3,none⟩=false:=bR.frozen 3
    have bR_f4 : World.frozen? w2 ⟨wS.heap.size+2,4,none⟩=false:=bR.frozen 4
    have bR_f5 : World.frozen? w2 ⟨wS.heap.size+2,5,none⟩=false:=bR.frozen 5
    have bR_l:=bR.lt
    have bQ_0 : World.cell? w2 ⟨wS.heap.size+3,0,none⟩=some (.int .i64 0):=bQ.cell 0
    have bQ_1 : World.cell? w2 ⟨wS.heap.size+3,1,none⟩=some (.int .i64 0):=bQ.cell 1
    have bQ_2 : World.cell? w2 ⟨wS.heap.size+3,2,none⟩=some (.int .i64 0):=bQ.cell 2
    have bQ_f0 : World.frozen? w2 ⟨wS.heap.size+3,0,none⟩=false:=bQ.frozen 0
    have bQ_f1 : World.frozen? w2 ⟨wS.heap.size+3,1,none⟩=false:=bQ.frozen 1
    have bQ_f2 : World.frozen? w2 ⟨wS.heap.size+3,2,none⟩=false:=bQ.frozen 2
    have bQ_l:=bQ.lt
    go_wp2
    rw [hres.out]
    have hXe : ExtBut (fun b=>wS.heap.size≤b∧b < wS.heap.size+4) w2 (World.setCell (World.setCell (World.setCell (World.setCell (World.setCell (World.setCell (World.setCell (World.setCell (World.setCell w2 ⟨wS.heap.size+2,0,none⟩ (.slice none 0 0)) ⟨wS.heap.size+2,1,none⟩ (.int .i64 0)) ⟨wS.heap.size+2,2,none⟩ (.slice none 0 0)) ⟨wS.heap.size+2,3,none⟩ (.slice none 0 0)) ⟨wS.heap.size+2,4,none⟩ (.int .i64 0)) ⟨wS.heap.size+2,5,none⟩ (.int .i64 0)) ⟨wS.heap.size+3,0,none⟩ (.int .i64 0)) ⟨wS.heap.size+3,1,none⟩ (.int .i64 0)) ⟨wS.heap.size+3,2,none⟩ (.int .i64 0)):=by (repeat' with_reducible first | exact ExtBut.refl _ _ | refine ExtBut.dr ?_ | refine ExtBut.sc ?_ ?_ | fail) <;> dsimp only <;> omega
    refine bodyPost_ret (v := .tuple #[.agg #[.slice none 0 0,.int .i64 0,.slice none 0 0,.slice none 0 0,.int .i64 0,.int .i64 0],.agg #[.int .i64 0,.int .i64 0,.int .i64 0],.int .u8 0,.int .i64 18]) (by simp [results,Tryz.f14,go_sem,bR_0,bR_1,bR_2,bR_3,bR_4,bR_5,bQ_0,bQ_1,bQ_2]) rfl ?_
    have hFe:=ExtBut.ext hF2 hXe (fun b h=>h.1)
    exact ⟨_,rfl,FrMon.zero _ _,hFe⟩
   have q2 : (m.tag == 1000000)=false:=beq_eq_false_iff_ne.2 ht
   have hres:=Lib.hid (retagM_gone (p:=⟨pa,po,pt⟩) hokh.out hka.out hldh.out ht)
   clear ht
   obtain ⟨bM_0,bM_1,bM_2,bM_3,bM_4,bM_5,bM_l⟩:=bM.c6
   have bR_0 : World.cell? w2 ⟨wS.heap.size+2,0,none⟩=some (.slice none 0 0):=bR.cell 0
   have bR_1 : World.cell? w2 ⟨wS.heap.size+2,1,none⟩=some (.int .i64 0):=bR.cell 1
   have bR_2 : World.cell? w2 ⟨wS.heap.size+2,2,none⟩=some (.slice none 0 0):=bR.cell 2
   have bR_3 : World.cell? w2 ⟨wS.heap.size+2,3,none⟩=some (.slice none 0 0):=bR.cell 3
   have bR_4 : World.cell? w2 ⟨wS.heap.size+2,4,none⟩=some (.int .i64 0):=bR.cell 4
   have bR_5 : World.cell? w2 ⟨wS.heap.size+2,5,none⟩=some (.int .i64 0):=bR.cell 5
   have bR_f0 : World.frozen? w2 ⟨wS.heap.size+2,0,none⟩=false:=bR.frozen 0
   have bR_f1 : World.frozen? w2 ⟨wS.heap.size+2,1,none⟩=false:=bR.frozen 1
   have bR_f2 : World.frozen? w2 ⟨wS.heap.size+2,2,none⟩=false:=bR.frozen 2
   have bR_f3 : World.frozen? w2 ⟨wS.heap.size+2,3,none⟩=false:=bR.frozen 3
   have bR_f4 : World.frozen? w2 ⟨wS.heap.size+2,4,none⟩=false:=bR.frozen 4
   have bR_f5 : World.frozen? w2 ⟨wS.heap.size+2,5,none⟩=false:=bR.frozen 5
   have bR_l:=bR.lt
   have bQ_0 : World.cell? w2 ⟨wS.heap.size+3,0,none⟩=some (.int .i64 0):=bQ.cell 0
   have bQ_1 : World.cell? w2 ⟨wS.heap.size+3,1,none⟩=some (.int .i64 0):=bQ.cell 1
   have bQ_2 : World.cell? w2 ⟨wS.heap.size+3,2,none⟩=some (.int .i64 0):=bQ.cell 2
   have bQ_f0 : World.frozen? w2 ⟨wS.heap.size+3,0,none⟩=false:=bQ.frozen 0
   have bQ_f1 : World.frozen? w2 ⟨wS.heap.size+3,1,none⟩=false:=bQ.frozen 1
   have bQ_f2 : World.frozen? w2 ⟨wS.heap.size+3,2,none⟩=false:=bQ.frozen 2
   have bQ_l:=bQ.lt
   go_wp2
   rw [hres.out]
   have hXe : ExtBut (fun b=>wS.heap.size≤b∧b < wS.heap.size+4) w2 (World.setCell (World.setCell (World.setCell (World.setCell (World.setCell (World.setCell (World.setCell (World.setCell (World.setCell w2 ⟨wS.heap.size+2,0,none⟩ (.slice none 0 0)) ⟨wS.heap.size+2,1,none⟩ (.int .i64 0)) ⟨wS.heap.size+2,2,none⟩ (.slice none 0 0)) ⟨wS.heap.size+2,3,none⟩ (.slice none 0 0)) ⟨wS.heap.size+2,4,none⟩ (.int .i64 0)) ⟨wS.heap.size+2,5,none⟩ (.int .i64 0)) ⟨wS.heap.size+3,0,none⟩ (.int .i64 0)) ⟨wS.heap.size+3,1,none⟩ (.int .i64 0)) ⟨wS.heap.size+3,2,none⟩ (.int .i64 0)):=by (repeat' with_reducible first | exact ExtBut.refl _ _ | refine ExtBut.dr ?_ | refine ExtBut.sc ?_ ?_ | fail) <;> dsimp only <;> omega
   refine bodyPost_ret (v := .tuple #[.agg #[.slice none 0 0,.int .i64 0,.slice none 0 0,.slice none 0 0,.int .i64 0,.int .i64 0],.agg #[.int .i64 0,.int .i64 0,.int .i64 0],.int .u8 3,.int .i64 0]) (by simp [results,Tryz.f14,go_sem,bR_0,bR_1,bR_2,bR_3,bR_4,bR_5,bQ_0,bQ_1,bQ_2]) rfl ?_
   have hFe:=ExtBut.ext hF2 hXe (fun b h=>h.1)
   exact ⟨_,rfl,FrMon.zero _ _,hFe⟩
  rw [hwh];dsimp only
  by_cases ht : m.tag=1000000
  ·skip
   clear hat hal hwh
   have q2 : (m.tag == 1000000)=true:=by rw [ht];rfl
   have hres:=Lib.hid (retagM_full (p:=⟨pa,po,pt⟩) hokh.out hka.out hldh.out ht)
   clear ht
   obtain ⟨bM_0,bM_1,bM_2,bM_3,bM_4,bM_5,bM_l⟩:=bM.c6
   have bR_0 : World.cell? w2 ⟨wS.heap.size+2,0,none⟩=some (.slice none 0 0):=bR.cell 0
   have bR_1 : World.cell? w2 ⟨wS.heap.size+2,1,none⟩=some (.int .i64 0):=bR.cell 1
   have bR_2 : World.cell? w2 ⟨wS.heap.size+2,2,none⟩=some (.slice none 0 0):=bR.cell 2
   have bR_3 : World.cell? w2 ⟨wS.heap.size+2,3,none⟩=some (.slice none 0 0):=bR.cell 3
   have bR_4 : World.cell? w2 ⟨wS.heap.size+2,4,none⟩=some (.int .i64 0):=bR.cell 4
   have bR_5 : World.cell? w2 ⟨wS.heap.size+2,5,none⟩=some (.int .i64 0):=bR.cell 5
   have bR_f0 : World.frozen? w2 ⟨wS.heap.size+2,0,none⟩=false:=bR.frozen 0
   have bR_f1 : World.frozen? w2 ⟨wS.heap.size+2,1,none⟩=false:=bR.frozen 1
   have bR_f2 : World.frozen? w2 ⟨wS.heap.size+2,2,none⟩=false:=bR.frozen 2
   have bR_f3 : World.frozen? w2 ⟨wS.heap.size+2,3,none⟩=false:=bR.frozen 3
   have bR_f4 : World.frozen? w2 ⟨wS.heap.size+2,4,none⟩=false:=bR.frozen 4
   have bR_f5 : World.frozen? w2 ⟨wS.heap.size+2,5,none⟩=false:=bR.frozen 5
   have bR_l:=bR.lt
   have bQ_0 : World.cell? w2 ⟨wS.heap.size+3,0,none⟩=some (.int .i64 0):=bQ.cell 0
   have bQ_1 : World.cell? w2 ⟨wS.heap.size+3,1,none⟩=some (.int .i64 0):=bQ.cell 1
   have bQ_2 : World.cell? w2 ⟨wS.heap.size+3,2,none⟩=some (.int .i64 0):=bQ.cell 2
   have bQ_f0 : World.frozen? w2 ⟨wS.heap.size+3,0,none⟩=false:=bQ.frozen 0
   have bQ_f1 : World.frozen? w2 ⟨wS.heap.size+3,1,none⟩=false:=bQ.frozen 1
   have bQ_f2 : World.frozen? w2 ⟨wS.heap.size+3,2,none⟩=false:=bQ.frozen 2
   have bQ_l:=bQ.lt
   go_wp2
   rw [hres.out]
   have hXe : ExtBut (fun b=>wS.heap.size≤b∧b < wS.heap.size+4) w2 (World.setCell (World.setCell (World.setCell (World.setCell (World.setCell (World.setCell (World.setCell (World.setCell (World.setCell w2 ⟨wS.heap.size+2,0,none⟩ (.slice none 0 0)) ⟨wS.heap.size+2,1,none⟩ (.int .i64 0)) ⟨wS.heap.size+2,2,none⟩ (.slice none 0 0)) ⟨wS.heap.size+2,3,none⟩ (.slice none 0 0)) ⟨wS.heap.size+2,4,none⟩ (.int .i64 0)) ⟨wS.heap.size+2,5,none⟩ (.int .i64 0)) ⟨wS.heap.size+3,0,none⟩ (.int .i64 0)) ⟨wS.heap.size+3,1,none⟩ (.int .i64 0)) ⟨wS.heap.size+3,2,none⟩ (.int .i64 0)):=by (repeat' with_reducible first | exact ExtBut.refl _ _ | refine ExtBut.dr ?_ | refine ExtBut.sc ?_ ?_ | fail) <;> dsimp only <;> omega
   refine bodyPost_ret (v := .tuple #[.agg #[.slice none 0 0,.int .i64 0,.slice none 0 0,.slice none 0 0,.int .i64 0,.int .i64 0],.agg #[.int .i64 0,.int .i64 0,.int .i64 0],.int .u8 0,.int .i64 18]) (by simp [results,Tryz.f14,go_sem,bR_0,bR_1,bR_2,bR_3,bR_4,bR_5,bQ_0,bQ_1,bQ_2]) rfl ?_
   have hFe:=ExtBut.ext hF2 hXe (fun b h=>h.1)
   exact ⟨_,rfl,FrMon.zero _ _,hFe⟩
  have q2 : (m.tag == 1000000)=false:=beq_eq_false_iff_ne.2 ht
  have hu : un≠3:=by rcases hun with h | h <;> rw [h] <;> decide
  have hil:=(List.getElem?_eq_some_iff.1 hal).1
  have hMok:=hMokh.out
  obtain ⟨st,al',hst,-,hrow⟩:=hMok.stk hil
  obtain ⟨sn,scs⟩:=st
  obtain ⟨⟨⟨xn,xcs⟩,why,e4⟩,hd⟩ : ∃ z,tag33 ⟨sn,scs⟩ po n kind pt ⟨0,m.tag,call⟩ m.run=z:=⟨_,rfl⟩
  have hi2 : i < m.stks.length:=(List.getElem?_eq_some_iff.1 hst).1
  have hi0 : (0 : Int)≤(i : Int):=by omega
  have hi1 : (i : Int) < (m.stks.length : Int):=by omega
  obtain ⟨kb,ko,ks,rfl,hkb,k0,k1,hks⟩:=hK.out.cell hst
  have hv:=hks.form
  obtain ⟨sa',sc',rfl,-⟩:=hv
  dsimp only at k0 k1
  replace hks:=Lib.hid hks
  have hdh:=Lib.hid hd
  have hres:=Lib.hid (retagM_live (p:=⟨pa,po,pt⟩) hokh.out hka.out hldh.out ht hu hat hst hd)
  have hsth:=Lib.hid hst
  have w1 : IntKind.i64.wrap (m.tag+1)=m.tag+1:=IntWalk.i64_in _ (by have:=htb.out;omega)
  clear ht hu hat hal hst hrow hd hil hkb hMok hun hwh
  obtain ⟨bM_0,bM_1,bM_2,bM_3,bM_4,bM_5,bM_l⟩:=bM.c6
  obtain ⟨bP_0,bP_1,bP_2,bP_l⟩:=bP.c3
  go_upto_region 13 with fail
  clear bM_0 bM_1 bM_2 bM_3 bM_4 bM_5 bM_l bP_0 bP_1 bP_2 bP_l
  have bMc2 : World.cell? w2 ⟨wS.heap.size,2,none⟩=some (.slice (some ⟨kb,ko,none⟩) m.stks.length kc):=bM.cell 2
  have bMc3 : World.cell? w2 ⟨wS.heap.size,3,none⟩=some (.slice ra m.run.length rc):=bM.cell 3
  have bPc1 : World.cell? w2 ⟨wS.heap.size+1,1,none⟩=some (.int .i64 po):=bP.cell 1
  have bPc2 : World.cell? w2 ⟨wS.heap.size+1,2,none⟩=some (.int .i64 pt):=bP.cell 2
  have bMc4 : World.cell? w2 ⟨wS.heap.size,4,none⟩=some (.int .i64 m.tag):=bM.cell 4
  have r0:=Ext.cell hF2 k0;have r1:=Ext.cell hF2 k1
  have hKc:=Lib.hid (hks.out.ext hF2);have hRc:=Lib.hid (hR.out.ext hF2)
  refine wp_region_rel (R:=(BxX w2.drew.heap.size 68 2 (X35 w2.drew.heap.size ⟨xn,xcs⟩))) BxX.refl (fun _ _ _=>BxX.trans X35_bxr) [PrR.eq _ (.pointer (some ⟨wS.heap.size,2,none⟩)),PrR.eq _ (.slice (some ⟨kb,ko,none⟩) m.stks.length kc),PrR.eq _ (.int .i64 (i : Int)),PrR.eq _ (.pointer (some ⟨kb,ko+i * 2,none⟩)),PrR.eq _ (.agg #[.int .i64 sn,.slice sa' scs.length sc']),PrR.eq _ (.pointer (some ⟨wS.heap.size+1,1,none⟩)),PrR.eq _ (.int .i64 po),PrR.eq _ (.int .i64 n),PrR.eq _ (.int .u8 kind),PrR.eq _ (.pointer (some ⟨wS.heap.size+1,2,none⟩)),PrR.eq _ (.int .i64 pt),PrR.eq _ (.pointer (some ⟨wS.heap.size,4,none⟩)),PrR.eq _ (.int .i64 m.tag),PrR.eq _ (.int .i64 call),PrR.eq _ (.agg #[.int .u8 0,.int .i64 m.tag,.int .i64 call]),PrR.eq _ (.pointer (some ⟨wS.heap.size,3,none⟩)),PrR.eq _ (.slice ra m.run.length rc),(PrRK w2.drew.heap.size ⟨xn,xcs⟩ (fun a' c' => .tuple #[.agg #[.int .i64 xn,.slice a' xcs.length c'],.int .u8 why,.int .i64 e4])),(PrRK w2.drew.heap.size ⟨xn,xcs⟩ (fun a' c' => .tuple #[.agg #[.int .i64 xn,.slice a' xcs.length c'],.int .u8 why,.int .i64 e4])),(PrRK w2.drew.heap.size ⟨xn,xcs⟩ (fun a' c' => .agg #[.int .i64 xn,.slice a' xcs.length c'])),PrR.eq _ (.int .u8 why),PrR.eq _ (.int .i64 e4),(PrR.up (PrRB w2.drew.heap.size 68 2)),(PrRT w2.drew.heap.size ⟨xn,xcs⟩),PrR.eq _ (.int .u8 why),PrR.eq _ (.int .i64 e4)] (by kernel_rfl) (by kernel_rfl) ?_ ?_
  ·refine ⟨?_,?_,?_,?_,?_,?_,?_,?_,?_,?_,?_,?_,?_,?_,?_,?_,?_,?_,?_,?_,?_,?_,?_,?_,?_,?_,trivial⟩
   ·intro a w hE hd ho
    refine .inl ⟨rfl,?_⟩
    intro Kq hKq
    have hF : Ext w2 w:=Ext.trans ((Ext.refl _).drew) (BxX.to_ext hE (Nat.le_refl _))
    have e5 : a.eval (.tmp 5) = .pointer (some ⟨wS.heap.size,0,none⟩):=ho 5 (by kernel_rfl)
    rw [eval_tmp] at e5
    clear bMc2 bMc3 bPc1 bPc2 bMc4 r0 r1
    clear hd ho
    replace hKq:=Lib.hid hKq
    go_simp
    exact hKq.out _ _ rfl (BxX.refl _)
   ·intro a w hE hd ho
    refine .inl ⟨rfl,?_⟩
    intro Kq hKq
    have hF : Ext w2 w:=Ext.trans ((Ext.refl _).drew) (BxX.to_ext hE (Nat.le_refl _))
    have e67 : a.eval (.tmp 67) = .pointer (some ⟨wS.heap.size,2,none⟩):=hd 0 (by kernel_rfl)
    rw [eval_tmp] at e67
    have bMc2w:=Ext.cell hF bMc2
    clear bMc2 bMc3 bPc1 bPc2 bMc4 r0 r1
    clear hd ho
    replace hKq:=Lib.hid hKq
    go_simp
    exact hKq.out _ _ rfl (BxX.refl _)
   ·intro a w hE hd ho
    refine .inl ⟨rfl,?_⟩
    intro Kq hKq
    have hF : Ext w2 w:=Ext.trans ((Ext.refl _).drew) (BxX.to_ext hE (Nat.le_refl _))
    have e15 : a.eval (.tmp 15) = .int .i64 (i : Int):=ho 15 (by kernel_rfl)
    rw [eval_tmp] at e15
    clear bMc2 bMc3 bPc1 bPc2 bMc4 r0 r1
    clear hd ho
    replace hKq:=Lib.hid hKq
    go_simp
    exact hKq.out _ _ rfl (BxX.refl _)
   ·intro a w hE hd ho
    refine .inl ⟨rfl,?_⟩
    intro Kq hKq
    have hF : Ext w2 w:=Ext.trans ((Ext.refl _).drew) (BxX.to_ext hE (Nat.le_refl _))
    have e68 : a.eval (.tmp 68) = .slice (some ⟨kb,ko,none⟩) m.stks.length kc:=hd 1 (by kernel_rfl)
    rw [eval_tmp] at e68
    have e69 : a.eval (.tmp 69) = .int .i64 (i : Int):=hd 2 (by kernel_rfl)
    rw [eval_tmp] at e69
    clear bMc2 bMc3 bPc1 bPc2 bMc4 r0 r1
    clear hd ho
    replace hKq:=Lib.hid hKq
    go_simp
    exact hKq.out _ _ rfl (BxX.refl _)
   ·intro a w hE hd ho
    refine .inl ⟨rfl,?_⟩
    intro Kq hKq
    have hF : Ext w2 w:=Ext.trans ((Ext.refl _).drew) (BxX.to_ext hE (Nat.le_refl _))
    have e70 : a.eval (.tmp 70) = .pointer (some ⟨kb,ko+i * 2,none⟩):=hd 3 (by kernel_rfl)
    rw [eval_tmp] at e70
    have r0w:=Ext.cell hF r0
    have r1w:=Ext.cell hF r1
    clear bMc2 bMc3 bPc1 bPc2 bMc4 r0 r1
    clear hd ho
    replace hKq:=Lib.hid hKq
    go_simp
    exact hKq.out _ _ rfl (BxX.refl _)
   ·intro a w hE hd ho
    refine .inl ⟨rfl,?_⟩
    intro Kq hKq
    have hF : Ext w2 w:=Ext.trans ((Ext.refl _).drew) (BxX.to_ext hE (Nat.le_refl _))
    have e6 : a.eval (.tmp 6) = .pointer (some ⟨wS.heap.size+1,0,none⟩):=ho 6 (by kernel_rfl)
    rw [eval_tmp] at e6
    clear bMc2 bMc3 bPc1 bPc2 bMc4 r0 r1
    clear hd ho
    replace hKq:=Lib.hid hKq
    go_simp
    exact hKq.out _ _ rfl (BxX.refl _)
   ·intro a w hE hd ho
    refine .inl ⟨rfl,?_⟩
    intro Kq hKq
    have hF : Ext w2 w:=Ext.trans ((Ext.refl _).drew) (BxX.to_ext hE (Nat.le_refl _))
    have e72 : a.eval (.tmp 72) = .pointer (some ⟨wS.heap.size+1,1,none⟩):=hd 5 (by kernel_rfl)
    rw [eval_tmp] at e72
    have bPc1w:=Ext.cell hF bPc1
    clear bMc2 bMc3 bPc1 bPc2 bMc4 r0 r1
    clear hd ho
    replace hKq:=Lib.hid hKq
    go_simp
    exact hKq.out _ _ rfl (BxX.refl _)
   ·intro a w hE hd ho
    refine .inl ⟨rfl,?_⟩
    intro Kq hKq
    have hF : Ext w2 w:=Ext.trans ((Ext.refl _).drew) (BxX.to_ext hE (Nat.le_refl _))
    have e2 : a.eval (.tmp 2) = .int .i64 n:=ho 2 (by kernel_rfl)
    rw [eval_tmp] at e2
    clear bMc2 bMc3 bPc1 bPc2 bMc4 r0 r1
    clear hd ho
    replace hKq:=Lib.hid hKq
    go_simp
    exact hKq.out _ _ rfl (BxX.refl _)
   ·intro a w hE hd ho
    refine .inl ⟨rfl,?_⟩
    intro Kq hKq
    have hF : Ext w2 w:=Ext.trans ((Ext.refl _).drew) (BxX.to_ext hE (Nat.le_refl _))
    have e3 : a.eval (.tmp 3) = .int .u8 kind:=ho 3 (by kernel_rfl)
    rw [eval_tmp] at e3
    clear bMc2 bMc3 bPc1 bPc2 bMc4 r0 r1
    clear hd ho
    replace hKq:=Lib.hid hKq
    go_simp
    exact hKq.out _ _ rfl (BxX.refl _)
   ·intro a w hE hd ho
    refine .inl ⟨rfl,?_⟩
    intro Kq hKq
    have hF : Ext w2 w:=Ext.trans ((Ext.refl _).drew) (BxX.to_ext hE (Nat.le_refl _))
    have e6 : a.eval (.tmp 6) = .pointer (some ⟨wS.heap.size+1,0,none⟩):=ho 6 (by kernel_rfl)
    rw [eval_tmp] at e6
    clear bMc2 bMc3 bPc1 bPc2 bMc4 r0 r1
    clear hd ho
    replace hKq:=Lib.hid hKq
    go_simp
    exact hKq.out _ _ rfl (BxX.refl _)
   ·intro a w hE hd ho
    refine .inl ⟨rfl,?_⟩
    intro Kq hKq
    have hF : Ext w2 w:=Ext.trans ((Ext.refl _).drew) (BxX.to_ext hE (Nat.le_refl _))
    have e76 : a.eval (.tmp 76) = .pointer (some ⟨wS.heap.size+1,2,none⟩):=hd 9 (by kernel_rfl)
    rw [eval_tmp] at e76
    have bPc2w:=Ext.cell hF bPc2
    clear bMc2 bMc3 bPc1 bPc2 bMc4 r0 r1
    clear hd ho
    replace hKq:=Lib.hid hKq
    go_simp
    exact hKq.out _ _ rfl (BxX.refl _)
   ·intro a w hE hd ho
    refine .inl ⟨rfl,?_⟩
    intro Kq hKq
    have hF : Ext w2 w:=Ext.trans ((Ext.refl _).drew) (BxX.to_ext hE (Nat.le_refl _))
    have e5 : a.eval (.tmp 5) = .pointer (some ⟨wS.heap.size,0,none⟩):=ho 5 (by kernel_rfl)
    rw [eval_tmp] at e5
    clear bMc2 bMc3 bPc1 bPc2 bMc4 r0 r1
    clear hd ho
    replace hKq:=Lib.hid hKq
    go_simp
    exact hKq.out _ _ rfl (BxX.refl _)
   ·intro a w hE hd ho
    refine .inl ⟨rfl,?_⟩
    intro Kq hKq
    have hF : Ext w2 w:=Ext.trans ((Ext.refl _).drew) (BxX.to_ext hE (Nat.le_refl _))
    have e78 : a.eval (.tmp 78) = .pointer (some ⟨wS.heap.size,4,none⟩):=hd 11 (by kernel_rfl)
    rw [eval_tmp] at e78
    have bMc4w:=Ext.cell hF bMc4
    clear bMc2 bMc3 bPc1 bPc2 bMc4 r0 r1
    clear hd ho
    replace hKq:=Lib.hid hKq
    go_simp
    exact hKq.out _ _ rfl (BxX.refl _)
   ·intro a w hE hd ho
    refine .inl ⟨rfl,?_⟩
    intro Kq hKq
    have hF : Ext w2 w:=Ext.trans ((Ext.refl _).drew) (BxX.to_ext hE (Nat.le_refl _))
    have e4 : a.eval (.tmp 4) = .int .i64 call:=ho 4 (by kernel_rfl)
    rw [eval_tmp] at e4
    clear bMc2 bMc3 bPc1 bPc2 bMc4 r0 r1
    clear hd ho
    replace hKq:=Lib.hid hKq
    go_simp
    exact hKq.out _ _ rfl (BxX.refl _)
   ·intro a w hE hd ho
    refine .inl ⟨rfl,?_⟩
    intro Kq hKq
    have hF : Ext w2 w:=Ext.trans ((Ext.refl _).drew) (BxX.to_ext hE (Nat.le_refl _))
    have e79 : a.eval (.tmp 79) = .int .i64 m.tag:=hd 12 (by kernel_rfl)
    rw [eval_tmp] at e79
    have e80 : a.eval (.tmp 80) = .int .i64 call:=hd 13 (by kernel_rfl)
    rw [eval_tmp] at e80
    clear bMc2 bMc3 bPc1 bPc2 bMc4 r0 r1
    clear hd ho
    replace hKq:=Lib.hid hKq
    go_simp
    exact hKq.out _ _ rfl (BxX.refl _)
   ·intro a w hE hd ho
    refine .inl ⟨rfl,?_⟩
    intro Kq hKq
    have hF : Ext w2 w:=Ext.trans ((Ext.refl _).drew) (BxX.to_ext hE (Nat.le_refl _))
    have e5 : a.eval (.tmp 5) = .pointer (some ⟨wS.heap.size,0,none⟩):=ho 5 (by kernel_rfl)
    rw [eval_tmp] at e5
    clear bMc2 bMc3 bPc1 bPc2 bMc4 r0 r1
    clear hd ho
    replace hKq:=Lib.hid hKq
    go_simp
    exact hKq.out _ _ rfl (BxX.refl _)
   ·intro a w hE hd ho
    refine .inl ⟨rfl,?_⟩
    intro Kq hKq
    have hF : Ext w2 w:=Ext.trans ((Ext.refl _).drew) (BxX.to_ext hE (Nat.le_refl _))
    have e82 : a.eval (.tmp 82) = .pointer (some ⟨wS.heap.size,3,none⟩):=hd 15 (by kernel_rfl)
    rw [eval_tmp] at e82
    have bMc3w:=Ext.cell hF bMc3
    clear bMc2 bMc3 bPc1 bPc2 bMc4 r0 r1
    clear hd ho
    replace hKq:=Lib.hid hKq
    go_simp
    exact hKq.out _ _ rfl (BxX.refl _)
   ·intro a w hE hd ho
    refine .inl ⟨rfl,?_⟩
    intro Kq hKq
    have hF : Ext w2 w:=Ext.trans ((Ext.refl _).drew) (BxX.to_ext hE (Nat.le_refl _))
    have e71 : a.eval (.tmp 71) = .agg #[.int .i64 sn,.slice sa' scs.length sc']:=hd 4 (by kernel_rfl)
    rw [eval_tmp] at e71
    have e73 : a.eval (.tmp 73) = .int .i64 po:=hd 6 (by kernel_rfl)
    rw [eval_tmp] at e73
    have e74 : a.eval (.tmp 74) = .int .i64 n:=hd 7 (by kernel_rfl)
    rw [eval_tmp] at e74
    have e75 : a.eval (.tmp 75) = .int .u8 kind:=hd 8 (by kernel_rfl)
    rw [eval_tmp] at e75
    have e77 : a.eval (.tmp 77) = .int .i64 pt:=hd 10 (by kernel_rfl)
    rw [eval_tmp] at e77
    have e81 : a.eval (.tmp 81) = .agg #[.int .u8 0,.int .i64 m.tag,.int .i64 call]:=hd 14 (by kernel_rfl)
    rw [eval_tmp] at e81
    have e83 : a.eval (.tmp 83) = .slice ra m.run.length rc:=hd 16 (by kernel_rfl)
    rw [eval_tmp] at e83
    clear bMc2 bMc3 bPc1 bPc2 bMc4 r0 r1
    clear hd ho
    replace hKq:=Lib.hid hKq
    go_simp
    refine (ref33_Retag (num:=sn) (a:=po) (n:=n) (kind:=kind) hkb.out pt ⟨0,m.tag,call⟩ (hKc.out.ext hF) (hRc.out.ext hF)).mono ?_
    rintro e wz ⟨v1,vs1,rfl,hO1,hZ⟩
    rw [hdh.out] at hO1 ⊢
    dsimp only at hO1 ⊢
    obtain ⟨a1,c1,rfl,-⟩:=hO1.outer.sl.slice_form
    go_simp
    exact hKq.out _ _ ⟨_,_,_,rfl,OwnS.mono hO1 hF.size⟩ (BxX.of_ext hZ)
   ·intro a w hE hd ho
    refine .inl ⟨rfl,?_⟩
    intro Kq hKq
    have hF : Ext w2 w:=Ext.trans ((Ext.refl _).drew) (BxX.to_ext hE (Nat.le_refl _))
    obtain ⟨xa84,xc84,xu84,e84,g84⟩ : ∃ a' c' us,a.eval (.tmp 84) = .tuple #[.agg #[.int .i64 xn,.slice a' xcs.length c'],.int .u8 why,.int .i64 e4]∧OwnS w w2.drew.heap.size (.slice a' xcs.length c') us xcs:=hd 17 (by kernel_rfl)
    rw [eval_tmp] at e84
    clear bMc2 bMc3 bPc1 bPc2 bMc4 r0 r1
    clear hd ho
    replace hKq:=Lib.hid hKq
    go_simp
    exact hKq.out _ _ ⟨_,_,_,rfl,g84⟩ (BxX.refl _)
   ·intro a w hE hd ho
    refine .inl ⟨rfl,?_⟩
    intro Kq hKq
    have hF : Ext w2 w:=Ext.trans ((Ext.refl _).drew) (BxX.to_ext hE (Nat.le_refl _))
    obtain ⟨xa66,xc66,xu66,e66,g66⟩ : ∃ a' c' us,a.eval (.tmp 66) = .tuple #[.agg #[.int .i64 xn,.slice a' xcs.length c'],.int .u8 why,.int .i64 e4]∧OwnS w w2.drew.heap.size (.slice a' xcs.length c') us xcs:=hd 18 (by kernel_rfl)
    rw [eval_tmp] at e66
    clear bMc2 bMc3 bPc1 bPc2 bMc4 r0 r1
    clear hd ho
    replace hKq:=Lib.hid hKq
    go_simp
    exact hKq.out _ _ ⟨_,_,_,rfl,g66⟩ (BxX.refl _)
   ·intro a w hE hd ho
    refine .inl ⟨rfl,?_⟩
    intro Kq hKq
    have hF : Ext w2 w:=Ext.trans ((Ext.refl _).drew) (BxX.to_ext hE (Nat.le_refl _))
    obtain ⟨xa66,xc66,xu66,e66,g66⟩ : ∃ a' c' us,a.eval (.tmp 66) = .tuple #[.agg #[.int .i64 xn,.slice a' xcs.length c'],.int .u8 why,.int .i64 e4]∧OwnS w w2.drew.heap.size (.slice a' xcs.length c') us xcs:=hd 18 (by kernel_rfl)
    rw [eval_tmp] at e66
    clear bMc2 bMc3 bPc1 bPc2 bMc4 r0 r1
    clear hd ho
    replace hKq:=Lib.hid hKq
    go_simp
    exact hKq.out _ _ rfl (BxX.refl _)
   ·intro a w hE hd ho
    refine .inl ⟨rfl,?_⟩
    intro Kq hKq
    have hF : Ext w2 w:=Ext.trans ((Ext.refl _).drew) (BxX.to_ext hE (Nat.le_refl _))
    obtain ⟨xa66,xc66,xu66,e66,g66⟩ : ∃ a' c' us,a.eval (.tmp 66) = .tuple #[.agg #[.int .i64 xn,.slice a' xcs.length c'],.int .u8 why,.int .i64 e4]∧OwnS w w2.drew.heap.size (.slice a' xcs.length c') us xcs:=hd 18 (by kernel_rfl)
    rw [eval_tmp] at e66
    clear bMc2 bMc3 bPc1 bPc2 bMc4 r0 r1
    clear hd ho
    replace hKq:=Lib.hid hKq
    go_simp
    exact hKq.out _ _ rfl (BxX.refl _)
   ·intro a w hE hd ho
    refine .inl ⟨rfl,?_⟩
    intro Kq hKq
    have hF : Ext w2 w:=Ext.trans ((Ext.refl _).drew) (BxX.to_ext hE (Nat.le_refl _))
    clear bMc2 bMc3 bPc1 bPc2 bMc4 r0 r1
    clear hd ho
    replace hKq:=Lib.hid hKq
    go_simp
    exact hKq.out _ _ ⟨_,rfl,BxX.size hE,#[.int .i64 0,.slice none 0 0],rfl,Box.new _ _ _⟩ (BxX.of_ext ((Ext.refl _).alloc _))
   ·intro a w hE hd ho
    refine .inl ⟨rfl,?_⟩
    intro Kq hKq
    have hF : Ext w2 w:=Ext.trans ((Ext.refl _).drew) (BxX.to_ext hE (Nat.le_refl _))
    obtain ⟨bq,eq,hNb,vs0,hv0,hbx⟩ : ∃ b,a.eval (.tmp 18) = .pointer (some ⟨b,0,none⟩)∧w2.drew.heap.size≤b∧BoxT 68 2 w b:=hd 22 (by kernel_rfl)
    rw [eval_tmp] at eq
    have hBT : BoxT 68 2 w bq:=⟨vs0,hv0,hbx⟩
    obtain ⟨u0,u1,rfl⟩ : ∃ u0 u1,vs0=#[u0,u1]:=by match vs0,hv0 with | ⟨[u0,u1]⟩,_=>exact ⟨u0,u1,rfl⟩
    have bc0 : World.cell? w ⟨bq,0,none⟩=some u0:=hbx.cell 0
    have bf0:=hbx.frozen 0
    have bc1 : World.cell? w ⟨bq,1,none⟩=some u1:=hbx.cell 1
    have bf1:=hbx.frozen 1
    have hbl:=hbx.lt
    replace hBT:=Lib.hid hBT
    obtain ⟨xa85,xc85,xu85,e85,g85⟩ : ∃ a' c' us,a.eval (.tmp 85) = .agg #[.int .i64 xn,.slice a' xcs.length c']∧OwnS w w2.drew.heap.size (.slice a' xcs.length c') us xcs:=hd 19 (by kernel_rfl)
    rw [eval_tmp] at e85
    clear bMc2 bMc3 bPc1 bPc2 bMc4 r0 r1
    have eq0:=Lib.hid ((eval_tmp a 18).trans eq)
    clear hd ho
    replace hKq:=Lib.hid hKq
    go_simp
    have hEb : ExtBut (· = bq) w (World.setCell (World.setCell w ⟨bq,0,none⟩ (.int .i64 xn)) ⟨bq,1,none⟩ (.slice xa85 xcs.length xc85)):=(ExtBut.setCell w ⟨bq,0,none⟩ (.int .i64 xn)).trans (ExtBut.setCell (World.setCell w ⟨bq,0,none⟩ (.int .i64 xn)) ⟨bq,1,none⟩ (.slice xa85 xcs.length xc85))
    have hBx : Box (World.setCell (World.setCell w ⟨bq,0,none⟩ (.int .i64 xn)) ⟨bq,1,none⟩ (.slice xa85 xcs.length xc85)) bq 68 #[.int .i64 xn,.slice xa85 xcs.length xc85]:=(hbx.set 0 _).set 1 _
    have hB0 : BxR w2.drew.heap.size 68 2 w (World.setCell w ⟨bq,0,none⟩ (.int .i64 xn)):=BxR.set hBT.out hNb 0 _
    have hB1 : BxR w2.drew.heap.size 68 2 w (World.setCell (World.setCell w ⟨bq,0,none⟩ (.int .i64 xn)) ⟨bq,1,none⟩ (.slice xa85 xcs.length xc85)):=hB0.trans (BxR.set (hB0.boxT hBT.out) hNb 1 _)
    have hOS:=g85.bxr hB1
    have hRR : (BxX w2.drew.heap.size 68 2 (X35 w2.drew.heap.size ⟨xn,xcs⟩)) w (World.setCell (World.setCell w ⟨bq,0,none⟩ (.int .i64 xn)) ⟨bq,1,none⟩ (.slice xa85 xcs.length xc85)):=BxX.but hEb hBT.out hNb rfl hBx ⟨_,_,_,rfl,hOS⟩
    exact hKq.out undef (World.setCell (World.setCell w ⟨bq,0,none⟩ (.int .i64 xn)) ⟨bq,1,none⟩ (.slice xa85 xcs.length xc85)) ⟨bq,_,_,_,eq0.out,hNb,hBx,hOS⟩ hRR
   ·intro a w hE hd ho
    refine .inl ⟨rfl,?_⟩
    intro Kq hKq
    have hF : Ext w2 w:=Ext.trans ((Ext.refl _).drew) (BxX.to_ext hE (Nat.le_refl _))
    have e86 : a.eval (.tmp 86) = .int .u8 why:=hd 20 (by kernel_rfl)
    rw [eval_tmp] at e86
    clear bMc2 bMc3 bPc1 bPc2 bMc4 r0 r1
    clear hd ho
    replace hKq:=Lib.hid hKq
    go_simp
    exact hKq.out _ _ rfl (BxX.refl _)
   ·intro a w hE hd ho
    refine .inl ⟨rfl,?_⟩
    intro Kq hKq
    have hF : Ext w2 w:=Ext.trans ((Ext.refl _).drew) (BxX.to_ext hE (Nat.le_refl _))
    have e87 : a.eval (.tmp 87) = .int .i64 e4:=hd 21 (by kernel_rfl)
    rw [eval_tmp] at e87
    clear bMc2 bMc3 bPc1 bPc2 bMc4 r0 r1
    clear hd ho
    replace hKq:=Lib.hid hKq
    go_simp
    exact hKq.out _ _ rfl (BxX.refl _)
  ·intro vals Ac wq hAc hE hv hsv
   have hF : Ext w2 wq:=Ext.trans ((Ext.refl _).drew) (BxX.to_ext hE (Nat.le_refl _))
   obtain ⟨BX,xa,xc,xu,eb,hNb,bX,hOx⟩ : ∃ b a c us,vals 23 = .pointer (some ⟨b,0,none⟩)∧w2.drew.heap.size≤b∧Box wq b 68 #[.int .i64 xn,.slice a xcs.length c]∧OwnS wq w2.drew.heap.size (.slice a xcs.length c) us xcs:=hv 23 (by decide)
   have e1 : vals 22 = .pointer (some ⟨BX,0,none⟩):=((hsv 22).trans (hsv 23).symm).trans eb
   have e2 : vals 24 = .int .u8 why:=hv 24 (by decide)
   have e3 : vals 25 = .int .i64 e4:=hv 25 (by decide)
   clear hv hsv hE eb bMc2 bMc3 bPc1 bPc2 bMc4 r0 r1
   subst hAc
   simp only [putAll]
   go_simp
   try rw [e1,e2,e3]
   clear e1 e2 e3
   have szbX:=Lib.hid (by have h3 : w2.heap.size≤BX:=hNb;have h4:=bQ.lt;omega : wS.heap.size+4≤BX)
   have hXs0:=Lib.hid (by have h4:=bQ.lt;omega : wS.heap.size+4≤w2.heap.size)
   replace bM:=bM.ext hF
   replace bP:=bP.ext hF
   replace bR:=bR.ext hF
   replace bQ:=bQ.ext hF
   have hF3:=Ext.trans hF2 hF
   have hxf:=Lib.hid ((OwnS.fs hOx).mono (S':=fun b=>wS.heap.size+4≤b∧b < wq.heap.size) (fun b h1 hl=>⟨by have h2 : w2.heap.size≤b:=h1;have h3:=hXs0.out;omega,hl⟩))
   clear hNb hOx hKc hRc
   have hXx:=Lib.hid (ExtBut.refl (fun b=>wS.heap.size≤b∧b < wS.heap.size+4) wq)
   have hXl:=Lib.hid bX.lt
   by_cases he4 : e4=0
   rotate_left
   ·skip
    have q4 : (e4 != 0)=true:=by simpa using he4
    have hres1:=hres.out;rw [if_neg (fun h=>he4 h.1)] at hres1;replace hres1:=Lib.hid hres1
    clear he4
    obtain ⟨bM_0,bM_1,bM_2,bM_3,bM_4,bM_5,bM_l⟩:=bM.c6
    have bR_0 : World.cell? wq ⟨wS.heap.size+2,0,none⟩=some (.slice none 0 0):=bR.cell 0
    have bR_1 : World.cell? wq ⟨wS.heap.size+2,1,none⟩=some (.int .i64 0):=bR.cell 1
    have bR_2 : World.cell? wq ⟨wS.heap.size+2,2,none⟩=some (.slice none 0 0):=bR.cell 2
    have bR_3 : World.cell? wq ⟨wS.heap.size+2,3,none⟩=some (.slice none 0 0):=bR.cell 3
    have bR_4 : World.cell? wq ⟨wS.heap.size+2,4,none⟩=some (.int .i64 0):=bR.cell 4
    have bR_5 : World.cell? wq ⟨wS.heap.size+2,5,none⟩=some (.int .i64 0):=bR.cell 5
    have bR_f0 : World.frozen? wq ⟨wS.heap.size+2,0,none⟩=false:=bR.frozen 0
    have bR_f1 : World.frozen? wq ⟨wS.heap.size+2,1,none⟩=false:=bR.frozen 1
    have bR_f2 : World.frozen? wq ⟨wS.heap.size+2,2,none⟩=false:=bR.frozen 2
    have bR_f3 : World.frozen? wq ⟨wS.heap.size+2,3,none⟩=false:=bR.frozen 3
    have bR_f4 : World.frozen? wq ⟨wS.heap.size+2,4,none⟩=false:=bR.frozen 4
    have bR_f5 : World.frozen? wq ⟨wS.heap.size+2,5,none⟩=false:=bR.frozen 5
    have bR_l:=bR.lt
    have bQ_0 : World.cell? wq ⟨wS.heap.size+3,0,none⟩=some (.int .i64 0):=bQ.cell 0
    have bQ_1 : World.cell? wq ⟨wS.heap.size+3,1,none⟩=some (.int .i64 0):=bQ.cell 1
    have bQ_2 : World.cell? wq ⟨wS.heap.size+3,2,none⟩=some (.int .i64 0):=bQ.cell 2
    have bQ_f0 : World.frozen? wq ⟨wS.heap.size+3,0,none⟩=false:=bQ.frozen 0
    have bQ_f1 : World.frozen? wq ⟨wS.heap.size+3,1,none⟩=false:=bQ.frozen 1
    have bQ_f2 : World.frozen? wq ⟨wS.heap.size+3,2,none⟩=false:=bQ.frozen 2
    have bQ_l:=bQ.lt
    go_wp2
    rw [hres1.out]
    have hXe : ExtBut (fun b=>wS.heap.size≤b∧b < wS.heap.size+4) wq (World.setCell (World.setCell (World.setCell (World.setCell (World.setCell (World.setCell (World.setCell (World.setCell (World.setCell wq ⟨wS.heap.size+2,0,none⟩ (.slice none 0 0)) ⟨wS.heap.size+2,1,none⟩ (.int .i64 0)) ⟨wS.heap.size+2,2,none⟩ (.slice none 0 0)) ⟨wS.heap.size+2,3,none⟩ (.slice none 0 0)) ⟨wS.heap.size+2,4,none⟩ (.int .i64 0)) ⟨wS.heap.size+2,5,none⟩ (.int .i64 0)) ⟨wS.heap.size+3,0,none⟩ (.int .i64 0)) ⟨wS.heap.size+3,1,none⟩ (.int .i64 0)) ⟨wS.heap.size+3,2,none⟩ (.int .i64 0)):=by (repeat' with_reducible first | exact ExtBut.refl _ _ | refine ExtBut.dr ?_ | refine ExtBut.sc ?_ ?_ | fail) <;> dsimp only <;> omega
    refine bodyPost_ret (v := .tuple #[.agg #[.slice none 0 0,.int .i64 0,.slice none 0 0,.slice none 0 0,.int .i64 0,.int .i64 0],.agg #[.int .i64 0,.int .i64 0,.int .i64 0],.int .u8 why,.int .i64 e4]) (by simp [results,Tryz.f14,go_sem,bR_0,bR_1,bR_2,bR_3,bR_4,bR_5,bQ_0,bQ_1,bQ_2]) rfl ?_
    have hFe:=ExtBut.ext hF3 hXe (fun b h=>h.1)
    have hXxe:=ExtBut.trans hXx.out hXe
    exact ⟨_,rfl,FrMon.zero _ _,hFe⟩
   subst he4
   by_cases hw : why=0
   rotate_left
   ·skip
    have q4 : (why != 0)=true:=by simpa using hw
    have hres1:=hres.out;rw [if_neg (fun h=>hw h.2)] at hres1;replace hres1:=Lib.hid hres1
    clear hw
    obtain ⟨bM_0,bM_1,bM_2,bM_3,bM_4,bM_5,bM_l⟩:=bM.c6
    have bR_0 : World.cell? wq ⟨wS.heap.size+2,0,none⟩=some (.slice none 0 0):=bR.cell 0
    have bR_1 : World.cell? wq ⟨wS.heap.size+2,1,none⟩=some (.int .i64 0):=bR.cell 1
    have bR_2 : World.cell? wq ⟨wS.heap.size+2,2,none⟩=some (.slice none 0 0):=bR.cell 2
    have bR_3 : World.cell? wq ⟨wS.heap.size+2,3,none⟩=some (.slice none 0 0):=bR.cell 3
    have bR_4 : World.cell? wq ⟨wS.heap.size+2,4,none⟩=some (.int .i64 0):=bR.cell 4
    have bR_5 : World.cell? wq ⟨wS.heap.size+2,5,none⟩=some (.int .i64 0):=bR.cell 5
    have bR_f0 : World.frozen? wq ⟨wS.heap.size+2,0,none⟩=false:=bR.frozen 0
    have bR_f1 : World.frozen? wq ⟨wS.heap.size+2,1,none⟩=false:=bR.frozen 1
    have bR_f2 : World.frozen? wq ⟨wS.heap.size+2,2,none⟩=false:=bR.frozen 2
    have bR_f3 : World.frozen? wq ⟨wS.heap.size+2,3,none⟩=false:=bR.frozen 3
    have bR_f4 : World.frozen? wq ⟨wS.heap.size+2,4,none⟩=false:=bR.frozen 4
    have bR_f5 : World.frozen? wq ⟨wS.heap.size+2,5,none⟩=false:=bR.frozen 5
    have bR_l:=bR.lt
    have bQ_0 : World.cell? wq ⟨wS.heap.size+3,0,none⟩=some (.int .i64 0):=bQ.cell 0
    have bQ_1 : World.cell? wq ⟨wS.heap.size+3,1,none⟩=some (.int .i64 0):=bQ.cell 1
    have bQ_2 : World.cell? wq ⟨wS.heap.size+3,2,none⟩=some (.int .i64 0):=bQ.cell 2
    have bQ_f0 : World.frozen? wq ⟨wS.heap.size+3,0,none⟩=false:=bQ.frozen 0
    have bQ_f1 : World.frozen? wq ⟨wS.heap.size+3,1,none⟩=false:=bQ.frozen 1
    have bQ_f2 : World.frozen? wq ⟨wS.heap.size+3,2,none⟩=false:=bQ.frozen 2
    have bQ_l:=bQ.lt
    go_wp2
    rw [hres1.out]
    have hXe : ExtBut (fun b=>wS.heap.size≤b∧b < wS.heap.size+4) wq (World.setCell (World.setCell (World.setCell (World.setCell (World.setCell (World.setCell (World.setCell (World.setCell (World.setCell wq ⟨wS.heap.size+2,0,none⟩ (.slice none 0 0)) ⟨wS.heap.size+2,1,none⟩ (.int .i64 0)) ⟨wS.heap.size+2,2,none⟩ (.slice none 0 0)) ⟨wS.heap.size+2,3,none⟩ (.slice none 0 0)) ⟨wS.heap.size+2,4,none⟩ (.int .i64 0)) ⟨wS.heap.size+2,5,none⟩ (.int .i64 0)) ⟨wS.heap.size+3,0,none⟩ (.int .i64 0)) ⟨wS.heap.size+3,1,none⟩ (.int .i64 0)) ⟨wS.heap.size+3,2,none⟩ (.int .i64 0)):=by (repeat' with_reducible first | exact ExtBut.refl _ _ | refine ExtBut.dr ?_ | refine ExtBut.sc ?_ ?_ | fail) <;> dsimp only <;> omega
    refine bodyPost_ret (v := .tuple #[.agg #[.slice none 0 0,.int .i64 0,.slice none 0 0,.slice none 0 0,.int .i64 0,.int .i64 0],.agg #[.int .i64 0,.int .i64 0,.int .i64 0],.int .u8 why,.int .i64 0]) (by simp [results,Tryz.f14,go_sem,bR_0,bR_1,bR_2,bR_3,bR_4,bR_5,bQ_0,bQ_1,bQ_2]) rfl ?_
    have hFe:=ExtBut.ext hF3 hXe (fun b h=>h.1)
    have hXxe:=ExtBut.trans hXx.out hXe
    exact ⟨_,rfl,FrMon.zero _ _,hFe⟩
   subst hw
   have hres1:=hres.out;rw [if_pos ⟨rfl,rfl⟩] at hres1;replace hres1:=Lib.hid hres1;clear hres
   obtain ⟨bM_0,bM_1,bM_2,bM_3,bM_4,bM_5,bM_l⟩:=bM.c6
   obtain ⟨bP_0,bP_1,bP_2,bP_l⟩:=bP.c3
   go_wp2_with fail
   clear bM_0 bM_1 bM_2 bM_3 bM_4 bM_5 bM_l bP_0 bP_1 bP_2 bP_l
   have hXcs:=Lib.hid (by have:=bQ.lt;omega : wS.heap.size+4≤wq.heap.size)
   have hXx_hXc:=Lib.hid hXx.out.size
   refine (ref35_Twin (hA.out.ext hF3) (hK.out.ext hF3) (hR.out.ext hF3) hcl.out.1 hcl.out.2.1 hcl.out.2.2).mono ?_
   rintro e w4 ⟨TN,ca,ck,cr,vsA,vs,rfl,hC,hE4⟩
   replace bM:=bM.ext hE4
   replace bP:=bP.ext hE4
   replace bR:=bR.ext hE4
   replace bQ:=bQ.ext hE4
   replace bX:=bX.ext hE4
   replace hXx:=Lib.hid (ExtBut.trans hXx.out (ExtBut.of_ext hE4))
   have hF4:=Ext.trans hF3 hE4
   have hv:=(OM.read hC.al).form
   obtain ⟨ca,cac,rfl,-⟩:=hv
   have hv:=hC.stk.outer.sl.slice_form
   obtain ⟨ck,ckc,rfl,-⟩:=hv
   have hv:=hC.run.sl.slice_form
   obtain ⟨cr,crc,rfl,-⟩:=hv
   replace hC:=Lib.hid hC
   have hXc:=Lib.hid (ExtBut.refl (fun b=>wS.heap.size≤b∧b < wS.heap.size+4) w4)
   have hTl:=Lib.hid (hC.out.low.1);have hTs:=Lib.hid (hC.out.low.2)
   obtain ⟨bM_0,bM_1,bM_2,bM_3,bM_4,bM_5,bM_l⟩:=bM.c6
   go_upto_region 17 with fail
   clear bM_0 bM_1 bM_2 bM_3 bM_4 bM_5 bM_l
   have szbO:=Lib.hid (by have:=bQ.lt;omega : wS.heap.size+4≤w4.heap.size)
   have bO:=Box.new w4 28 #[.slice ca m.mem.al.length cac,.int .i64 m.mem.next,.slice ck m.stks.length ckc,.slice cr m.run.length crc,.int .i64 m.tag,.int .i64 m.call]
   have hzb0 : (World.alloc w4 (.cells #[.slice ca m.mem.al.length cac,.int .i64 m.mem.next,.slice ck m.stks.length ckc,.slice cr m.run.length crc,.int .i64 m.tag,.int .i64 m.call] 28)).heap.size=w4.heap.size+1:=by rw [World.size_alloc]
   have hx5 : Ext w4 (World.alloc w4 (.cells #[.slice ca m.mem.al.length cac,.int .i64 m.mem.next,.slice ck m.stks.length ckc,.slice cr m.run.length crc,.int .i64 m.tag,.int .i64 m.call] 28)):=(Ext.refl _).alloc _
   obtain ⟨w5b,hw5⟩ : ∃ z,World.alloc w4 (.cells #[.slice ca m.mem.al.length cac,.int .i64 m.mem.next,.slice ck m.stks.length ckc,.slice cr m.run.length crc,.int .i64 m.tag,.int .i64 m.call] 28)=z:=⟨_,rfl⟩
   rw [hw5] at bO hx5 hzb0 ⊢
   clear hw5
   replace bM:=bM.ext hx5
   replace bP:=bP.ext hx5
   replace bR:=bR.ext hx5
   replace bQ:=bQ.ext hx5
   replace bX:=bX.ext hx5
   replace hXx:=Lib.hid (ExtBut.trans hXx.out (ExtBut.of_ext hx5))
   replace hXc:=Lib.hid (ExtBut.trans hXc.out (ExtBut.of_ext hx5))
   have hF6:=Ext.trans hF4 hx5
   clear hzb0
   replace hXx:=Lib.hid (ExtBut.mono hXx.out (S':=(fun b=>(wS.heap.size≤b∧b < wS.heap.size+4)∨b=w4.heap.size)) (fun b _ h => .inl h))
   replace hXc:=Lib.hid (ExtBut.mono hXc.out (S':=(fun b=>(wS.heap.size≤b∧b < wS.heap.size+4)∨b=w4.heap.size)) (fun b _ h => .inl h))
   have hTl1:=hTl.out;have hTs1:=hTs.out
   obtain ⟨G,sv,e,hG1,hG2,hvs,-,c0,c1,hfr⟩:=OwnK.cell (hC.out.stk) hsth.out
   subst e
   have hhXc1:=hXcs.out;have hhXc2:=hXc.out.size
   have hGn : ¬ ((fun b=>(wS.heap.size≤b∧b < wS.heap.size+4)∨b=w4.heap.size)) G:=by intro h;rcases h with h | h <;> omega
   have d0:=hXc.out.cell c0 hGn
   have d1:=hXc.out.cell c1 hGn
   have hOo:=ExtBut.own (hC.out.stk).outer hXc.out (fun g e=>by have e' : some G=some g:=e;cases e';exact hGn)
   have hfr0:=hOo.frozen (i * 2);have hfr1:=hOo.frozen (i * 2+1)
   have hXlo:=hXl.out;have hXxt:=hXx_hXc.out
   have hGX : G≠BX:=by omega
   have hGW : G < w5b.heap.size:=by omega
   clear hOo;replace hvs:=Lib.hid hvs;replace hGn:=Lib.hid hGn
   clear c0 c1 hfr hhXc2
   obtain ⟨bX_0,bX_1,bX_l⟩:=bX.c2
   obtain ⟨bO_0,bO_1,bO_2,bO_3,bO_4,bO_5,bO_l⟩:=bO.c6
   go_upto_region 18 with fail
   clear bX_0 bX_1 bX_l bO_0 bO_1 bO_2 bO_3 bO_4 bO_5 bO_l
   have hXg : ExtBut (fun b=>b=G) w5b (World.setCell (World.setCell w5b ⟨G,i * 2,none⟩ (.int .i64 xn)) ⟨G,i * 2+1,none⟩ (.slice xa xcs.length xc)):=by repeat' first | exact ExtBut.refl _ _ | refine ExtBut.sc ?_ rfl | refine ExtBut.dr ?_
   have hTl1:=hTl.out;have hTs1:=hTs.out;have hXcs1:=hXcs.out
   have hOo:=ExtBut.own hC.out.stk.outer hXc.out (fun g e=>by have e' : some G=some g:=e;cases e';exact hGn.out)
   have hOg:=(hOo.set (i * 2) (.int .i64 xn)).set (i * 2+1) (.slice xa xcs.length xc)
   have hXT:=(hXc.out.mono (S':=fun b=>b < wS.heap.size+4∨b=w4.heap.size∨b=G) (fun b _ h=>by rcases h with h | h;exact .inl h.2;exact .inr (.inl h))).trans (hXg.mono (fun b _ h => .inr (.inr h)))
   have hXX:=(hXx.out.mono (S':=fun b=>b < wS.heap.size+4∨b=w4.heap.size∨b=G) (fun b _ h=>by rcases h with h | h;exact .inl h.2;exact .inr (.inl h))).trans (hXg.mono (fun b _ h => .inr (.inr h)))
   have hxW:=hxf.out.to (S':=(fun b=>wS.heap.size+4≤b∧b≠w4.heap.size)) hXX (fun b h1 hl h2=>by have:=h1.1;have:=h1.2;rcases h2 with h2 | h2 | h2 <;> omega) (fun b h1 hl=>⟨h1.1,by have:=h1.2;omega⟩)
   have hKf:=OwnK.setS (y:=⟨xn,xcs⟩) hC.out.stk hi2 hXT (fun b h1 h2 _=>⟨fun h=>by rcases h with h | h | h <;> omega,by omega,by omega⟩) ⟨by omega,by omega⟩ hOg hxW
   have hRf:=hC.out.runF.to (S':=(fun b=>wS.heap.size+4≤b∧b≠w4.heap.size)) hXT (fun b h1 hl h2=>by have h3:=hC.out.loR b h1;have h4:=(hC.out.run.lt h1).1;rcases h2 with h2 | h2 | h2 <;> omega) (fun b h1 hl=>⟨by have h4:=(hC.out.run.lt h1).1;omega,by omega⟩)
   have hAf:=hC.out.alF.to (S':=(fun b=>wS.heap.size+4≤b∧b≠w4.heap.size)) hXT (fun b h1 hl h2=>by have:=h1.1;have:=h1.2.1;rcases h2 with h2 | h2 | h2 <;> omega) (fun b h1 hl=>⟨by have:=h1.1;omega,by omega⟩)
   replace bM:=bM.but hXg (by omega);replace bP:=bP.but hXg (by omega);replace bR:=bR.but hXg (by omega);replace bO:=bO.but hXg (by omega);replace bQ:=bQ.but hXg (by omega)
   have hFg:=ExtBut.ext hF6 hXg (fun b h=>by have h' : b=G:=h;omega)
   replace hKf:=Lib.hid hKf
   replace hRf:=Lib.hid hRf
   replace hAf:=Lib.hid hAf
   obtain ⟨wE,hwE⟩ : ∃ z,(World.setCell (World.setCell w5b ⟨G,i * 2,none⟩ (.int .i64 xn)) ⟨G,i * 2+1,none⟩ (.slice xa xcs.length xc))=z:=⟨_,rfl⟩
   rw [hwE] at hKf hRf hAf bM bP bR bO bQ hFg ⊢
   clear hwE hXg hOg hXT hXX hxW hXc hXx hOo hGn d0 d1 hfr0 hfr1 hGW
   have hXz:=Lib.hid (ExtBut.refl (fun b=>(wS.heap.size≤b∧b < wS.heap.size+4)∨b=w4.heap.size) wE)
   have szbO1:=szbO.out
   obtain ⟨bM_0,bM_1,bM_2,bM_3,bM_4,bM_5,bM_l⟩:=bM.c6
   have bP_0 : World.cell? wE ⟨wS.heap.size+1,0,none⟩=some (.int .i64 pa):=bP.cell 0
   have bP_1 : World.cell? wE ⟨wS.heap.size+1,1,none⟩=some (.int .i64 po):=bP.cell 1
   have bP_2 : World.cell? wE ⟨wS.heap.size+1,2,none⟩=some (.int .i64 pt):=bP.cell 2
   have bP_f0 : World.frozen? wE ⟨wS.heap.size+1,0,none⟩=false:=bP.frozen 0
   have bP_f1 : World.frozen? wE ⟨wS.heap.size+1,1,none⟩=false:=bP.frozen 1
   have bP_f2 : World.frozen? wE ⟨wS.heap.size+1,2,none⟩=false:=bP.frozen 2
   have bP_l:=bP.lt
   go_upto_region 19 with fail
   clear bM_0 bM_1 bM_2 bM_3 bM_4 bM_5 bM_l bP_0 bP_1 bP_2 bP_f0 bP_f1 bP_f2 bP_l
   have hS7 : ExtBut (fun b=>(wS.heap.size≤b∧b < wS.heap.size+4)∨b=w4.heap.size) wE (World.setCell wE ⟨wS.heap.size+1,2,none⟩ (.int .i64 m.tag)):=((ExtBut.setCell wE ⟨wS.heap.size+1,2,none⟩ (.int .i64 m.tag)).mono (S':=(fun b=>(wS.heap.size≤b∧b < wS.heap.size+4)∨b=w4.heap.size)) (fun b _ h=>by have h' : b=wS.heap.size+1:=h;omega))
   replace bM:=(Box.other bM (p:=⟨wS.heap.size+1,2,none⟩) (by simp) (.int .i64 m.tag))
   replace bP:=(Box.setL bP 2 (.int .i64 m.tag))
   simp only [List.set_cons_zero,List.set_cons_succ] at bP
   replace bR:=(Box.other bR (p:=⟨wS.heap.size+1,2,none⟩) (by simp) (.int .i64 m.tag))
   replace bQ:=(Box.other bQ (p:=⟨wS.heap.size+1,2,none⟩) (by simp) (.int .i64 m.tag))
   replace bO:=(Box.other bO (p:=⟨wS.heap.size+1,2,none⟩) (by have:=szbO.out;show wS.heap.size+1≠w4.heap.size;omega) (.int .i64 m.tag))
   obtain ⟨w7s,hw7⟩ : ∃ z,(World.setCell wE ⟨wS.heap.size+1,2,none⟩ (.int .i64 m.tag))=z:=⟨_,rfl⟩
   rw [hw7] at hS7 bM bP bR bQ bO ⊢
   clear hw7
   have hF7:=ExtBut.ext hFg hS7 (fun b h=>by have h0:=szbO.out;rcases h with h | h <;> omega)
   replace hXz:=Lib.hid (ExtBut.trans hXz.out hS7)
   clear hS7
   have bO_0 : World.cell? w7s ⟨w4.heap.size,0,none⟩=some (.slice ca m.mem.al.length cac):=bO.cell 0
   have bO_1 : World.cell? w7s ⟨w4.heap.size,1,none⟩=some (.int .i64 m.mem.next):=bO.cell 1
   have bO_2 : World.cell? w7s ⟨w4.heap.size,2,none⟩=some (.slice (some ⟨G,0,none⟩) m.stks.length ckc):=bO.cell 2
   have bO_3 : World.cell? w7s ⟨w4.heap.size,3,none⟩=some (.slice cr m.run.length crc):=bO.cell 3
   have bO_4 : World.cell? w7s ⟨w4.heap.size,4,none⟩=some (.int .i64 m.tag):=bO.cell 4
   have bO_5 : World.cell? w7s ⟨w4.heap.size,5,none⟩=some (.int .i64 m.call):=bO.cell 5
   have bO_f0 : World.frozen? w7s ⟨w4.heap.size,0,none⟩=false:=bO.frozen 0
   have bO_f1 : World.frozen? w7s ⟨w4.heap.size,1,none⟩=false:=bO.frozen 1
   have bO_f2 : World.frozen? w7s ⟨w4.heap.size,2,none⟩=false:=bO.frozen 2
   have bO_f3 : World.frozen? w7s ⟨w4.heap.size,3,none⟩=false:=bO.frozen 3
   have bO_f4 : World.frozen? w7s ⟨w4.heap.size,4,none⟩=false:=bO.frozen 4
   have bO_f5 : World.frozen? w7s ⟨w4.heap.size,5,none⟩=false:=bO.frozen 5
   have bO_l:=bO.lt
   go_upto_region 20 with fail
   clear bO_0 bO_1 bO_2 bO_3 bO_4 bO_5 bO_f0 bO_f1 bO_f2 bO_f3 bO_f4 bO_f5 bO_l
   have hS8 : ExtBut (fun b=>(wS.heap.size≤b∧b < wS.heap.size+4)∨b=w4.heap.size) w7s (World.setCell w7s ⟨w4.heap.size,4,none⟩ (.int .i64 (m.tag+1))):=((ExtBut.setCell w7s ⟨w4.heap.size,4,none⟩ (.int .i64 (m.tag+1))).mono (S':=(fun b=>(wS.heap.size≤b∧b < wS.heap.size+4)∨b=w4.heap.size)) (fun b _ h=>by have h' : b=w4.heap.size:=h;omega))
   replace bM:=(Box.other bM (p:=⟨w4.heap.size,4,none⟩) (by have:=szbO.out;show w4.heap.size≠wS.heap.size;omega) (.int .i64 (m.tag+1)))
   replace bP:=(Box.other bP (p:=⟨w4.heap.size,4,none⟩) (by have:=szbO.out;show w4.heap.size≠wS.heap.size+1;omega) (.int .i64 (m.tag+1)))
   replace bR:=(Box.other bR (p:=⟨w4.heap.size,4,none⟩) (by have:=szbO.out;show w4.heap.size≠wS.heap.size+2;omega) (.int .i64 (m.tag+1)))
   replace bQ:=(Box.other bQ (p:=⟨w4.heap.size,4,none⟩) (by have:=szbO.out;show w4.heap.size≠wS.heap.size+3;omega) (.int .i64 (m.tag+1)))
   replace bO:=(Box.setL bO 4 (.int .i64 (m.tag+1)))
   simp only [List.set_cons_zero,List.set_cons_succ] at bO
   obtain ⟨w8s,hw8⟩ : ∃ z,(World.setCell w7s ⟨w4.heap.size,4,none⟩ (.int .i64 (m.tag+1)))=z:=⟨_,rfl⟩
   rw [hw8] at hS8 bM bP bR bQ bO ⊢
   clear hw8
   have hF8:=ExtBut.ext hF7 hS8 (fun b h=>by have h0:=szbO.out;rcases h with h | h <;> omega)
   replace hXz:=Lib.hid (ExtBut.trans hXz.out hS8)
   clear hS8
   obtain ⟨bP_0,bP_1,bP_2,bP_l⟩:=bP.c3
   have bR_0 : World.cell? w8s ⟨wS.heap.size+2,0,none⟩=some (.slice none 0 0):=bR.cell 0
   have bR_1 : World.cell? w8s ⟨wS.heap.size+2,1,none⟩=some (.int .i64 0):=bR.cell 1
   have bR_2 : World.cell? w8s ⟨wS.heap.size+2,2,none⟩=some (.slice none 0 0):=bR.cell 2
   have bR_3 : World.cell? w8s ⟨wS.heap.size+2,3,none⟩=some (.slice none 0 0):=bR.cell 3
   have bR_4 : World.cell? w8s ⟨wS.heap.size+2,4,none⟩=some (.int .i64 0):=bR.cell 4
   have bR_5 : World.cell? w8s ⟨wS.heap.size+2,5,none⟩=some (.int .i64 0):=bR.cell 5
   have bR_f0 : World.frozen? w8s ⟨wS.heap.size+2,0,none⟩=false:=bR.frozen 0
   have bR_f1 : World.frozen? w8s ⟨wS.heap.size+2,1,none⟩=false:=bR.frozen 1
   have bR_f2 : World.frozen? w8s ⟨wS.heap.size+2,2,none⟩=false:=bR.frozen 2
   have bR_f3 : World.frozen? w8s ⟨wS.heap.size+2,3,none⟩=false:=bR.frozen 3
   have bR_f4 : World.frozen? w8s ⟨wS.heap.size+2,4,none⟩=false:=bR.frozen 4
   have bR_f5 : World.frozen? w8s ⟨wS.heap.size+2,5,none⟩=false:=bR.frozen 5
   have bR_l:=bR.lt
   have bQ_0 : World.cell? w8s ⟨wS.heap.size+3,0,none⟩=some (.int .i64 0):=bQ.cell 0
   have bQ_1 : World.cell? w8s ⟨wS.heap.size+3,1,none⟩=some (.int .i64 0):=bQ.cell 1
   have bQ_2 : World.cell? w8s ⟨wS.heap.size+3,2,none⟩=some (.int .i64 0):=bQ.cell 2
   have bQ_f0 : World.frozen? w8s ⟨wS.heap.size+3,0,none⟩=false:=bQ.frozen 0
   have bQ_f1 : World.frozen? w8s ⟨wS.heap.size+3,1,none⟩=false:=bQ.frozen 1
   have bQ_f2 : World.frozen? w8s ⟨wS.heap.size+3,2,none⟩=false:=bQ.frozen 2
   have bQ_l:=bQ.lt
   obtain ⟨bO_0,bO_1,bO_2,bO_3,bO_4,bO_5,bO_l⟩:=bO.c6
   have ne1 : wS.heap.size+1≠w4.heap.size:=by have:=szbO.out;omega
   have en1 : w4.heap.size≠wS.heap.size+1:=by have:=szbO.out;omega
   have ne2 : wS.heap.size+2≠w4.heap.size:=by have:=szbO.out;omega
   have en2 : w4.heap.size≠wS.heap.size+2:=by have:=szbO.out;omega
   have ne3 : wS.heap.size+3≠w4.heap.size:=by have:=szbO.out;omega
   have en3 : w4.heap.size≠wS.heap.size+3:=by have:=szbO.out;omega
   go_region
   go_wp2
   rw [hres1.out]
   have hXe : ExtBut (fun b=>(wS.heap.size≤b∧b < wS.heap.size+4)∨b=w4.heap.size) w8s (World.drew (World.setCell (World.setCell (World.setCell (World.setCell (World.setCell (World.setCell (World.setCell (World.setCell (World.setCell w8s ⟨wS.heap.size+2,0,none⟩ (.slice ca m.mem.al.length cac)) ⟨wS.heap.size+2,1,none⟩ (.int .i64 m.mem.next)) ⟨wS.heap.size+2,2,none⟩ (.slice (some ⟨G,0,none⟩) m.stks.length ckc)) ⟨wS.heap.size+2,3,none⟩ (.slice cr m.run.length crc)) ⟨wS.heap.size+2,4,none⟩ (.int .i64 (m.tag+1))) ⟨wS.heap.size+2,5,none⟩ (.int .i64 m.call)) ⟨wS.heap.size+3,0,none⟩ (.int .i64 pa)) ⟨wS.heap.size+3,1,none⟩ (.int .i64 po)) ⟨wS.heap.size+3,2,none⟩ (.int .i64 m.tag))):=(ExtBut.trans (ExtBut.trans (ExtBut.trans (ExtBut.trans (ExtBut.trans (ExtBut.trans (ExtBut.trans (ExtBut.trans (ExtBut.trans ((ExtBut.setCell w8s ⟨wS.heap.size+2,0,none⟩ (.slice ca m.mem.al.length cac)).mono (S':=(fun b=>(wS.heap.size≤b∧b < wS.heap.size+4)∨b=w4.heap.size)) (fun b _ h=>by have h' : b=wS.heap.size+2:=h;omega)) ((ExtBut.setCell (World.setCell w8s ⟨wS.heap.size+2,0,none⟩ (.slice ca m.mem.al.length cac)) ⟨wS.heap.size+2,1,none⟩ (.int .i64 m.mem.next)).mono (S':=(fun b=>(wS.heap.size≤b∧b < wS.heap.size+4)∨b=w4.heap.size)) (fun b _ h=>by have h' : b=wS.heap.size+2:=h;omega))) ((ExtBut.setCell (World.setCell (World.setCell w8s ⟨wS.heap.size+2,0,none⟩ (.slice ca m.mem.al.length cac)) ⟨wS.heap.size+2,1,none⟩ (.int .i64 m.mem.next)) ⟨wS.heap.size+2,2,none⟩ (.slice (some ⟨G,0,none⟩) m.stks.length ckc)).mono (S':=(fun b=>(wS.heap.size≤b∧b < wS.heap.size+4)∨b=w4.heap.size)) (fun b _ h=>by have h' : b=wS.heap.size+2:=h;omega))) ((ExtBut.setCell (World.setCell (World.setCell (World.setCell w8s ⟨wS.heap.size+2,0,none⟩ (.slice ca m.mem.al.length cac)) ⟨wS.heap.size+2,1,none⟩ (.int .i64 m.mem.next)) ⟨wS.heap.size+2,2,none⟩ (.slice (some ⟨G,0,none⟩) m.stks.length ckc)) ⟨wS.heap.size+2,3,none⟩ (.slice cr m.run.length crc)).mono (S':=(fun b=>(wS.heap.size≤b∧b < wS.heap.size+4)∨b=w4.heap.size)) (fun b _ h=>by have h' : b=wS.heap.size+2:=h;omega))) ((ExtBut.setCell (World.setCell (World.setCell (World.setCell (World.setCell w8s ⟨wS.heap.size+2,0,none⟩ (.slice ca m.mem.al.length cac)) ⟨wS.heap.size+2,1,none⟩ (.int .i64 m.mem.next)) ⟨wS.heap.size+2,2,none⟩ (.slice (some ⟨G,0,none⟩) m.stks.length ckc)) ⟨wS.heap.size+2,3,none⟩ (.slice cr m.run.length crc)) ⟨wS.heap.size+2,4,none⟩ (.int .i64 (m.tag+1))).mono (S':=(fun b=>(wS.heap.size≤b∧b < wS.heap.size+4)∨b=w4.heap.size)) (fun b _ h=>by have h' : b=wS.heap.size+2:=h;omega))) ((ExtBut.setCell (World.setCell (World.setCell (World.setCell (World.setCell (World.setCell w8s ⟨wS.heap.size+2,0,none⟩ (.slice ca m.mem.al.length cac)) ⟨wS.heap.size+2,1,none⟩ (.int .i64 m.mem.next)) ⟨wS.heap.size+2,2,none⟩ (.slice (some ⟨G,0,none⟩) m.stks.length ckc)) ⟨wS.heap.size+2,3,none⟩ (.slice cr m.run.length crc)) ⟨wS.heap.size+2,4,none⟩ (.int .i64 (m.tag+1))) ⟨wS.heap.size+2,5,none⟩ (.int .i64 m.call)).mono (S':=(fun b=>(wS.heap.size≤b∧b < wS.heap.size+4)∨b=w4.heap.size)) (fun b _ h=>by have h' : b=wS.heap.size+2:=h;omega))) ((ExtBut.setCell (World.setCell (World.setCell (World.setCell (World.setCell (World.setCell (World.setCell w8s ⟨wS.heap.size+2,0,none⟩ (.slice ca m.mem.al.length cac)) ⟨wS.heap.size+2,1,none⟩ (.int .i64 m.mem.next)) ⟨wS.heap.size+2,2,none⟩ (.slice (some ⟨G,0,none⟩) m.stks.length ckc)) ⟨wS.heap.size+2,3,none⟩ (.slice cr m.run.length crc)) ⟨wS.heap.size+2,4,none⟩ (.int .i64 (m.tag+1))) ⟨wS.heap.size+2,5,none⟩ (.int .i64 m.call)) ⟨wS.heap.size+3,0,none⟩ (.int .i64 pa)).mono (S':=(fun b=>(wS.heap.size≤b∧b < wS.heap.size+4)∨b=w4.heap.size)) (fun b _ h=>by have h' : b=wS.heap.size+3:=h;omega))) ((ExtBut.setCell (World.setCell (World.setCell (World.setCell (World.setCell (World.setCell (World.setCell (World.setCell w8s ⟨wS.heap.size+2,0,none⟩ (.slice ca m.mem.al.length cac)) ⟨wS.heap.size+2,1,none⟩ (.int .i64 m.mem.next)) ⟨wS.heap.size+2,2,none⟩ (.slice (some ⟨G,0,none⟩) m.stks.length ckc)) ⟨wS.heap.size+2,3,none⟩ (.slice cr m.run.length crc)) ⟨wS.heap.size+2,4,none⟩ (.int .i64 (m.tag+1))) ⟨wS.heap.size+2,5,none⟩ (.int .i64 m.call)) ⟨wS.heap.size+3,0,none⟩ (.int .i64 pa)) ⟨wS.heap.size+3,1,none⟩ (.int .i64 po)).mono (S':=(fun b=>(wS.heap.size≤b∧b < wS.heap.size+4)∨b=w4.heap.size)) (fun b _ h=>by have h' : b=wS.heap.size+3:=h;omega))) ((ExtBut.setCell (World.setCell (World.setCell (World.setCell (World.setCell (World.setCell (World.setCell (World.setCell (World.setCell w8s ⟨wS.heap.size+2,0,none⟩ (.slice ca m.mem.al.length cac)) ⟨wS.heap.size+2,1,none⟩ (.int .i64 m.mem.next)) ⟨wS.heap.size+2,2,none⟩ (.slice (some ⟨G,0,none⟩) m.stks.length ckc)) ⟨wS.heap.size+2,3,none⟩ (.slice cr m.run.length crc)) ⟨wS.heap.size+2,4,none⟩ (.int .i64 (m.tag+1))) ⟨wS.heap.size+2,5,none⟩ (.int .i64 m.call)) ⟨wS.heap.size+3,0,none⟩ (.int .i64 pa)) ⟨wS.heap.size+3,1,none⟩ (.int .i64 po)) ⟨wS.heap.size+3,2,none⟩ (.int .i64 m.tag)).mono (S':=(fun b=>(wS.heap.size≤b∧b < wS.heap.size+4)∨b=w4.heap.size)) (fun b _ h=>by have h' : b=wS.heap.size+3:=h;omega))) (ExtBut.of_ext (Ext.refl _).drew))
   refine bodyPost_ret (v := .tuple #[.agg #[.slice ca m.mem.al.length cac,.int .i64 m.mem.next,.slice (some ⟨G,0,none⟩) m.stks.length ckc,.slice cr m.run.length crc,.int .i64 (m.tag+1),.int .i64 m.call],.agg #[.int .i64 pa,.int .i64 po,.int .i64 m.tag],.int .u8 0,.int .i64 0]) (by simp [results,Tryz.f14,go_sem,bR_0,bR_1,bR_2,bR_3,bR_4,bR_5,bQ_0,bQ_1,bQ_2]) rfl ?_
   have hFe:=ExtBut.ext hF8 hXe (fun b h=>by have h0:=szbO.out;rcases h with h | h <;> omega)
   have hXze:=ExtBut.trans hXz.out hXe
   have hKt:=(hKf.out.to (S':=fun b=>wS.heap.size≤b) hXze (fun b h1 _ h2=>by rcases h2 with h2 | h2 <;> omega) (fun b h1 _=>by omega))
   exact ⟨_,rfl,FrMon.of_fs (m:=⟨m.mem,m.stks.set i ⟨xn,xcs⟩,m.run,m.tag+1,m.call⟩) (hAf.out.to (S':=fun b=>wS.heap.size≤b) hXze (fun b h1 _ h2=>by rcases h2 with h2 | h2 <;> omega) (fun b h1 _=>by omega)) hKt (hRf.out.to (S':=fun b=>wS.heap.size≤b) hXze (fun b h1 _ h2=>by rcases h2 with h2 | h2 <;> omega) (fun b h1 _=>by omega)),hFe⟩
end Go.Proofs.YtnplphcnagooeaaGreatDoor
