/- Several texts in one: MonX. -/
import Derived.Test.YtoanoodfacmieaaDoorQ18
import Derived.Test.YtoanoodfacmieaaDoorQ20
import Derived.Deep.DeepCutAuto
/- Contracts: monitor.Retag. (printed by gen/mon35k.py) -/
namespace Go.Proofs.YtoanoodfacmieaaDoor
set_option maxRecDepth 100000
open Go.RowKit
set_option maxRecDepth 100000 in
set_option maxHeartbeats 6400000 in
theorem monitor_Retag {m : Mon} {sa ss sr : Value} {wS : World} (pa po pt n : Int) {kind : Int} (call : Int) (hp : Perms wS) (hkb : u8B kind) (hA : Als wS sa m.mem.al) (hn : i64B m.mem.next) (hK : Kts wS ss m.stks) (hR : Nts wS sr m.run) :
  Calls Tryd.prog 9 #[.agg #[sa,.int .i64 m.mem.next,ss,sr,.int .i64 m.tag,.int .i64 m.call],.agg #[.int .i64 pa,.int .i64 po,.int .i64 pt],.int .i64 n,.int .u8 kind,.int .i64 call] wS (RetF wS (fun v => .tuple #[v,(retagM m ⟨pa,po,pt⟩ n kind call).2.1.val,.int .u8 (retagM m ⟨pa,po,pt⟩ n kind call).2.2.1,.int .i64 (retagM m ⟨pa,po,pt⟩ n kind call).2.2.2]) (retagM m ⟨pa,po,pt⟩ n kind call).1):=by
 replace hp:=Lib.hid hp;replace hkb:=Lib.hid hkb
 obtain ⟨aa,ac,rfl,hac,hacm,-⟩:=hA.form
 obtain ⟨ka,kc,rfl,hkc,hkcm,-⟩:=hK.form
 obtain ⟨ra,rc,rfl,hrc,hrcm,-⟩:=hR.form
 unfold maxLen at hacm hkcm hrcm
 have hE0 : Ext wS (World.alloc (World.alloc (World.alloc (World.alloc wS (.cells #[.slice aa m.mem.al.length ac,.int .i64 m.mem.next,.slice ka m.stks.length kc,.slice ra m.run.length rc,.int .i64 m.tag,.int .i64 m.call] 35)) (.cells #[.int .i64 pa,.int .i64 po,.int .i64 pt] 26)) (.cells #[.slice none 0 0,.int .i64 0,.slice none 0 0,.slice none 0 0,.int .i64 0,.int .i64 0] 35)) (.cells #[.int .i64 0,.int .i64 0,.int .i64 0] 26)):=by repeat (first | exact Ext.refl _ | refine Ext.alloc ?_ _)
 have bM : Box (World.alloc (World.alloc (World.alloc (World.alloc wS (.cells #[.slice aa m.mem.al.length ac,.int .i64 m.mem.next,.slice ka m.stks.length kc,.slice ra m.run.length rc,.int .i64 m.tag,.int .i64 m.call] 35)) (.cells #[.int .i64 pa,.int .i64 po,.int .i64 pt] 26)) (.cells #[.slice none 0 0,.int .i64 0,.slice none 0 0,.slice none 0 0,.int .i64 0,.int .i64 0] 35)) (.cells #[.int .i64 0,.int .i64 0,.int .i64 0] 26)) (wS.heap.size) 35 #[.slice aa m.mem.al.length ac,.int .i64 m.mem.next,.slice ka m.stks.length kc,.slice ra m.run.length rc,.int .i64 m.tag,.int .i64 m.call]:=(by
  have h:=Box.new wS 35 #[.slice aa m.mem.al.length ac,.int .i64 m.mem.next,.slice ka m.stks.length kc,.slice ra m.run.length rc,.int .i64 m.tag,.int .i64 m.call]
  replace h:=Box.ext h ((Ext.refl _).alloc (.cells #[.int .i64 pa,.int .i64 po,.int .i64 pt] 26))
  replace h:=Box.ext h ((Ext.refl _).alloc (.cells #[.slice none 0 0,.int .i64 0,.slice none 0 0,.slice none 0 0,.int .i64 0,.int .i64 0] 35))
  replace h:=Box.ext h ((Ext.refl _).alloc (.cells #[.int .i64 0,.int .i64 0,.int .i64 0] 26))
  exact h)
 have bP : Box (World.alloc (World.alloc (World.alloc (World.alloc wS (.cells #[.slice aa m.mem.al.length ac,.int .i64 m.mem.next,.slice ka m.stks.length kc,.slice ra m.run.length rc,.int .i64 m.tag,.int .i64 m.call] 35)) (.cells #[.int .i64 pa,.int .i64 po,.int .i64 pt] 26)) (.cells #[.slice none 0 0,.int .i64 0,.slice none 0 0,.slice none 0 0,.int .i64 0,.int .i64 0] 35)) (.cells #[.int .i64 0,.int .i64 0,.int .i64 0] 26)) (wS.heap.size+1) 26 #[.int .i64 pa,.int .i64 po,.int .i64 pt]:=(by
  have h:=Box.new (World.alloc wS (.cells #[.slice aa m.mem.al.length ac,.int .i64 m.mem.next,.slice ka m.stks.length kc,.slice ra m.run.length rc,.int .i64 m.tag,.int .i64 m.call] 35)) 26 #[.int .i64 pa,.int .i64 po,.int .i64 pt]
  simp only [World.size_alloc] at h
  replace h:=Box.ext h ((Ext.refl _).alloc (.cells #[.slice none 0 0,.int .i64 0,.slice none 0 0,.slice none 0 0,.int .i64 0,.int .i64 0] 35))
  replace h:=Box.ext h ((Ext.refl _).alloc (.cells #[.int .i64 0,.int .i64 0,.int .i64 0] 26))
  exact h)
 have bR : Box (World.alloc (World.alloc (World.alloc (World.alloc wS (.cells #[.slice aa m.mem.al.length ac,.int .i64 m.mem.next,.slice ka m.stks.length kc,.slice ra m.run.length rc,.int .i64 m.tag,.int .i64 m.call] 35)) (.cells #[.int .i64 pa,.int .i64 po,.int .i64 pt] 26)) (.cells #[.slice none 0 0,.int .i64 0,.slice none 0 0,.slice none 0 0,.int .i64 0,.int .i64 0] 35)) (.cells #[.int .i64 0,.int .i64 0,.int .i64 0] 26)) (wS.heap.size+2) 35 #[.slice none 0 0,.int .i64 0,.slice none 0 0,.slice none 0 0,.int .i64 0,.int .i64 0]:=(by
  have h:=Box.new (World.alloc (World.alloc wS (.cells #[.slice aa m.mem.al.length ac,.int .i64 m.mem.next,.slice ka m.stks.length kc,.slice ra m.run.length rc,.int .i64 m.tag,.int .i64 m.call] 35)) (.cells #[.int .i64 pa,.int .i64 po,.int .i64 pt] 26)) 35 #[.slice none 0 0,.int .i64 0,.slice none 0 0,.slice none 0 0,.int .i64 0,.int .i64 0]
  simp only [World.size_alloc] at h
  replace h:=Box.ext h ((Ext.refl _).alloc (.cells #[.int .i64 0,.int .i64 0,.int .i64 0] 26))
  exact h)
 have bQ : Box (World.alloc (World.alloc (World.alloc (World.alloc wS (.cells #[.slice aa m.mem.al.length ac,.int .i64 m.mem.next,.slice ka m.stks.length kc,.slice ra m.run.length rc,.int .i64 m.tag,.int .i64 m.call] 35)) (.cells #[.int .i64 pa,.int .i64 po,.int .i64 pt] 26)) (.cells #[.slice none 0 0,.int .i64 0,.slice none 0 0,.slice none 0 0,.int .i64 0,.int .i64 0] 35)) (.cells #[.int .i64 0,.int .i64 0,.int .i64 0] 26)) (wS.heap.size+3) 26 #[.int .i64 0,.int .i64 0,.int .i64 0]:=(by
  have h:=Box.new (World.alloc (World.alloc (World.alloc wS (.cells #[.slice aa m.mem.al.length ac,.int .i64 m.mem.next,.slice ka m.stks.length kc,.slice ra m.run.length rc,.int .i64 m.tag,.int .i64 m.call] 35)) (.cells #[.int .i64 pa,.int .i64 po,.int .i64 pt] 26)) (.cells #[.slice none 0 0,.int .i64 0,.slice none 0 0,.slice none 0 0,.int .i64 0,.int .i64 0] 35)) 26 #[.int .i64 0,.int .i64 0,.int .i64 0]
  simp only [World.size_alloc] at h
  exact h)
 obtain ⟨w0,hw0⟩ : ∃ z,(World.alloc (World.alloc (World.alloc (World.alloc wS (.cells #[.slice aa m.mem.al.length ac,.int .i64 m.mem.next,.slice ka m.stks.length kc,.slice ra m.run.length rc,.int .i64 m.tag,.int .i64 m.call] 35)) (.cells #[.int .i64 pa,.int .i64 po,.int .i64 pt] 26)) (.cells #[.slice none 0 0,.int .i64 0,.slice none 0 0,.slice none 0 0,.int .i64 0,.int .i64 0] 35)) (.cells #[.int .i64 0,.int .i64 0,.int .i64 0] 26))=z:=⟨_,rfl⟩
 rw [hw0] at hE0 bM bP bR bQ
 have hs0 : w0.heap.size=wS.heap.size+4:=by rw [← hw0];simp
 replace hs0:=Lib.hid hs0
 replace hA:=Lib.hid hA
 replace hK:=Lib.hid hK
 replace hR:=Lib.hid hR
 replace hn:=Lib.hid hn
 go_enter Tryd.func9,Tryd.ntmps9
 obtain ⟨bM_0,bM_1,bM_2,bM_3,bM_4,bM_5,bM_l⟩:=bM.c6
 go_wp2_with fail
 clear bM_0 bM_1 bM_2 bM_3 bM_4 bM_5 bM_l
 refine (mon_Check' (hA.out.ext hE0) hn.out (hK.out.ext hE0) (hR.out.ext hE0)).mono ?_
 rintro e w1 ⟨rfl,hE1⟩
 replace bM:=bM.ext hE1
 replace bP:=bP.ext hE1
 replace bR:=bR.ext hE1
 replace bQ:=bQ.ext hE1
 have hF1:=Ext.trans hE0 hE1
 clear hw0
 cases hok : okMon m
 ·skip
  rw [monErr_not hok]
  have hres:=Lib.hid (retagM_bad (p:=⟨pa,po,pt⟩) (n:=n) (kind:=kind) (call:=call) hok)
  clear hok
  obtain ⟨bM_0,bM_1,bM_2,bM_3,bM_4,bM_5,bM_l⟩:=bM.c6
  have bR_0 : World.cell? w1 ⟨wS.heap.size+2,0,none⟩=some (.slice none 0 0):=bR.cell 0
  have bR_1 : World.cell? w1 ⟨wS.heap.size+2,1,none⟩=some (.int .i64 0):=bR.cell 1
  have bR_2 : World.cell? w1 ⟨wS.heap.size+2,2,none⟩=some (.slice none 0 0):=bR.cell 2
  have bR_3 : World.cell? w1 ⟨wS.heap.size+2,3,none⟩=some (.slice none 0 0):=bR.cell 3
  have bR_4 : World.cell? w1 ⟨wS.heap.size+2,4,none⟩=some (.int .i64 0):=bR.cell 4
  have bR_5 : World.cell? w1 ⟨wS.heap.size+2,5,none⟩=some (.int .i64 0):=bR.cell 5
  have bR_f0 : World.frozen? w1 ⟨wS.heap.size+2,0,none⟩=false:=bR.frozen 0
  have bR_f1 : World.frozen? w1 ⟨wS.heap.size+2,1,none⟩=false:=bR.frozen 1
  have bR_f2 : World.frozen? w1 ⟨wS.heap.size+2,2,none⟩=false:=bR.frozen 2
  have bR_f3 : World.frozen? w1 ⟨wS.heap.size+2,3,none⟩=false:=bR.frozen 3
  have bR_f4 : World.frozen? w1 ⟨wS.heap.size+2,4,none⟩=false:=bR.frozen 4
  have bR_f5 : World.frozen? w1 ⟨wS.heap.size+2,5,none⟩=false:=bR.frozen 5
  have bR_l:=bR.lt
  have bQ_0 : World.cell? w1 ⟨wS.heap.size+3,0,none⟩=some (.int .i64 0):=bQ.cell 0
  have bQ_1 : World.cell? w1 ⟨wS.heap.size+3,1,none⟩=some (.int .i64 0):=bQ.cell 1
  have bQ_2 : World.cell? w1 ⟨wS.heap.size+3,2,none⟩=some (.int .i64 0):=bQ.cell 2
  have bQ_f0 : World.frozen? w1 ⟨wS.heap.size+3,0,none⟩=false:=bQ.frozen 0
  have bQ_f1 : World.frozen? w1 ⟨wS.heap.size+3,1,none⟩=false:=bQ.frozen 1
  have bQ_f2 : World.frozen? w1 ⟨wS.heap.size+3,2,none⟩=false:=bQ.frozen 2
  have bQ_l:=bQ.lt
  go_wp2
  rw [hres.out]
  have hXe : ExtBut (fun b=>wS.heap.size≤b∧b < wS.heap.size+4) w1 (World.setCell (World.setCell (World.setCell (World.setCell (World.setCell (World.setCell (World.setCell (World.setCell (World.setCell w1 ⟨wS.heap.size+2,0,none⟩ (.slice none 0 0)) ⟨wS.heap.size+2,1,none⟩ (.int .i64 0)) ⟨wS.heap.size+2,2,none⟩ (.slice none 0 0)) ⟨wS.heap.size+2,3,none⟩ (.slice none 0 0)) ⟨wS.heap.size+2,4,none⟩ (.int .i64 0)) ⟨wS.heap.size+2,5,none⟩ (.int .i64 0)) ⟨wS.heap.size+3,0,none⟩ (.int .i64 0)) ⟨wS.heap.size+3,1,none⟩ (.int .i64 0)) ⟨wS.heap.size+3,2,none⟩ (.int .i64 0)):=by (repeat' with_reducible first | exact ExtBut.refl _ _ | refine ExtBut.dr ?_ | refine ExtBut.sc ?_ ?_ | fail) <;> dsimp only <;> omega
  refine bodyPost_ret (v := .tuple #[.agg #[.slice none 0 0,.int .i64 0,.slice none 0 0,.slice none 0 0,.int .i64 0,.int .i64 0],.agg #[.int .i64 0,.int .i64 0,.int .i64 0],.int .u8 0,.int .i64 8]) (by simp [results,Tryd.f9,go_sem,bR_0,bR_1,bR_2,bR_3,bR_4,bR_5,bQ_0,bQ_1,bQ_2]) rfl ?_
  have hFe:=ExtBut.ext hF1 hXe (fun b h=>h.1)
  exact ⟨_,rfl,FrMon.zero _ _,hFe⟩
 rw [monErr_of hok]
 have hMok:=MonOk.of hok;have hcl:=Lib.hid hMok.small;have htb:=Lib.hid hMok.tag
 obtain ⟨⟨ll,un,er⟩,hld⟩ : ∃ z,loadR m.mem ⟨pa,po,pt⟩ n=z:=⟨_,rfl⟩
 have hldh:=Lib.hid hld;have hokh:=Lib.hid hok;have hMokh:=Lib.hid hMok
 clear hok hMok hld
 go_upto_region 4 with fail
 obtain ⟨gd,hgd⟩ : ∃ b,(kindOk kind && (decide (call=0) || hasR m.run call))=b:=⟨_,rfl⟩
 have hgdh:=Lib.hid hgd
 go_cut [40] from 27 to 40 (fun s40 wx=>s40 = .bool (!gd)∧wx=w1)
 case first =>
  clear hgdh
  have m3 : World.cell? w1 ⟨wS.heap.size,3,none⟩=some (.slice ra m.run.length rc):=bM.cell 3
  have hl9:=bM.lt
  replace hgd:=Lib.hid hgd
  cases hk : kindOk kind
  ·skip
   have hke : kindErr kind=2:=by simp [kindErr,hk]
   go_wp2_with fail
   refine (grant_Check w1 hkb.out).mono ?_
   rintro e wz ⟨rfl,rfl⟩
   rw [hke]
   go_wp2_with fail
   go_meet
   exact ⟨congrArg Value.bool (by rw [← hgd.out];simp [hk]),rfl⟩
  have hke : kindErr kind=0:=by simp [kindErr,hk]
  by_cases hc : call=0
  ·skip
   have q1 : (call != 0)=false:=by simpa using hc
   have hcz:=Lib.hid hc;clear hc
   go_wp2_with fail
   refine (grant_Check w1 hkb.out).mono ?_
   rintro e wz ⟨rfl,rfl⟩
   rw [hke]
   go_wp2_with fail
   go_meet
   exact ⟨congrArg Value.bool (by rw [← hgd.out];simp [hk,hcz.out]),rfl⟩
  have q1 : (call != 0)=true:=by simpa using hc
  have hcz:=Lib.hid hc;clear hc
  go_wp2_with fail
  refine (grant_Check w1 hkb.out).mono ?_
  rintro e wz ⟨rfl,rfl⟩
  rw [hke]
  go_wp2_with fail
  refine (contains_int call (hR.out.ext hF1)).mono ?_
  rintro e wz ⟨rfl,rfl⟩
  cases hh : hasR m.run call
  ·skip
   go_wp2_with fail
   go_meet
   exact ⟨congrArg Value.bool (by rw [← hgd.out];simp [hk,hcz.out,hh]),rfl⟩
  ·skip
   go_wp2_with fail
   go_meet
   exact ⟨congrArg Value.bool (by rw [← hgd.out];simp [hk,hcz.out,hh]),rfl⟩
 case rest =>
  obtain ⟨rfl,hwc⟩:=hcut
  rw [hwc]
  clear hwc
  cases gd
  rotate_left
  rotate_left
  ·skip
   have hres:=Lib.hid (retagM_arg (p:=⟨pa,po,pt⟩) (n:=n) hokh.out (m:=m) (kind:=kind) (call:=call) (by intro h9;have h8:=hgdh.out;rcases h9.2 with h7 | h7 <;> simp [h9.1,h7] at h8))
   obtain ⟨bM_0,bM_1,bM_2,bM_3,bM_4,bM_5,bM_l⟩:=bM.c6
   have bR_0 : World.cell? w1 ⟨wS.heap.size+2,0,none⟩=some (.slice none 0 0):=bR.cell 0
   have bR_1 : World.cell? w1 ⟨wS.heap.size+2,1,none⟩=some (.int .i64 0):=bR.cell 1
   have bR_2 : World.cell? w1 ⟨wS.heap.size+2,2,none⟩=some (.slice none 0 0):=bR.cell 2
   have bR_3 : World.cell? w1 ⟨wS.heap.size+2,3,none⟩=some (.slice none 0 0):=bR.cell 3
   have bR_4 : World.cell? w1 ⟨wS.heap.size+2,4,none⟩=some (.int .i64 0):=bR.cell 4
   have bR_5 : World.cell? w1 ⟨wS.heap.size+2,5,none⟩=some (.int .i64 0):=bR.cell 5
   have bR_f0 : World.frozen? w1 ⟨wS.heap.size+2,0,none⟩=false:=bR.frozen 0
   have bR_f1 : World.frozen? w1 ⟨wS.heap.size+2,1,none⟩=false:=bR.frozen 1
   have bR_f2 : World.frozen? w1 ⟨wS.heap.size+2,2,none⟩=false:=bR.frozen 2
   have bR_f3 : World.frozen? w1 ⟨wS.heap.size+2,3,none⟩=false:=bR.frozen 3
   have bR_f4 : World.frozen? w1 ⟨wS.heap.size+2,4,none⟩=false:=bR.frozen 4
   have bR_f5 : World.frozen? w1 ⟨wS.heap.size+2,5,none⟩=false:=bR.frozen 5
   have bR_l:=bR.lt
   have bQ_0 : World.cell? w1 ⟨wS.heap.size+3,0,none⟩=some (.int .i64 0):=bQ.cell 0
   have bQ_1 : World.cell? w1 ⟨wS.heap.size+3,1,none⟩=some (.int .i64 0):=bQ.cell 1
   have bQ_2 : World.cell? w1 ⟨wS.heap.size+3,2,none⟩=some (.int .i64 0):=bQ.cell 2
   have bQ_f0 : World.frozen? w1 ⟨wS.heap.size+3,0,none⟩=false:=bQ.frozen 0
   have bQ_f1 : World.frozen? w1 ⟨wS.heap.size+3,1,none⟩=false:=bQ.frozen 1
   have bQ_f2 : World.frozen? w1 ⟨wS.heap.size+3,2,none⟩=false:=bQ.frozen 2
   have bQ_l:=bQ.lt
   go_wp2
   rw [hres.out]
   have hXe : ExtBut (fun b=>wS.heap.size≤b∧b < wS.heap.size+4) w1 (World.setCell (World.setCell (World.setCell (World.setCell (World.setCell (World.setCell (World.setCell (World.setCell (World.setCell w1 ⟨wS.heap.size+2,0,none⟩ (.slice none 0 0)) ⟨wS.heap.size+2,1,none⟩ (.int .i64 0)) ⟨wS.heap.size+2,2,none⟩ (.slice none 0 0)) ⟨wS.heap.size+2,3,none⟩ (.slice none 0 0)) ⟨wS.heap.size+2,4,none⟩ (.int .i64 0)) ⟨wS.heap.size+2,5,none⟩ (.int .i64 0)) ⟨wS.heap.size+3,0,none⟩ (.int .i64 0)) ⟨wS.heap.size+3,1,none⟩ (.int .i64 0)) ⟨wS.heap.size+3,2,none⟩ (.int .i64 0)):=by (repeat' with_reducible first | exact ExtBut.refl _ _ | refine ExtBut.dr ?_ | refine ExtBut.sc ?_ ?_ | fail) <;> dsimp only <;> omega
   refine bodyPost_ret (v := .tuple #[.agg #[.slice none 0 0,.int .i64 0,.slice none 0 0,.slice none 0 0,.int .i64 0,.int .i64 0],.agg #[.int .i64 0,.int .i64 0,.int .i64 0],.int .u8 0,.int .i64 2]) (by simp [results,Tryd.f9,go_sem,bR_0,bR_1,bR_2,bR_3,bR_4,bR_5,bQ_0,bQ_1,bQ_2]) rfl ?_
   have hFe:=ExtBut.ext hF1 hXe (fun b h=>h.1)
   exact ⟨_,rfl,FrMon.zero _ _,hFe⟩
  have hka : kindOk kind=true∧(call=0∨hasR m.run call=true):=by have h8:=hgdh.out;simpa using h8
  replace hka:=Lib.hid hka;clear hgdh hgd
  obtain ⟨bM_0,bM_1,bM_2,bM_3,bM_4,bM_5,bM_l⟩:=bM.c6
  obtain ⟨bP_0,bP_1,bP_2,bP_l⟩:=bP.c3
  go_wp2_with fail
  clear bM_0 bM_1 bM_2 bM_3 bM_4 bM_5 bM_l bP_0 bP_1 bP_2 bP_l
  refine (cells_LoadAll (m:=m.mem) ⟨pa,po,pt⟩ n (hA.out.ext hF1) hn.out).mono ?_
  rintro e w2 ⟨lv,rfl,hOl,hE2⟩
  replace bM:=bM.ext hE2
  replace bP:=bP.ext hE2
  replace bR:=bR.ext hE2
  replace bQ:=bQ.ext hE2
  have hF2:=Ext.trans hF1 hE2
  rw [hldh.out] at hOl ⊢
  dsimp only at hOl ⊢
  obtain ⟨la,lc,rfl,-⟩:=hOl.sl.slice_form
  clear hOl
  by_cases he : er=0
  rotate_left
  ·skip
   have q1 : (er != 0)=true:=by simpa using he
   have hres:=Lib.hid (retagM_err (p:=⟨pa,po,pt⟩) hokh.out hka.out hldh.out he)
   clear he
   obtain ⟨bM_0,bM_1,bM_2,bM_3,bM_4,bM_5,bM_l⟩:=bM.c6
   have bR_0 : World.cell? w2 ⟨wS.heap.size+2,0,none⟩=some (.slice none 0 0):=bR.cell 0
   have bR_1 : World.cell? w2 ⟨wS.heap.size+2,1,none⟩=some (.int .i64 0):=bR.cell 1
   have bR_2 : World.cell? w2 ⟨wS.heap.size+2,2,none⟩=some (.slice none 0 0):=bR.cell 2
   have bR_3 : World.cell? w2 ⟨wS.heap.size+2,3,none⟩=some (.slice none 0 0):=bR.cell 3
   have bR_4 : World.cell? w2 ⟨wS.heap.size+2,4,none⟩=some (.int .i64 0):=bR.cell 4
   have bR_5 : World.cell? w2 ⟨wS.heap.size+2,5,none⟩=some (.int .i64 0):=bR.cell 5
   have bR_f0 : World.frozen? w2 ⟨wS.heap.size+2,0,none⟩=false:=bR.frozen 0
   have bR_f1 : World.frozen? w2 ⟨wS.heap.size+2,1,none⟩=false:=bR.frozen 1
   have bR_f2 : World.frozen? w2 ⟨wS.heap.size+2,2,none⟩=false:=bR.frozen 2
   have bR_f3 : World.frozen? w2 ⟨wS.heap.size+2,3,none⟩=false:=bR.frozen 3
   have bR_f4 : World.frozen? w2 ⟨wS.heap.size+2,4,none⟩=false:=bR.frozen 4
   have bR_f5 : World.frozen? w2 ⟨wS.heap.size+2,5,none⟩=false:=bR.frozen 5
   have bR_l:=bR.lt
   have bQ_0 : World.cell? w2 ⟨wS.heap.size+3,0,none⟩=some (.int .i64 0):=bQ.cell 0
   have bQ_1 : World.cell? w2 ⟨wS.heap.size+3,1,none⟩=some (.int .i64 0):=bQ.cell 1
   have bQ_2 : World.cell? w2 ⟨wS.heap.size+3,2,none⟩=some (.int .i64 0):=bQ.cell 2
   have bQ_f0 : World.frozen? w2 ⟨wS.heap.size+3,0,none⟩=false:=bQ.frozen 0
   have bQ_f1 : World.frozen? w2 ⟨wS.heap.size+3,1,none⟩=false:=bQ.frozen 1
   have bQ_f2 : World.frozen? w2 ⟨wS.heap.size+3,2,none⟩=false:=bQ.frozen 2
   have bQ_l:=bQ.lt
   go_wp2
   rw [hres.out]
   have hXe : ExtBut (fun b=>wS.heap.size≤b∧b < wS.heap.size+4) w2 (World.setCell (World.setCell (World.setCell (World.setCell (World.setCell (World.setCell (World.setCell (World.setCell (World.setCell w2 ⟨wS.heap.size+2,0,none⟩ (.slice none 0 0)) ⟨wS.heap.size+2,1,none⟩ (.int .i64 0)) ⟨wS.heap.size+2,2,none⟩ (.slice none 0 0)) ⟨wS.heap.size+2,3,none⟩ (.slice none 0 0)) ⟨wS.heap.size+2,4,none⟩ (.int .i64 0)) ⟨wS.heap.size+2,5,none⟩ (.int .i64 0)) ⟨wS.heap.size+3,0,none⟩ (.int .i64 0)) ⟨wS.heap.size+3,1,none⟩ (.int .i64 0)) ⟨wS.heap.size+3,2,none⟩ (.int .i64 0)):=by (repeat' with_reducible first | exact ExtBut.refl _ _ | refine ExtBut.dr ?_ | refine ExtBut.sc ?_ ?_ | fail) <;> dsimp only <;> omega
   refine bodyPost_ret (v := .tuple #[.agg #[.slice none 0 0,.int .i64 0,.slice none 0 0,.slice none 0 0,.int .i64 0,.int .i64 0],.agg #[.int .i64 0,.int .i64 0,.int .i64 0],.int .u8 0,.int .i64 er]) (by simp [results,Tryd.f9,go_sem,bR_0,bR_1,bR_2,bR_3,bR_4,bR_5,bQ_0,bQ_1,bQ_2]) rfl ?_
   have hFe:=ExtBut.ext hF2 hXe (fun b h=>h.1)
   exact ⟨_,rfl,FrMon.zero _ _,hFe⟩
  subst he
  by_cases ht : m.tag=1000000
  ·skip
   have q2 : (m.tag == 1000000)=true:=by rw [ht];rfl
   have hres:=Lib.hid (retagM_full (p:=⟨pa,po,pt⟩) hokh.out hka.out hldh.out ht)
   clear ht
   obtain ⟨bM_0,bM_1,bM_2,bM_3,bM_4,bM_5,bM_l⟩:=bM.c6
   have bR_0 : World.cell? w2 ⟨wS.heap.size+2,0,none⟩=some (.slice none 0 0):=bR.cell 0
   have bR_1 : World.cell? w2 ⟨wS.heap.size+2,1,none⟩=some (.int .i64 0):=bR.cell 1
   have bR_2 : World.cell? w2 ⟨wS.heap.size+2,2,none⟩=some (.slice none 0 0):=bR.cell 2
   have bR_3 : World.cell? w2 ⟨wS.heap.size+2,3,none⟩=some (.slice none 0 0):=bR.cell 3
   have bR_4 : World.cell? w2 ⟨wS.heap.size+2,4,none⟩=some (.int .i64 0):=bR.cell 4
   have bR_5 : World.cell? w2 ⟨wS.heap.size+2,5,none⟩=some (.int .i64 0):=bR.cell 5
   have bR_f0 : World.frozen? w2 ⟨wS.heap.size+2,0,none⟩=false:=bR.frozen 0
   have bR_f1 : World.frozen? w2 ⟨wS.heap.size+2,1,none⟩=false:=bR.frozen 1
   have bR_f2 : World.frozen? w2 ⟨wS.heap.size+2,2,none⟩=false:=bR.frozen 2
   have bR_f3 : World.frozen? w2 ⟨wS.heap.size+2,3,none⟩=false:=bR.frozen 3
   have bR_f4 : World.frozen? w2 ⟨wS.heap.size+2,4,none⟩=false:=bR.frozen 4
   have bR_f5 : World.frozen? w2 ⟨wS.heap.size+2,5,none⟩=false:=bR.frozen 5
   have bR_l:=bR.lt
   have bQ_0 : World.cell? w2 ⟨wS.heap.size+3,0,none⟩=some (.int .i64 0):=bQ.cell 0
   have bQ_1 : World.cell? w2 ⟨wS.heap.size+3,1,none⟩=some (.int .i64 0):=bQ.cell 1
   have bQ_2 : World.cell? w2 ⟨wS.heap.size+3,2,none⟩=some (.int .i64 0):=bQ.cell 2
   have bQ_f0 : World.frozen? w2 ⟨wS.heap.size+3,0,none⟩=false:=bQ.frozen 0
   have bQ_f1 : World.frozen? w2 ⟨wS.heap.size+3,1,none⟩=false:=bQ.frozen 1
   have bQ_f2 : World.frozen? w2 ⟨wS.heap.size+3,2,none⟩=false:=bQ.frozen 2
   have bQ_l:=bQ.lt
   go_wp2
   rw [hres.out]
   have hXe : ExtBut (fun b=>wS.heap.size≤b∧b < wS.heap.size+4) w2 (World.setCell (World.setCell (World.setCell (World.setCell (World.setCell (World.setCell (World.setCell (World.setCell (World.setCell w2 ⟨wS.heap.size+2,0,none⟩ (.slice none 0 0)) ⟨wS.heap.size+2,1,none⟩ (.int .i64 0)) ⟨wS.heap.size+2,2,none⟩ (.slice none 0 0)) ⟨wS.heap.size+2,3,none⟩ (.slice none 0 0)) ⟨wS.heap.size+2,4,none⟩ (.int .i64 0)) ⟨wS.heap.size+2,5,none⟩ (.int .i64 0)) ⟨wS.heap.size+3,0,none⟩ (.int .i64 0)) ⟨wS.heap.size+3,1,none⟩ (.int .i64 0)) ⟨wS.heap.size+3,2,none⟩ (.int .i64 0)):=by (repeat' with_reducible first | exact ExtBut.refl _ _ | refine ExtBut.dr ?_ | refine ExtBut.sc ?_ ?_ | fail) <;> dsimp only <;> omega
   refine bodyPost_ret (v := .tuple #[.agg #[.slice none 0 0,.int .i64 0,.slice none 0 0,.slice none 0 0,.int .i64 0,.int .i64 0],.agg #[.int .i64 0,.int .i64 0,.int .i64 0],.int .u8 0,.int .i64 18]) (by simp [results,Tryd.f9,go_sem,bR_0,bR_1,bR_2,bR_3,bR_4,bR_5,bQ_0,bQ_1,bQ_2]) rfl ?_
   have hFe:=ExtBut.ext hF2 hXe (fun b h=>h.1)
   exact ⟨_,rfl,FrMon.zero _ _,hFe⟩
  have q2 : (m.tag == 1000000)=false:=beq_eq_false_iff_ne.2 ht
  by_cases hu : un=3
  ·skip
   have hres:=Lib.hid (retagM_gone (p:=⟨pa,po,pt⟩) hokh.out hka.out (hu ▸ hldh.out) ht)
   clear ht
   subst hu
   obtain ⟨bM_0,bM_1,bM_2,bM_3,bM_4,bM_5,bM_l⟩:=bM.c6
   have bR_0 : World.cell? w2 ⟨wS.heap.size+2,0,none⟩=some (.slice none 0 0):=bR.cell 0
   have bR_1 : World.cell? w2 ⟨wS.heap.size+2,1,none⟩=some (.int .i64 0):=bR.cell 1
   have bR_2 : World.cell? w2 ⟨wS.heap.size+2,2,none⟩=some (.slice none 0 0):=bR.cell 2
   have bR_3 : World.cell? w2 ⟨wS.heap.size+2,3,none⟩=some (.slice none 0 0):=bR.cell 3
   have bR_4 : World.cell? w2 ⟨wS.heap.size+2,4,none⟩=some (.int .i64 0):=bR.cell 4
   have bR_5 : World.cell? w2 ⟨wS.heap.size+2,5,none⟩=some (.int .i64 0):=bR.cell 5
   have bR_f0 : World.frozen? w2 ⟨wS.heap.size+2,0,none⟩=false:=bR.frozen 0
   have bR_f1 : World.frozen? w2 ⟨wS.heap.size+2,1,none⟩=false:=bR.frozen 1
   have bR_f2 : World.frozen? w2 ⟨wS.heap.size+2,2,none⟩=false:=bR.frozen 2
   have bR_f3 : World.frozen? w2 ⟨wS.heap.size+2,3,none⟩=false:=bR.frozen 3
   have bR_f4 : World.frozen? w2 ⟨wS.heap.size+2,4,none⟩=false:=bR.frozen 4
   have bR_f5 : World.frozen? w2 ⟨wS.heap.size+2,5,none⟩=false:=bR.frozen 5
   have bR_l:=bR.lt
   have bQ_0 : World.cell? w2 ⟨wS.heap.size+3,0,none⟩=some (.int .i64 0):=bQ.cell 0
   have bQ_1 : World.cell? w2 ⟨wS.heap.size+3,1,none⟩=some (.int .i64 0):=bQ.cell 1
   have bQ_2 : World.cell? w2 ⟨wS.heap.size+3,2,none⟩=some (.int .i64 0):=bQ.cell 2
   have bQ_f0 : World.frozen? w2 ⟨wS.heap.size+3,0,none⟩=false:=bQ.frozen 0
   have bQ_f1 : World.frozen? w2 ⟨wS.heap.size+3,1,none⟩=false:=bQ.frozen 1
   have bQ_f2 : World.frozen? w2 ⟨wS.heap.size+3,2,none⟩=false:=bQ.frozen 2
   have bQ_l:=bQ.lt
   go_wp2
   rw [hres.out]
   have hXe : ExtBut (fun b=>wS.heap.size≤b∧b < wS.heap.size+4) w2 (World.setCell (World.setCell (World.setCell (World.setCell (World.setCell (World.setCell (World.setCell (World.setCell (World.setCell w2 ⟨wS.heap.size+2,0,none⟩ (.slice none 0 0)) ⟨wS.heap.size+2,1,none⟩ (.int .i64 0)) ⟨wS.heap.size+2,2,none⟩ (.slice none 0 0)) ⟨wS.heap.size+2,3,none⟩ (.slice none 0 0)) ⟨wS.heap.size+2,4,none⟩ (.int .i64 0)) ⟨wS.heap.size+2,5,none⟩ (.int .i64 0)) ⟨wS.heap.size+3,0,none⟩ (.int .i64 0)) ⟨wS.heap.size+3,1,none⟩ (.int .i64 0)) ⟨wS.heap.size+3,2,none⟩ (.int .i64 0)):=by (repeat' with_reducible first | exact ExtBut.refl _ _ | refine ExtBut.dr ?_ | refine ExtBut.sc ?_ ?_ | fail) <;> dsimp only <;> omega
   refine bodyPost_ret (v := .tuple #[.agg #[.slice none 0 0,.int .i64 0,.slice none 0 0,.slice none 0 0,.int .i64 0,.int .i64 0],.agg #[.int .i64 0,.int .i64 0,.int .i64 0],.int .u8 3,.int .i64 0]) (by simp [results,Tryd.f9,go_sem,bR_0,bR_1,bR_2,bR_3,bR_4,bR_5,bQ_0,bQ_1,bQ_2]) rfl ?_
   have hFe:=ExtBut.ext hF2 hXe (fun b h=>h.1)
   exact ⟨_,rfl,FrMon.zero _ _,hFe⟩
  have q3 : (un == 3)=false:=beq_eq_false_iff_ne.2 hu
  obtain ⟨i,al,hat,hal,-⟩ : ∃ i a,atNum m.mem.al pa=some i∧m.mem.al[i]? = some a∧True:=by
   rcases load_ways hldh.out with h | h | ⟨-,-,i,a,h1,h2,-⟩
   ·exact absurd rfl h.1
   ·exact absurd h.2.1 hu
   ·exact ⟨i,a,h1,h2,trivial⟩
  have hil:=(List.getElem?_eq_some_iff.1 hal).1
  have hMok:=hMokh.out
  obtain ⟨st,al',hst,-,hrow⟩:=hMok.stk hil
  obtain ⟨sn,scs⟩:=st
  obtain ⟨⟨⟨xn,xcs⟩,why,e4⟩,hd⟩ : ∃ z,tag33 ⟨sn,scs⟩ po n kind pt ⟨0,m.tag,call⟩ m.run=z:=⟨_,rfl⟩
  have hi2 : i < m.stks.length:=(List.getElem?_eq_some_iff.1 hst).1
  have hi0 : (0 : Int)≤(i : Int):=by omega
  have hi1 : (i : Int) < (m.stks.length : Int):=by omega
  obtain ⟨kb,ko,ks,rfl,hkb,k0,k1,hks⟩:=hK.out.cell hst
  have hv:=hks.form
  obtain ⟨sa',sc',rfl,-⟩:=hv
  dsimp only at k0 k1
  replace hks:=Lib.hid hks
  have hdh:=Lib.hid hd
  have hres:=Lib.hid (retagM_live (p:=⟨pa,po,pt⟩) hokh.out hka.out hldh.out ht hu hat hst hd)
  have hsth:=Lib.hid hst;have hatm:=Lib.hid hat
  have w1 : IntKind.i64.wrap (m.tag+1)=m.tag+1:=IntWalk.i64_in _ (by have:=htb.out;omega)
  clear ht hu hat hal hst hrow hd hil hkb hMok
  obtain ⟨bM_0,bM_1,bM_2,bM_3,bM_4,bM_5,bM_l⟩:=bM.c6
  obtain ⟨bP_0,bP_1,bP_2,bP_l⟩:=bP.c3
  go_wp2_with fail
  clear bM_0 bM_1 bM_2 bM_3 bM_4 bM_5 bM_l bP_0 bP_1 bP_2 bP_l
  refine (monitor_at pa hMokh.out (hK.out.ext hF2)).mono ?_
  rintro e w3 ⟨rfl,hE3⟩
  replace bM:=bM.ext hE3
  replace bP:=bP.ext hE3
  replace bR:=bR.ext hE3
  replace bQ:=bQ.ext hE3
  have hF3:=Ext.trans hF2 hE3
  rw [hatm.out]
  dsimp only [ixK]
  obtain ⟨bM_0,bM_1,bM_2,bM_3,bM_4,bM_5,bM_l⟩:=bM.c6
  obtain ⟨bP_0,bP_1,bP_2,bP_l⟩:=bP.c3
  go_upto_region 14 with fail
  clear bM_0 bM_1 bM_2 bM_3 bM_4 bM_5 bM_l bP_0 bP_1 bP_2 bP_l
  have hpc:=Lib.hid (hp.out.ext hF3)
  have bMc2 : World.cell? w3 ⟨wS.heap.size,2,none⟩=some (.slice (some ⟨kb,ko,none⟩) m.stks.length kc):=bM.cell 2
  have bMc3 : World.cell? w3 ⟨wS.heap.size,3,none⟩=some (.slice ra m.run.length rc):=bM.cell 3
  have bPc1 : World.cell? w3 ⟨wS.heap.size+1,1,none⟩=some (.int .i64 po):=bP.cell 1
  have bPc2 : World.cell? w3 ⟨wS.heap.size+1,2,none⟩=some (.int .i64 pt):=bP.cell 2
  have bMc4 : World.cell? w3 ⟨wS.heap.size,4,none⟩=some (.int .i64 m.tag):=bM.cell 4
  have r0:=Ext.cell hF3 k0;have r1:=Ext.cell hF3 k1
  have hKc:=Lib.hid (hks.out.ext hF3);have hRc:=Lib.hid (hR.out.ext hF3)
  refine wp_region_rel (R:=(BxX w3.drew.heap.size 44 2 (X35 w3.drew.heap.size ⟨xn,xcs⟩))) BxX.refl (fun _ _ _=>BxX.trans X35_bxr) [PrR.eq _ (.pointer (some ⟨wS.heap.size,2,none⟩)),PrR.eq _ (.slice (some ⟨kb,ko,none⟩) m.stks.length kc),PrR.eq _ (.int .i64 (i : Int)),PrR.eq _ (.pointer (some ⟨kb,ko+i * 2,none⟩)),PrR.eq _ (.agg #[.int .i64 sn,.slice sa' scs.length sc']),PrR.eq _ (.pointer (some ⟨wS.heap.size+1,1,none⟩)),PrR.eq _ (.int .i64 po),PrR.eq _ (.int .i64 n),PrR.eq _ (.int .u8 kind),PrR.eq _ (.pointer (some ⟨wS.heap.size+1,2,none⟩)),PrR.eq _ (.int .i64 pt),PrR.eq _ (.pointer (some ⟨wS.heap.size,4,none⟩)),PrR.eq _ (.int .i64 m.tag),PrR.eq _ (.int .i64 call),PrR.eq _ (.agg #[.int .u8 0,.int .i64 m.tag,.int .i64 call]),PrR.eq _ (.pointer (some ⟨wS.heap.size,3,none⟩)),PrR.eq _ (.slice ra m.run.length rc),(PrRK w3.drew.heap.size ⟨xn,xcs⟩ (fun a' c' => .tuple #[.agg #[.int .i64 xn,.slice a' xcs.length c'],.int .u8 why,.int .i64 e4])),(PrRK w3.drew.heap.size ⟨xn,xcs⟩ (fun a' c' => .tuple #[.agg #[.int .i64 xn,.slice a' xcs.length c'],.int .u8 why,.int .i64 e4])),(PrRK w3.drew.heap.size ⟨xn,xcs⟩ (fun a' c' => .agg #[.int .i64 xn,.slice a' xcs.length c'])),PrR.eq _ (.int .u8 why),PrR.eq _ (.int .i64 e4),(PrR.up (PrRB w3.drew.heap.size 44 2)),(PrRT w3.drew.heap.size ⟨xn,xcs⟩),PrR.eq _ (.int .u8 why),PrR.eq _ (.int .i64 e4)] (by kernel_rfl) (by kernel_rfl) ?_ ?_
  ·refine ⟨?_,?_,?_,?_,?_,?_,?_,?_,?_,?_,?_,?_,?_,?_,?_,?_,?_,?_,?_,?_,?_,?_,?_,?_,?_,?_,trivial⟩
   ·intro a w hE hd ho
    refine .inl ⟨rfl,?_⟩
    intro Kq hKq
    have hF : Ext w3 w:=Ext.trans ((Ext.refl _).drew) (BxX.to_ext hE (Nat.le_refl _))
    have e5 : a.eval (.tmp 5) = .pointer (some ⟨wS.heap.size,0,none⟩):=ho 5 (by kernel_rfl)
    rw [eval_tmp] at e5
    clear bMc2 bMc3 bPc1 bPc2 bMc4 r0 r1
    clear hd ho
    replace hKq:=Lib.hid hKq
    go_simp
    exact hKq.out _ _ rfl (BxX.refl _)
   ·intro a w hE hd ho
    refine .inl ⟨rfl,?_⟩
    intro Kq hKq
    have hF : Ext w3 w:=Ext.trans ((Ext.refl _).drew) (BxX.to_ext hE (Nat.le_refl _))
    have e75 : a.eval (.tmp 75) = .pointer (some ⟨wS.heap.size,2,none⟩):=hd 0 (by kernel_rfl)
    rw [eval_tmp] at e75
    have bMc2w:=Ext.cell hF bMc2
    clear bMc2 bMc3 bPc1 bPc2 bMc4 r0 r1
    clear hd ho
    replace hKq:=Lib.hid hKq
    go_simp
    exact hKq.out _ _ rfl (BxX.refl _)
   ·intro a w hE hd ho
    refine .inl ⟨rfl,?_⟩
    intro Kq hKq
    have hF : Ext w3 w:=Ext.trans ((Ext.refl _).drew) (BxX.to_ext hE (Nat.le_refl _))
    have e18 : a.eval (.tmp 18) = .int .i64 (i : Int):=ho 18 (by kernel_rfl)
    rw [eval_tmp] at e18
    clear bMc2 bMc3 bPc1 bPc2 bMc4 r0 r1
    clear hd ho
    replace hKq:=Lib.hid hKq
    go_simp
    exact hKq.out _ _ rfl (BxX.refl _)
   ·intro a w hE hd ho
    refine .inl ⟨rfl,?_⟩
    intro Kq hKq
    have hF : Ext w3 w:=Ext.trans ((Ext.refl _).drew) (BxX.to_ext hE (Nat.le_refl _))
    have e76 : a.eval (.tmp 76) = .slice (some ⟨kb,ko,none⟩) m.stks.length kc:=hd 1 (by kernel_rfl)
    rw [eval_tmp] at e76
    have e77 : a.eval (.tmp 77) = .int .i64 (i : Int):=hd 2 (by kernel_rfl)
    rw [eval_tmp] at e77
    clear bMc2 bMc3 bPc1 bPc2 bMc4 r0 r1
    clear hd ho
    replace hKq:=Lib.hid hKq
    go_simp
    exact hKq.out _ _ rfl (BxX.refl _)
   ·intro a w hE hd ho
    refine .inl ⟨rfl,?_⟩
    intro Kq hKq
    have hF : Ext w3 w:=Ext.trans ((Ext.refl _).drew) (BxX.to_ext hE (Nat.le_refl _))
    have e78 : a.eval (.tmp 78) = .pointer (some ⟨kb,ko+i * 2,none⟩):=hd 3 (by kernel_rfl)
    rw [eval_tmp] at e78
    have r0w:=Ext.cell hF r0
    have r1w:=Ext.cell hF r1
    clear bMc2 bMc3 bPc1 bPc2 bMc4 r0 r1
    clear hd ho
    replace hKq:=Lib.hid hKq
    go_simp
    exact hKq.out _ _ rfl (BxX.refl _)
   ·intro a w hE hd ho
    refine .inl ⟨rfl,?_⟩
    intro Kq hKq
    have hF : Ext w3 w:=Ext.trans ((Ext.refl _).drew) (BxX.to_ext hE (Nat.le_refl _))
    have e6 : a.eval (.tmp 6) = .pointer (some ⟨wS.heap.size+1,0,none⟩):=ho 6 (by kernel_rfl)
    rw [eval_tmp] at e6
    clear bMc2 bMc3 bPc1 bPc2 bMc4 r0 r1
    clear hd ho
    replace hKq:=Lib.hid hKq
    go_simp
    exact hKq.out _ _ rfl (BxX.refl _)
   ·intro a w hE hd ho
    refine .inl ⟨rfl,?_⟩
    intro Kq hKq
    have hF : Ext w3 w:=Ext.trans ((Ext.refl _).drew) (BxX.to_ext hE (Nat.le_refl _))
    have e80 : a.eval (.tmp 80) = .pointer (some ⟨wS.heap.size+1,1,none⟩):=hd 5 (by kernel_rfl)
    rw [eval_tmp] at e80
    have bPc1w:=Ext.cell hF bPc1
    clear bMc2 bMc3 bPc1 bPc2 bMc4 r0 r1
    clear hd ho
    replace hKq:=Lib.hid hKq
    go_simp
    exact hKq.out _ _ rfl (BxX.refl _)
   ·intro a w hE hd ho
    refine .inl ⟨rfl,?_⟩
    intro Kq hKq
    have hF : Ext w3 w:=Ext.trans ((Ext.refl _).drew) (BxX.to_ext hE (Nat.le_refl _))
    have e2 : a.eval (.tmp 2) = .int .i64 n:=ho 2 (by kernel_rfl)
    rw [eval_tmp] at e2
    clear bMc2 bMc3 bPc1 bPc2 bMc4 r0 r1
    clear hd ho
    replace hKq:=Lib.hid hKq
    go_simp
    exact hKq.out _ _ rfl (BxX.refl _)
   ·intro a w hE hd ho
    refine .inl ⟨rfl,?_⟩
    intro Kq hKq
    have hF : Ext w3 w:=Ext.trans ((Ext.refl _).drew) (BxX.to_ext hE (Nat.le_refl _))
    have e3 : a.eval (.tmp 3) = .int .u8 kind:=ho 3 (by kernel_rfl)
    rw [eval_tmp] at e3
    clear bMc2 bMc3 bPc1 bPc2 bMc4 r0 r1
    clear hd ho
    replace hKq:=Lib.hid hKq
    go_simp
    exact hKq.out _ _ rfl (BxX.refl _)
   ·intro a w hE hd ho
    refine .inl ⟨rfl,?_⟩
    intro Kq hKq
    have hF : Ext w3 w:=Ext.trans ((Ext.refl _).drew) (BxX.to_ext hE (Nat.le_refl _))
    have e6 : a.eval (.tmp 6) = .pointer (some ⟨wS.heap.size+1,0,none⟩):=ho 6 (by kernel_rfl)
    rw [eval_tmp] at e6
    clear bMc2 bMc3 bPc1 bPc2 bMc4 r0 r1
    clear hd ho
    replace hKq:=Lib.hid hKq
    go_simp
    exact hKq.out _ _ rfl (BxX.refl _)
   ·intro a w hE hd ho
    refine .inl ⟨rfl,?_⟩
    intro Kq hKq
    have hF : Ext w3 w:=Ext.trans ((Ext.refl _).drew) (BxX.to_ext hE (Nat.le_refl _))
    have e84 : a.eval (.tmp 84) = .pointer (some ⟨wS.heap.size+1,2,none⟩):=hd 9 (by kernel_rfl)
    rw [eval_tmp] at e84
    have bPc2w:=Ext.cell hF bPc2
    clear bMc2 bMc3 bPc1 bPc2 bMc4 r0 r1
    clear hd ho
    replace hKq:=Lib.hid hKq
    go_simp
    exact hKq.out _ _ rfl (BxX.refl _)
   ·intro a w hE hd ho
    refine .inl ⟨rfl,?_⟩
    intro Kq hKq
    have hF : Ext w3 w:=Ext.trans ((Ext.refl _).drew) (BxX.to_ext hE (Nat.le_refl _))
    have e5 : a.eval (.tmp 5) = .pointer (some ⟨wS.heap.size,0,none⟩):=ho 5 (by kernel_rfl)
    rw [eval_tmp] at e5
    clear bMc2 bMc3 bPc1 bPc2 bMc4 r0 r1
    clear hd ho
    replace hKq:=Lib.hid hKq
    go_simp
    exact hKq.out _ _ rfl (BxX.refl _)
   ·intro a w hE hd ho
    refine .inl ⟨rfl,?_⟩
    intro Kq hKq
    have hF : Ext w3 w:=Ext.trans ((Ext.refl _).drew) (BxX.to_ext hE (Nat.le_refl _))
    have e86 : a.eval (.tmp 86) = .pointer (some ⟨wS.heap.size,4,none⟩):=hd 11 (by kernel_rfl)
    rw [eval_tmp] at e86
    have bMc4w:=Ext.cell hF bMc4
    clear bMc2 bMc3 bPc1 bPc2 bMc4 r0 r1
    clear hd ho
    replace hKq:=Lib.hid hKq
    go_simp
    exact hKq.out _ _ rfl (BxX.refl _)
   ·intro a w hE hd ho
    refine .inl ⟨rfl,?_⟩
    intro Kq hKq
    have hF : Ext w3 w:=Ext.trans ((Ext.refl _).drew) (BxX.to_ext hE (Nat.le_refl _))
    have e4 : a.eval (.tmp 4) = .int .i64 call:=ho 4 (by kernel_rfl)
    rw [eval_tmp] at e4
    clear bMc2 bMc3 bPc1 bPc2 bMc4 r0 r1
    clear hd ho
    replace hKq:=Lib.hid hKq
    go_simp
    exact hKq.out _ _ rfl (BxX.refl _)
   ·intro a w hE hd ho
    refine .inl ⟨rfl,?_⟩
    intro Kq hKq
    have hF : Ext w3 w:=Ext.trans ((Ext.refl _).drew) (BxX.to_ext hE (Nat.le_refl _))
    have e87 : a.eval (.tmp 87) = .int .i64 m.tag:=hd 12 (by kernel_rfl)
    rw [eval_tmp] at e87
    have e88 : a.eval (.tmp 88) = .int .i64 call:=hd 13 (by kernel_rfl)
    rw [eval_tmp] at e88
    clear bMc2 bMc3 bPc1 bPc2 bMc4 r0 r1
    clear hd ho
    replace hKq:=Lib.hid hKq
    go_simp
    exact hKq.out _ _ rfl (BxX.refl _)
   ·intro a w hE hd ho
    refine .inl ⟨rfl,?_⟩
    intro Kq hKq
    have hF : Ext w3 w:=Ext.trans ((Ext.refl _).drew) (BxX.to_ext hE (Nat.le_refl _))
    have e5 : a.eval (.tmp 5) = .pointer (some ⟨wS.heap.size,0,none⟩):=ho 5 (by kernel_rfl)
    rw [eval_tmp] at e5
    clear bMc2 bMc3 bPc1 bPc2 bMc4 r0 r1
    clear hd ho
    replace hKq:=Lib.hid hKq
    go_simp
    exact hKq.out _ _ rfl (BxX.refl _)
   ·intro a w hE hd ho
    refine .inl ⟨rfl,?_⟩
    intro Kq hKq
    have hF : Ext w3 w:=Ext.trans ((Ext.refl _).drew) (BxX.to_ext hE (Nat.le_refl _))
    have e90 : a.eval (.tmp 90) = .pointer (some ⟨wS.heap.size,3,none⟩):=hd 15 (by kernel_rfl)
    rw [eval_tmp] at e90
    have bMc3w:=Ext.cell hF bMc3
    clear bMc2 bMc3 bPc1 bPc2 bMc4 r0 r1
    clear hd ho
    replace hKq:=Lib.hid hKq
    go_simp
    exact hKq.out _ _ rfl (BxX.refl _)
   ·intro a w hE hd ho
    refine .inl ⟨rfl,?_⟩
    intro Kq hKq
    have hF : Ext w3 w:=Ext.trans ((Ext.refl _).drew) (BxX.to_ext hE (Nat.le_refl _))
    have e79 : a.eval (.tmp 79) = .agg #[.int .i64 sn,.slice sa' scs.length sc']:=hd 4 (by kernel_rfl)
    rw [eval_tmp] at e79
    have e81 : a.eval (.tmp 81) = .int .i64 po:=hd 6 (by kernel_rfl)
    rw [eval_tmp] at e81
    have e82 : a.eval (.tmp 82) = .int .i64 n:=hd 7 (by kernel_rfl)
    rw [eval_tmp] at e82
    have e83 : a.eval (.tmp 83) = .int .u8 kind:=hd 8 (by kernel_rfl)
    rw [eval_tmp] at e83
    have e85 : a.eval (.tmp 85) = .int .i64 pt:=hd 10 (by kernel_rfl)
    rw [eval_tmp] at e85
    have e89 : a.eval (.tmp 89) = .agg #[.int .u8 0,.int .i64 m.tag,.int .i64 call]:=hd 14 (by kernel_rfl)
    rw [eval_tmp] at e89
    have e91 : a.eval (.tmp 91) = .slice ra m.run.length rc:=hd 16 (by kernel_rfl)
    rw [eval_tmp] at e91
    clear bMc2 bMc3 bPc1 bPc2 bMc4 r0 r1
    clear hd ho
    replace hKq:=Lib.hid hKq
    go_simp
    refine (stacks_Retag (num:=sn) (a:=po) (n:=n) (kind:=kind) (hpc.out.ext hF) hkb.out pt ⟨0,m.tag,call⟩ (hKc.out.ext hF) (hRc.out.ext hF)).mono ?_
    rintro e wz ⟨v1,vs1,rfl,hO1,hZ⟩
    rw [hdh.out] at hO1 ⊢
    dsimp only at hO1 ⊢
    obtain ⟨a1,c1,rfl,-⟩:=hO1.outer.sl.slice_form
    go_simp
    exact hKq.out _ _ ⟨_,_,_,rfl,OwnS.mono hO1 hF.size⟩ (BxX.of_ext hZ)
   ·intro a w hE hd ho
    refine .inl ⟨rfl,?_⟩
    intro Kq hKq
    have hF : Ext w3 w:=Ext.trans ((Ext.refl _).drew) (BxX.to_ext hE (Nat.le_refl _))
    obtain ⟨xa92,xc92,xu92,e92,g92⟩ : ∃ a' c' us,a.eval (.tmp 92) = .tuple #[.agg #[.int .i64 xn,.slice a' xcs.length c'],.int .u8 why,.int .i64 e4]∧OwnS w w3.drew.heap.size (.slice a' xcs.length c') us xcs:=hd 17 (by kernel_rfl)
    rw [eval_tmp] at e92
    clear bMc2 bMc3 bPc1 bPc2 bMc4 r0 r1
    clear hd ho
    replace hKq:=Lib.hid hKq
    go_simp
    exact hKq.out _ _ ⟨_,_,_,rfl,g92⟩ (BxX.refl _)
   ·intro a w hE hd ho
    refine .inl ⟨rfl,?_⟩
    intro Kq hKq
    have hF : Ext w3 w:=Ext.trans ((Ext.refl _).drew) (BxX.to_ext hE (Nat.le_refl _))
    obtain ⟨xa74,xc74,xu74,e74,g74⟩ : ∃ a' c' us,a.eval (.tmp 74) = .tuple #[.agg #[.int .i64 xn,.slice a' xcs.length c'],.int .u8 why,.int .i64 e4]∧OwnS w w3.drew.heap.size (.slice a' xcs.length c') us xcs:=hd 18 (by kernel_rfl)
    rw [eval_tmp] at e74
    clear bMc2 bMc3 bPc1 bPc2 bMc4 r0 r1
    clear hd ho
    replace hKq:=Lib.hid hKq
    go_simp
    exact hKq.out _ _ ⟨_,_,_,rfl,g74⟩ (BxX.refl _)
   ·intro a w hE hd ho
    refine .inl ⟨rfl,?_⟩
    intro Kq hKq
    have hF : Ext w3 w:=Ext.trans ((Ext.refl _).drew) (BxX.to_ext hE (Nat.le_refl _))
    obtain ⟨xa74,xc74,xu74,e74,g74⟩ : ∃ a' c' us,a.eval (.tmp 74) = .tuple #[.agg #[.int .i64 xn,.slice a' xcs.length c'],.int .u8 why,.int .i64 e4]∧OwnS w w3.drew.heap.size (.slice a' xcs.length c') us xcs:=hd 18 (by kernel_rfl)
    rw [eval_tmp] at e74
    clear bMc2 bMc3 bPc1 bPc2 bMc4 r0 r1
    clear hd ho
    replace hKq:=Lib.hid hKq
    go_simp
    exact hKq.out _ _ rfl (BxX.refl _)
   ·intro a w hE hd ho
    refine .inl ⟨rfl,?_⟩
    intro Kq hKq
    have hF : Ext w3 w:=Ext.trans ((Ext.refl _).drew) (BxX.to_ext hE (Nat.le_refl _))
    obtain ⟨xa74,xc74,xu74,e74,g74⟩ : ∃ a' c' us,a.eval (.tmp 74) = .tuple #[.agg #[.int .i64 xn,.slice a' xcs.length c'],.int .u8 why,.int .i64 e4]∧OwnS w w3.drew.heap.size (.slice a' xcs.length c') us xcs:=hd 18 (by kernel_rfl)
    rw [eval_tmp] at e74
    clear bMc2 bMc3 bPc1 bPc2 bMc4 r0 r1
    clear hd ho
    replace hKq:=Lib.hid hKq
    go_simp
    exact hKq.out _ _ rfl (BxX.refl _)
   ·intro a w hE hd ho
    refine .inl ⟨rfl,?_⟩
    intro Kq hKq
    have hF : Ext w3 w:=Ext.trans ((Ext.refl _).drew) (BxX.to_ext hE (Nat.le_refl _))
    clear bMc2 bMc3 bPc1 bPc2 bMc4 r0 r1
    clear hd ho
    replace hKq:=Lib.hid hKq
    go_simp
    exact hKq.out _ _ ⟨_,rfl,BxX.size hE,#[.int .i64 0,.slice none 0 0],rfl,Box.new _ _ _⟩ (BxX.of_ext ((Ext.refl _).alloc _))
   ·intro a w hE hd ho
    refine .inl ⟨rfl,?_⟩
    intro Kq hKq
    have hF : Ext w3 w:=Ext.trans ((Ext.refl _).drew) (BxX.to_ext hE (Nat.le_refl _))
    obtain ⟨bq,eq,hNb,vs0,hv0,hbx⟩ : ∃ b,a.eval (.tmp 19) = .pointer (some ⟨b,0,none⟩)∧w3.drew.heap.size≤b∧BoxT 44 2 w b:=hd 22 (by kernel_rfl)
    rw [eval_tmp] at eq
    have hBT : BoxT 44 2 w bq:=⟨vs0,hv0,hbx⟩
    obtain ⟨u0,u1,rfl⟩ : ∃ u0 u1,vs0=#[u0,u1]:=by match vs0,hv0 with | ⟨[u0,u1]⟩,_=>exact ⟨u0,u1,rfl⟩
    have bc0 : World.cell? w ⟨bq,0,none⟩=some u0:=hbx.cell 0
    have bf0:=hbx.frozen 0
    have bc1 : World.cell? w ⟨bq,1,none⟩=some u1:=hbx.cell 1
    have bf1:=hbx.frozen 1
    have hbl:=hbx.lt
    replace hBT:=Lib.hid hBT
    obtain ⟨xa93,xc93,xu93,e93,g93⟩ : ∃ a' c' us,a.eval (.tmp 93) = .agg #[.int .i64 xn,.slice a' xcs.length c']∧OwnS w w3.drew.heap.size (.slice a' xcs.length c') us xcs:=hd 19 (by kernel_rfl)
    rw [eval_tmp] at e93
    clear bMc2 bMc3 bPc1 bPc2 bMc4 r0 r1
    have eq0:=Lib.hid ((eval_tmp a 19).trans eq)
    clear hd ho
    replace hKq:=Lib.hid hKq
    go_simp
    have hEb : ExtBut (· = bq) w (World.setCell (World.setCell w ⟨bq,0,none⟩ (.int .i64 xn)) ⟨bq,1,none⟩ (.slice xa93 xcs.length xc93)):=(ExtBut.setCell w ⟨bq,0,none⟩ (.int .i64 xn)).trans (ExtBut.setCell (World.setCell w ⟨bq,0,none⟩ (.int .i64 xn)) ⟨bq,1,none⟩ (.slice xa93 xcs.length xc93))
    have hBx : Box (World.setCell (World.setCell w ⟨bq,0,none⟩ (.int .i64 xn)) ⟨bq,1,none⟩ (.slice xa93 xcs.length xc93)) bq 44 #[.int .i64 xn,.slice xa93 xcs.length xc93]:=(hbx.set 0 _).set 1 _
    have hB0 : BxR w3.drew.heap.size 44 2 w (World.setCell w ⟨bq,0,none⟩ (.int .i64 xn)):=BxR.set hBT.out hNb 0 _
    have hB1 : BxR w3.drew.heap.size 44 2 w (World.setCell (World.setCell w ⟨bq,0,none⟩ (.int .i64 xn)) ⟨bq,1,none⟩ (.slice xa93 xcs.length xc93)):=hB0.trans (BxR.set (hB0.boxT hBT.out) hNb 1 _)
    have hOS:=g93.bxr hB1
    have hRR : (BxX w3.drew.heap.size 44 2 (X35 w3.drew.heap.size ⟨xn,xcs⟩)) w (World.setCell (World.setCell w ⟨bq,0,none⟩ (.int .i64 xn)) ⟨bq,1,none⟩ (.slice xa93 xcs.length xc93)):=BxX.but hEb hBT.out hNb rfl hBx ⟨_,_,_,rfl,hOS⟩
    exact hKq.out undef (World.setCell (World.setCell w ⟨bq,0,none⟩ (.int .i64 xn)) ⟨bq,1,none⟩ (.slice xa93 xcs.length xc93)) ⟨bq,_,_,_,eq0.out,hNb,hBx,hOS⟩ hRR
   ·intro a w hE hd ho
    refine .inl ⟨rfl,?_⟩
    intro Kq hKq
    have hF : Ext w3 w:=Ext.trans ((Ext.refl _).drew) (BxX.to_ext hE (Nat.le_refl _))
    have e94 : a.eval (.tmp 94) = .int .u8 why:=hd 20 (by kernel_rfl)
    rw [eval_tmp] at e94
    clear bMc2 bMc3 bPc1 bPc2 bMc4 r0 r1
    clear hd ho
    replace hKq:=Lib.hid hKq
    go_simp
    exact hKq.out _ _ rfl (BxX.refl _)
   ·intro a w hE hd ho
    refine .inl ⟨rfl,?_⟩
    intro Kq hKq
    have hF : Ext w3 w:=Ext.trans ((Ext.refl _).drew) (BxX.to_ext hE (Nat.le_refl _))
    have e95 : a.eval (.tmp 95) = .int .i64 e4:=hd 21 (by kernel_rfl)
    rw [eval_tmp] at e95
    clear bMc2 bMc3 bPc1 bPc2 bMc4 r0 r1
    clear hd ho
    replace hKq:=Lib.hid hKq
    go_simp
    exact hKq.out _ _ rfl (BxX.refl _)
  ·intro vals Ac wq hAc hE hv hsv
   have hF : Ext w3 wq:=Ext.trans ((Ext.refl _).drew) (BxX.to_ext hE (Nat.le_refl _))
   obtain ⟨BX,xa,xc,xu,eb,hNb,bX,hOx⟩ : ∃ b a c us,vals 23 = .pointer (some ⟨b,0,none⟩)∧w3.drew.heap.size≤b∧Box wq b 44 #[.int .i64 xn,.slice a xcs.length c]∧OwnS wq w3.drew.heap.size (.slice a xcs.length c) us xcs:=hv 23 (by decide)
   have e1 : vals 22 = .pointer (some ⟨BX,0,none⟩):=((hsv 22).trans (hsv 23).symm).trans eb
   have e2 : vals 24 = .int .u8 why:=hv 24 (by decide)
   have e3 : vals 25 = .int .i64 e4:=hv 25 (by decide)
   clear hv hsv hE eb bMc2 bMc3 bPc1 bPc2 bMc4 r0 r1
   subst hAc
   simp only [putAll]
   go_simp
   try rw [e1,e2,e3]
   clear e1 e2 e3
   have szbX:=Lib.hid (by have h3 : w3.heap.size≤BX:=hNb;have h4:=bQ.lt;omega : wS.heap.size+4≤BX)
   have hXs0:=Lib.hid (by have h4:=bQ.lt;omega : wS.heap.size+4≤w3.heap.size)
   replace bM:=bM.ext hF
   replace bP:=bP.ext hF
   replace bR:=bR.ext hF
   replace bQ:=bQ.ext hF
   have hF4:=Ext.trans hF3 hF
   have hxf:=Lib.hid ((OwnS.fs hOx).mono (S':=fun b=>wS.heap.size+4≤b∧b < wq.heap.size) (fun b h1 hl=>⟨by have h2 : w3.heap.size≤b:=h1;have h3:=hXs0.out;omega,hl⟩))
   clear hNb hOx hKc hRc
   have hXx:=Lib.hid (ExtBut.refl (fun b=>wS.heap.size≤b∧b < wS.heap.size+4) wq)
   have hXl:=Lib.hid bX.lt
   clear hpc
   by_cases he4 : e4=0
   rotate_left
   ·skip
    have q4 : (e4 != 0)=true:=by simpa using he4
    have hres1:=hres.out;rw [if_neg (fun h=>he4 h.1)] at hres1;replace hres1:=Lib.hid hres1
    clear he4
    obtain ⟨bM_0,bM_1,bM_2,bM_3,bM_4,bM_5,bM_l⟩:=bM.c6
    have bR_0 : World.cell? wq ⟨wS.heap.size+2,0,none⟩=some (.slice none 0 0):=bR.cell 0
    have bR_1 : World.cell? wq ⟨wS.heap.size+2,1,none⟩=some (.int .i64 0):=bR.cell 1
    have bR_2 : World.cell? wq ⟨wS.heap.size+2,2,none⟩=some (.slice none 0 0):=bR.cell 2
    have bR_3 : World.cell? wq ⟨wS.heap.size+2,3,none⟩=some (.slice none 0 0):=bR.cell 3
    have bR_4 : World.cell? wq ⟨wS.heap.size+2,4,none⟩=some (.int .i64 0):=bR.cell 4
    have bR_5 : World.cell? wq ⟨wS.heap.size+2,5,none⟩=some (.int .i64 0):=bR.cell 5
    have bR_f0 : World.frozen? wq ⟨wS.heap.size+2,0,none⟩=false:=bR.frozen 0
    have bR_f1 : World.frozen? wq ⟨wS.heap.size+2,1,none⟩=false:=bR.frozen 1
    have bR_f2 : World.frozen? wq ⟨wS.heap.size+2,2,none⟩=false:=bR.frozen 2
    have bR_f3 : World.frozen? wq ⟨wS.heap.size+2,3,none⟩=false:=bR.frozen 3
    have bR_f4 : World.frozen? wq ⟨wS.heap.size+2,4,none⟩=false:=bR.frozen 4
    have bR_f5 : World.frozen? wq ⟨wS.heap.size+2,5,none⟩=false:=bR.frozen 5
    have bR_l:=bR.lt
    have bQ_0 : World.cell? wq ⟨wS.heap.size+3,0,none⟩=some (.int .i64 0):=bQ.cell 0
    have bQ_1 : World.cell? wq ⟨wS.heap.size+3,1,none⟩=some (.int .i64 0):=bQ.cell 1
    have bQ_2 : World.cell? wq ⟨wS.heap.size+3,2,none⟩=some (.int .i64 0):=bQ.cell 2
    have bQ_f0 : World.frozen? wq ⟨wS.heap.size+3,0,none⟩=false:=bQ.frozen 0
    have bQ_f1 : World.frozen? wq ⟨wS.heap.size+3,1,none⟩=false:=bQ.frozen 1
    have bQ_f2 : World.frozen? wq ⟨wS.heap.size+3,2,none⟩=false:=bQ.frozen 2
    have bQ_l:=bQ.lt
    go_wp2
    rw [hres1.out]
    have hXe : ExtBut (fun b=>wS.heap.size≤b∧b < wS.heap.size+4) wq (World.setCell (World.setCell (World.setCell (World.setCell (World.setCell (World.setCell (World.setCell (World.setCell (World.setCell wq ⟨wS.heap.size+2,0,none⟩ (.slice none 0 0)) ⟨wS.heap.size+2,1,none⟩ (.int .i64 0)) ⟨wS.heap.size+2,2,none⟩ (.slice none 0 0)) ⟨wS.heap.size+2,3,none⟩ (.slice none 0 0)) ⟨wS.heap.size+2,4,none⟩ (.int .i64 0)) ⟨wS.heap.size+2,5,none⟩ (.int .i64 0)) ⟨wS.heap.size+3,0,none⟩ (.int .i64 0)) ⟨wS.heap.size+3,1,none⟩ (.int .i64 0)) ⟨wS.heap.size+3,2,none⟩ (.int .i64 0)):=by (repeat' with_reducible first | exact ExtBut.refl _ _ | refine ExtBut.dr ?_ | refine ExtBut.sc ?_ ?_ | fail) <;> dsimp only <;> omega
    refine bodyPost_ret (v := .tuple #[.agg #[.slice none 0 0,.int .i64 0,.slice none 0 0,.slice none 0 0,.int .i64 0,.int .i64 0],.agg #[.int .i64 0,.int .i64 0,.int .i64 0],.int .u8 why,.int .i64 e4]) (by simp [results,Tryd.f9,go_sem,bR_0,bR_1,bR_2,bR_3,bR_4,bR_5,bQ_0,bQ_1,bQ_2]) rfl ?_
    have hFe:=ExtBut.ext hF4 hXe (fun b h=>h.1)
    have hXxe:=ExtBut.trans hXx.out hXe
    exact ⟨_,rfl,FrMon.zero _ _,hFe⟩
   subst he4
   by_cases hw : why=0
   rotate_left
   ·skip
    have q4 : (why != 0)=true:=by simpa using hw
    have hres1:=hres.out;rw [if_neg (fun h=>hw h.2)] at hres1;replace hres1:=Lib.hid hres1
    clear hw
    obtain ⟨bM_0,bM_1,bM_2,bM_3,bM_4,bM_5,bM_l⟩:=bM.c6
    have bR_0 : World.cell? wq ⟨wS.heap.size+2,0,none⟩=some (.slice none 0 0):=bR.cell 0
    have bR_1 : World.cell? wq ⟨wS.heap.size+2,1,none⟩=some (.int .i64 0):=bR.cell 1
    have bR_2 : World.cell? wq ⟨wS.heap.size+2,2,none⟩=some (.slice none 0 0):=bR.cell 2
    have bR_3 : World.cell? wq ⟨wS.heap.size+2,3,none⟩=some (.slice none 0 0):=bR.cell 3
    have bR_4 : World.cell? wq ⟨wS.heap.size+2,4,none⟩=some (.int .i64 0):=bR.cell 4
    have bR_5 : World.cell? wq ⟨wS.heap.size+2,5,none⟩=some (.int .i64 0):=bR.cell 5
    have bR_f0 : World.frozen? wq ⟨wS.heap.size+2,0,none⟩=false:=bR.frozen 0
    have bR_f1 : World.frozen? wq ⟨wS.heap.size+2,1,none⟩=false:=bR.frozen 1
    have bR_f2 : World.frozen? wq ⟨wS.heap.size+2,2,none⟩=false:=bR.frozen 2
    have bR_f3 : World.frozen? wq ⟨wS.heap.size+2,3,none⟩=false:=bR.frozen 3
    have bR_f4 : World.frozen? wq ⟨wS.heap.size+2,4,none⟩=false:=bR.frozen 4
    have bR_f5 : World.frozen? wq ⟨wS.heap.size+2,5,none⟩=false:=bR.frozen 5
    have bR_l:=bR.lt
    have bQ_0 : World.cell? wq ⟨wS.heap.size+3,0,none⟩=some (.int .i64 0):=bQ.cell 0
    have bQ_1 : World.cell? wq ⟨wS.heap.size+3,1,none⟩=some (.int .i64 0):=bQ.cell 1
    have bQ_2 : World.cell? wq ⟨wS.heap.size+3,2,none⟩=some (.int .i64 0):=bQ.cell 2
    have bQ_f0 : World.frozen? wq ⟨wS.heap.size+3,0,none⟩=false:=bQ.frozen 0
    have bQ_f1 : World.frozen? wq ⟨wS.heap.size+3,1,none⟩=false:=bQ.frozen 1
    have bQ_f2 : World.frozen? wq ⟨wS.heap.size+3,2,none⟩=false:=bQ.frozen 2
    have bQ_l:=bQ.lt
    go_wp2
    rw [hres1.out]
    have hXe : ExtBut (fun b=>wS.heap.size≤b∧b < wS.heap.size+4) wq (World.setCell (World.setCell (World.setCell (World.setCell (World.setCell (World.setCell (World.setCell (World.setCell (World.setCell wq ⟨wS.heap.size+2,0,none⟩ (.slice none 0 0)) ⟨wS.heap.size+2,1,none⟩ (.int .i64 0)) ⟨wS.heap.size+2,2,none⟩ (.slice none 0 0)) ⟨wS.heap.size+2,3,none⟩ (.slice none 0 0)) ⟨wS.heap.size+2,4,none⟩ (.int .i64 0)) ⟨wS.heap.size+2,5,none⟩ (.int .i64 0)) ⟨wS.heap.size+3,0,none⟩ (.int .i64 0)) ⟨wS.heap.size+3,1,none⟩ (.int .i64 0)) ⟨wS.heap.size+3,2,none⟩ (.int .i64 0)):=by (repeat' with_reducible first | exact ExtBut.refl _ _ | refine ExtBut.dr ?_ | refine ExtBut.sc ?_ ?_ | fail) <;> dsimp only <;> omega
    refine bodyPost_ret (v := .tuple #[.agg #[.slice none 0 0,.int .i64 0,.slice none 0 0,.slice none 0 0,.int .i64 0,.int .i64 0],.agg #[.int .i64 0,.int .i64 0,.int .i64 0],.int .u8 why,.int .i64 0]) (by simp [results,Tryd.f9,go_sem,bR_0,bR_1,bR_2,bR_3,bR_4,bR_5,bQ_0,bQ_1,bQ_2]) rfl ?_
    have hFe:=ExtBut.ext hF4 hXe (fun b h=>h.1)
    have hXxe:=ExtBut.trans hXx.out hXe
    exact ⟨_,rfl,FrMon.zero _ _,hFe⟩
   subst hw
   have hres1:=hres.out;rw [if_pos ⟨rfl,rfl⟩] at hres1;replace hres1:=Lib.hid hres1;clear hres
   obtain ⟨bM_0,bM_1,bM_2,bM_3,bM_4,bM_5,bM_l⟩:=bM.c6
   have bP_0 : World.cell? wq ⟨wS.heap.size+1,0,none⟩=some (.int .i64 pa):=bP.cell 0
   have bP_1 : World.cell? wq ⟨wS.heap.size+1,1,none⟩=some (.int .i64 po):=bP.cell 1
   have bP_2 : World.cell? wq ⟨wS.heap.size+1,2,none⟩=some (.int .i64 pt):=bP.cell 2
   have bP_f0 : World.frozen? wq ⟨wS.heap.size+1,0,none⟩=false:=bP.frozen 0
   have bP_f1 : World.frozen? wq ⟨wS.heap.size+1,1,none⟩=false:=bP.frozen 1
   have bP_f2 : World.frozen? wq ⟨wS.heap.size+1,2,none⟩=false:=bP.frozen 2
   have bP_l:=bP.lt
   go_wp2_with fail
   clear bM_0 bM_1 bM_2 bM_3 bM_4 bM_5 bM_l bP_0 bP_1 bP_2 bP_f0 bP_f1 bP_f2 bP_l
   have hS5 : ExtBut (fun b=>wS.heap.size≤b∧b < wS.heap.size+4) wq (World.setCell wq ⟨wS.heap.size+1,2,none⟩ (.int .i64 m.tag)):=((ExtBut.setCell wq ⟨wS.heap.size+1,2,none⟩ (.int .i64 m.tag)).mono (S':=(fun b=>wS.heap.size≤b∧b < wS.heap.size+4)) (fun b _ h=>by have h' : b=wS.heap.size+1:=h;omega))
   replace bM:=(Box.other bM (p:=⟨wS.heap.size+1,2,none⟩) (by simp) (.int .i64 m.tag))
   replace bP:=(Box.setL bP 2 (.int .i64 m.tag))
   simp only [List.set_cons_zero,List.set_cons_succ] at bP
   replace bR:=(Box.other bR (p:=⟨wS.heap.size+1,2,none⟩) (by simp) (.int .i64 m.tag))
   replace bQ:=(Box.other bQ (p:=⟨wS.heap.size+1,2,none⟩) (by simp) (.int .i64 m.tag))
   replace bX:=(Box.other bX (p:=⟨wS.heap.size+1,2,none⟩) (by have:=szbX.out;show wS.heap.size+1≠BX;omega) (.int .i64 m.tag))
   obtain ⟨w5s,hw5⟩ : ∃ z,(World.setCell wq ⟨wS.heap.size+1,2,none⟩ (.int .i64 m.tag))=z:=⟨_,rfl⟩
   rw [hw5] at hS5 bM bP bR bQ bX ⊢
   clear hw5
   have hF5:=ExtBut.ext hF4 hS5 (fun b h=>h.1)
   replace hXx:=Lib.hid (ExtBut.trans hXx.out hS5)
   clear hS5
   have hXcs:=Lib.hid (by have:=bQ.lt;omega : wS.heap.size+4≤w5s.heap.size)
   have hXx_hXc:=Lib.hid hXx.out.size
   refine (monitor_clone (hA.out.ext hF5) (hK.out.ext hF5) (hR.out.ext hF5) hcl.out.1 hcl.out.2.1 hcl.out.2.2).mono ?_
   rintro e w6 ⟨c,ca,ck,cr,vs,rfl,hC,hE6⟩
   replace bM:=bM.ext hE6
   replace bP:=bP.ext hE6
   replace bR:=bR.ext hE6
   replace bQ:=bQ.ext hE6
   replace bX:=bX.ext hE6
   replace hXx:=Lib.hid (ExtBut.trans hXx.out (ExtBut.of_ext hE6))
   have hF6:=Ext.trans hF5 hE6
   have hv:=hC.al.read.form
   obtain ⟨ca,cac,rfl,-⟩:=hv
   have hv:=hC.outer.sl.slice_form
   obtain ⟨ck,ckc,rfl,-⟩:=hv
   have hv:=hC.run.read.form
   obtain ⟨cr,crc,rfl,-⟩:=hv
   replace hC:=Lib.hid hC
   have hXc:=Lib.hid (ExtBut.refl (fun b=>wS.heap.size≤b∧b < wS.heap.size+4) w6)
   have bM_0 : World.cell? w6 ⟨wS.heap.size,0,none⟩=some (.slice aa m.mem.al.length ac):=bM.cell 0
   have bM_1 : World.cell? w6 ⟨wS.heap.size,1,none⟩=some (.int .i64 m.mem.next):=bM.cell 1
   have bM_2 : World.cell? w6 ⟨wS.heap.size,2,none⟩=some (.slice (some ⟨kb,ko,none⟩) m.stks.length kc):=bM.cell 2
   have bM_3 : World.cell? w6 ⟨wS.heap.size,3,none⟩=some (.slice ra m.run.length rc):=bM.cell 3
   have bM_4 : World.cell? w6 ⟨wS.heap.size,4,none⟩=some (.int .i64 m.tag):=bM.cell 4
   have bM_5 : World.cell? w6 ⟨wS.heap.size,5,none⟩=some (.int .i64 m.call):=bM.cell 5
   have bM_f0 : World.frozen? w6 ⟨wS.heap.size,0,none⟩=false:=bM.frozen 0
   have bM_f1 : World.frozen? w6 ⟨wS.heap.size,1,none⟩=false:=bM.frozen 1
   have bM_f2 : World.frozen? w6 ⟨wS.heap.size,2,none⟩=false:=bM.frozen 2
   have bM_f3 : World.frozen? w6 ⟨wS.heap.size,3,none⟩=false:=bM.frozen 3
   have bM_f4 : World.frozen? w6 ⟨wS.heap.size,4,none⟩=false:=bM.frozen 4
   have bM_f5 : World.frozen? w6 ⟨wS.heap.size,5,none⟩=false:=bM.frozen 5
   have bM_l:=bM.lt
   obtain ⟨bP_0,bP_1,bP_2,bP_l⟩:=bP.c3
   go_upto_region 19 with fail
   clear bM_0 bM_1 bM_2 bM_3 bM_4 bM_5 bM_f0 bM_f1 bM_f2 bM_f3 bM_f4 bM_f5 bM_l bP_0 bP_1 bP_2 bP_l
   have hS7 : ExtBut (fun b=>wS.heap.size≤b∧b < wS.heap.size+4) w6 (World.setCell (World.setCell (World.setCell (World.setCell (World.setCell (World.setCell w6 ⟨wS.heap.size,0,none⟩ (.slice ca m.mem.al.length cac)) ⟨wS.heap.size,1,none⟩ (.int .i64 m.mem.next)) ⟨wS.heap.size,2,none⟩ (.slice ck m.stks.length ckc)) ⟨wS.heap.size,3,none⟩ (.slice cr m.run.length crc)) ⟨wS.heap.size,4,none⟩ (.int .i64 m.tag)) ⟨wS.heap.size,5,none⟩ (.int .i64 m.call)):=by (repeat' with_reducible first | exact ExtBut.refl _ _ | refine ExtBut.dr ?_ | refine ExtBut.sc ?_ ?_ | fail) <;> dsimp only <;> omega
   replace bM:=(Box.setL (Box.setL (Box.setL (Box.setL (Box.setL (Box.setL bM 0 (.slice ca m.mem.al.length cac)) 1 (.int .i64 m.mem.next)) 2 (.slice ck m.stks.length ckc)) 3 (.slice cr m.run.length crc)) 4 (.int .i64 m.tag)) 5 (.int .i64 m.call))
   simp only [List.set_cons_zero,List.set_cons_succ] at bM
   replace bP:=(Box.other (Box.other (Box.other (Box.other (Box.other (Box.other bP (p:=⟨wS.heap.size,0,none⟩) (by simp) (.slice ca m.mem.al.length cac)) (p:=⟨wS.heap.size,1,none⟩) (by simp) (.int .i64 m.mem.next)) (p:=⟨wS.heap.size,2,none⟩) (by simp) (.slice ck m.stks.length ckc)) (p:=⟨wS.heap.size,3,none⟩) (by simp) (.slice cr m.run.length crc)) (p:=⟨wS.heap.size,4,none⟩) (by simp) (.int .i64 m.tag)) (p:=⟨wS.heap.size,5,none⟩) (by simp) (.int .i64 m.call))
   replace bR:=(Box.other (Box.other (Box.other (Box.other (Box.other (Box.other bR (p:=⟨wS.heap.size,0,none⟩) (by simp) (.slice ca m.mem.al.length cac)) (p:=⟨wS.heap.size,1,none⟩) (by simp) (.int .i64 m.mem.next)) (p:=⟨wS.heap.size,2,none⟩) (by simp) (.slice ck m.stks.length ckc)) (p:=⟨wS.heap.size,3,none⟩) (by simp) (.slice cr m.run.length crc)) (p:=⟨wS.heap.size,4,none⟩) (by simp) (.int .i64 m.tag)) (p:=⟨wS.heap.size,5,none⟩) (by simp) (.int .i64 m.call))
   replace bQ:=(Box.other (Box.other (Box.other (Box.other (Box.other (Box.other bQ (p:=⟨wS.heap.size,0,none⟩) (by simp) (.slice ca m.mem.al.length cac)) (p:=⟨wS.heap.size,1,none⟩) (by simp) (.int .i64 m.mem.next)) (p:=⟨wS.heap.size,2,none⟩) (by simp) (.slice ck m.stks.length ckc)) (p:=⟨wS.heap.size,3,none⟩) (by simp) (.slice cr m.run.length crc)) (p:=⟨wS.heap.size,4,none⟩) (by simp) (.int .i64 m.tag)) (p:=⟨wS.heap.size,5,none⟩) (by simp) (.int .i64 m.call))
   replace bX:=(Box.other (Box.other (Box.other (Box.other (Box.other (Box.other bX (p:=⟨wS.heap.size,0,none⟩) (by have:=szbX.out;show wS.heap.size≠BX;omega) (.slice ca m.mem.al.length cac)) (p:=⟨wS.heap.size,1,none⟩) (by have:=szbX.out;show wS.heap.size≠BX;omega) (.int .i64 m.mem.next)) (p:=⟨wS.heap.size,2,none⟩) (by have:=szbX.out;show wS.heap.size≠BX;omega) (.slice ck m.stks.length ckc)) (p:=⟨wS.heap.size,3,none⟩) (by have:=szbX.out;show wS.heap.size≠BX;omega) (.slice cr m.run.length crc)) (p:=⟨wS.heap.size,4,none⟩) (by have:=szbX.out;show wS.heap.size≠BX;omega) (.int .i64 m.tag)) (p:=⟨wS.heap.size,5,none⟩) (by have:=szbX.out;show wS.heap.size≠BX;omega) (.int .i64 m.call))
   obtain ⟨w7s,hw7⟩ : ∃ z,(World.setCell (World.setCell (World.setCell (World.setCell (World.setCell (World.setCell w6 ⟨wS.heap.size,0,none⟩ (.slice ca m.mem.al.length cac)) ⟨wS.heap.size,1,none⟩ (.int .i64 m.mem.next)) ⟨wS.heap.size,2,none⟩ (.slice ck m.stks.length ckc)) ⟨wS.heap.size,3,none⟩ (.slice cr m.run.length crc)) ⟨wS.heap.size,4,none⟩ (.int .i64 m.tag)) ⟨wS.heap.size,5,none⟩ (.int .i64 m.call))=z:=⟨_,rfl⟩
   rw [hw7] at hS7 bM bP bR bQ bX ⊢
   clear hw7
   have hF7:=ExtBut.ext hF6 hS7 (fun b h=>h.1)
   replace hXx:=Lib.hid (ExtBut.trans hXx.out hS7)
   replace hXc:=Lib.hid (ExtBut.trans hXc.out hS7)
   clear hS7
   obtain ⟨G,sv,e,hG1,hG2,hvs,-,c0,c1,hfr⟩:=OwnK.cell (Cloned.own hC.out) hsth.out
   subst e
   have hhXc1:=hXcs.out;have hhXc2:=hXc.out.size
   have hGn : ¬ ((fun b=>wS.heap.size≤b∧b < wS.heap.size+4)) G:=by intro h;omega
   have d0:=hXc.out.cell c0 hGn
   have d1:=hXc.out.cell c1 hGn
   have hOo:=ExtBut.own (Cloned.own hC.out).outer hXc.out (fun g e=>by have e' : some G=some g:=e;cases e';exact hGn)
   have hfr0:=hOo.frozen (i * 2);have hfr1:=hOo.frozen (i * 2+1)
   have hXlo:=hXl.out;have hXxt:=hXx_hXc.out
   have hGX : G≠BX:=by omega
   have hGW : G < w7s.heap.size:=by omega
   clear hOo;replace hvs:=Lib.hid hvs;replace hGn:=Lib.hid hGn
   clear c0 c1 hfr hhXc2
   obtain ⟨bM_0,bM_1,bM_2,bM_3,bM_4,bM_5,bM_l⟩:=bM.c6
   obtain ⟨bX_0,bX_1,bX_l⟩:=bX.c2
   go_upto_region 20 with fail
   clear bM_0 bM_1 bM_2 bM_3 bM_4 bM_5 bM_l bX_0 bX_1 bX_l
   have hXg : ExtBut (fun b=>b=G) w7s (World.setCell (World.setCell w7s ⟨G,i * 2,none⟩ (.int .i64 xn)) ⟨G,i * 2+1,none⟩ (.slice xa xcs.length xc)):=by repeat' first | exact ExtBut.refl _ _ | refine ExtBut.sc ?_ rfl | refine ExtBut.dr ?_
   have hOo:=ExtBut.own (Cloned.own hC.out).outer hXc.out (fun g e=>by have e' : some G=some g:=e;cases e';exact hGn.out)
   have hOg:=(hOo.set (i * 2) (.int .i64 xn)).set (i * 2+1) (.slice xa xcs.length xc)
   have hXT:=(hXc.out.mono (S':=fun b=>b < wS.heap.size+4∨b=G) (fun b _ h => .inl h.2)).trans (hXg.mono (fun b _ h => .inr h))
   have hXX:=(hXx.out.mono (S':=fun b=>b < wS.heap.size+4∨b=G) (fun b _ h => .inl h.2)).trans (hXg.mono (fun b _ h => .inr h))
   have hxW:=hxf.out.to (S':=fun b=>wS.heap.size+4≤b) hXX (fun b h1 hl h2=>by have:=h1.1;have:=h1.2;rcases h2 with h2 | h2 <;> omega) (fun b h1 _=>h1.1)
   have hKf:=OwnK.setS (y:=⟨xn,xcs⟩) (Cloned.own hC.out) hi2 hXT (fun b h1 h2 _=>⟨fun h=>by rcases h with h | h <;> omega,by omega⟩) (by omega) hOg hxW
   have hRf:=hC.out.run.to (S':=fun b=>wS.heap.size+4≤b) hXT (fun b h1 _ h2=>by rcases h2 with h2 | h2;omega;have h3:=hC.out.out0 b (by rw [h2];rfl);have h4:=h1.2;omega) (fun b h1 _=>by have:=h1.1;omega)
   have hAf:=hC.out.al.to (S':=fun b=>wS.heap.size+4≤b) hXT (fun b h1 _ h2=>by rcases h2 with h2 | h2;omega;have h3:=hC.out.out0 b (by rw [h2];rfl);have h4:=h1.2;omega) (fun b h1 _=>by have:=h1.1;omega)
   replace bM:=bM.but hXg (by omega);replace bP:=bP.but hXg (by omega);replace bR:=bR.but hXg (by omega);replace bQ:=bQ.but hXg (by omega)
   have hFg:=ExtBut.ext hF7 hXg (fun b h=>by have h' : b=G:=h;omega)
   replace hKf:=Lib.hid hKf
   replace hRf:=Lib.hid hRf
   replace hAf:=Lib.hid hAf
   obtain ⟨wE,hwE⟩ : ∃ z,(World.setCell (World.setCell w7s ⟨G,i * 2,none⟩ (.int .i64 xn)) ⟨G,i * 2+1,none⟩ (.slice xa xcs.length xc))=z:=⟨_,rfl⟩
   rw [hwE] at hKf hRf hAf bM bP bR bQ hFg ⊢
   clear hwE hXg hOg hXT hXX hxW hXc hXx hOo hGn d0 d1 hfr0 hfr1 hGW
   have hXz:=Lib.hid (ExtBut.refl (fun b=>wS.heap.size≤b∧b < wS.heap.size+4) wE)
   have bM_0 : World.cell? wE ⟨wS.heap.size,0,none⟩=some (.slice ca m.mem.al.length cac):=bM.cell 0
   have bM_1 : World.cell? wE ⟨wS.heap.size,1,none⟩=some (.int .i64 m.mem.next):=bM.cell 1
   have bM_2 : World.cell? wE ⟨wS.heap.size,2,none⟩=some (.slice (some ⟨G,0,none⟩) m.stks.length ckc):=bM.cell 2
   have bM_3 : World.cell? wE ⟨wS.heap.size,3,none⟩=some (.slice cr m.run.length crc):=bM.cell 3
   have bM_4 : World.cell? wE ⟨wS.heap.size,4,none⟩=some (.int .i64 m.tag):=bM.cell 4
   have bM_5 : World.cell? wE ⟨wS.heap.size,5,none⟩=some (.int .i64 m.call):=bM.cell 5
   have bM_f0 : World.frozen? wE ⟨wS.heap.size,0,none⟩=false:=bM.frozen 0
   have bM_f1 : World.frozen? wE ⟨wS.heap.size,1,none⟩=false:=bM.frozen 1
   have bM_f2 : World.frozen? wE ⟨wS.heap.size,2,none⟩=false:=bM.frozen 2
   have bM_f3 : World.frozen? wE ⟨wS.heap.size,3,none⟩=false:=bM.frozen 3
   have bM_f4 : World.frozen? wE ⟨wS.heap.size,4,none⟩=false:=bM.frozen 4
   have bM_f5 : World.frozen? wE ⟨wS.heap.size,5,none⟩=false:=bM.frozen 5
   have bM_l:=bM.lt
   obtain ⟨bP_0,bP_1,bP_2,bP_l⟩:=bP.c3
   go_upto_region 21 with fail
   clear bM_0 bM_1 bM_2 bM_3 bM_4 bM_5 bM_f0 bM_f1 bM_f2 bM_f3 bM_f4 bM_f5 bM_l bP_0 bP_1 bP_2 bP_l
   have hS8 : ExtBut (fun b=>wS.heap.size≤b∧b < wS.heap.size+4) wE (World.setCell wE ⟨wS.heap.size,4,none⟩ (.int .i64 (m.tag+1))):=((ExtBut.setCell wE ⟨wS.heap.size,4,none⟩ (.int .i64 (m.tag+1))).mono (S':=(fun b=>wS.heap.size≤b∧b < wS.heap.size+4)) (fun b _ h=>by have h' : b=wS.heap.size:=h;omega))
   replace bM:=(Box.setL bM 4 (.int .i64 (m.tag+1)))
   simp only [List.set_cons_zero,List.set_cons_succ] at bM
   replace bP:=(Box.other bP (p:=⟨wS.heap.size,4,none⟩) (by simp) (.int .i64 (m.tag+1)))
   replace bR:=(Box.other bR (p:=⟨wS.heap.size,4,none⟩) (by simp) (.int .i64 (m.tag+1)))
   replace bQ:=(Box.other bQ (p:=⟨wS.heap.size,4,none⟩) (by simp) (.int .i64 (m.tag+1)))
   obtain ⟨w8s,hw8⟩ : ∃ z,(World.setCell wE ⟨wS.heap.size,4,none⟩ (.int .i64 (m.tag+1)))=z:=⟨_,rfl⟩
   rw [hw8] at hS8 bM bP bR bQ ⊢
   clear hw8
   have hF8:=ExtBut.ext hFg hS8 (fun b h=>h.1)
   replace hXz:=Lib.hid (ExtBut.trans hXz.out hS8)
   clear hS8
   obtain ⟨bM_0,bM_1,bM_2,bM_3,bM_4,bM_5,bM_l⟩:=bM.c6
   obtain ⟨bP_0,bP_1,bP_2,bP_l⟩:=bP.c3
   have bR_0 : World.cell? w8s ⟨wS.heap.size+2,0,none⟩=some (.slice none 0 0):=bR.cell 0
   have bR_1 : World.cell? w8s ⟨wS.heap.size+2,1,none⟩=some (.int .i64 0):=bR.cell 1
   have bR_2 : World.cell? w8s ⟨wS.heap.size+2,2,none⟩=some (.slice none 0 0):=bR.cell 2
   have bR_3 : World.cell? w8s ⟨wS.heap.size+2,3,none⟩=some (.slice none 0 0):=bR.cell 3
   have bR_4 : World.cell? w8s ⟨wS.heap.size+2,4,none⟩=some (.int .i64 0):=bR.cell 4
   have bR_5 : World.cell? w8s ⟨wS.heap.size+2,5,none⟩=some (.int .i64 0):=bR.cell 5
   have bR_f0 : World.frozen? w8s ⟨wS.heap.size+2,0,none⟩=false:=bR.frozen 0
   have bR_f1 : World.frozen? w8s ⟨wS.heap.size+2,1,none⟩=false:=bR.frozen 1
   have bR_f2 : World.frozen? w8s ⟨wS.heap.size+2,2,none⟩=false:=bR.frozen 2
   have bR_f3 : World.frozen? w8s ⟨wS.heap.size+2,3,none⟩=false:=bR.frozen 3
   have bR_f4 : World.frozen? w8s ⟨wS.heap.size+2,4,none⟩=false:=bR.frozen 4
   have bR_f5 : World.frozen? w8s ⟨wS.heap.size+2,5,none⟩=false:=bR.frozen 5
   have bR_l:=bR.lt
   have bQ_0 : World.cell? w8s ⟨wS.heap.size+3,0,none⟩=some (.int .i64 0):=bQ.cell 0
   have bQ_1 : World.cell? w8s ⟨wS.heap.size+3,1,none⟩=some (.int .i64 0):=bQ.cell 1
   have bQ_2 : World.cell? w8s ⟨wS.heap.size+3,2,none⟩=some (.int .i64 0):=bQ.cell 2
   have bQ_f0 : World.frozen? w8s ⟨wS.heap.size+3,0,none⟩=false:=bQ.frozen 0
   have bQ_f1 : World.frozen? w8s ⟨wS.heap.size+3,1,none⟩=false:=bQ.frozen 1
   have bQ_f2 : World.frozen? w8s ⟨wS.heap.size+3,2,none⟩=false:=bQ.frozen 2
   have bQ_l:=bQ.lt
   go_region
   go_wp2
   rw [hres1.out]
   have hXe : ExtBut (fun b=>wS.heap.size≤b∧b < wS.heap.size+4) w8s (World.drew (World.setCell (World.setCell (World.setCell (World.setCell (World.setCell (World.setCell (World.setCell (World.setCell (World.setCell w8s ⟨wS.heap.size+2,0,none⟩ (.slice ca m.mem.al.length cac)) ⟨wS.heap.size+2,1,none⟩ (.int .i64 m.mem.next)) ⟨wS.heap.size+2,2,none⟩ (.slice (some ⟨G,0,none⟩) m.stks.length ckc)) ⟨wS.heap.size+2,3,none⟩ (.slice cr m.run.length crc)) ⟨wS.heap.size+2,4,none⟩ (.int .i64 (m.tag+1))) ⟨wS.heap.size+2,5,none⟩ (.int .i64 m.call)) ⟨wS.heap.size+3,0,none⟩ (.int .i64 pa)) ⟨wS.heap.size+3,1,none⟩ (.int .i64 po)) ⟨wS.heap.size+3,2,none⟩ (.int .i64 m.tag))):=(ExtBut.trans (ExtBut.trans (ExtBut.trans (ExtBut.trans (ExtBut.trans (ExtBut.trans (ExtBut.trans (ExtBut.trans (ExtBut.trans ((ExtBut.setCell w8s ⟨wS.heap.size+2,0,none⟩ (.slice ca m.mem.al.length cac)).mono (S':=(fun b=>wS.heap.size≤b∧b < wS.heap.size+4)) (fun b _ h=>by have h' : b=wS.heap.size+2:=h;omega)) ((ExtBut.setCell (World.setCell w8s ⟨wS.heap.size+2,0,none⟩ (.slice ca m.mem.al.length cac)) ⟨wS.heap.size+2,1,none⟩ (.int .i64 m.mem.next)).mono (S':=(fun b=>wS.heap.size≤b∧b < wS.heap.size+4)) (fun b _ h=>by have h' : b=wS.heap.size+2:=h;omega))) ((ExtBut.setCell (World.setCell (World.setCell w8s ⟨wS.heap.size+2,0,none⟩ (.slice ca m.mem.al.length cac)) ⟨wS.heap.size+2,1,none⟩ (.int .i64 m.mem.next)) ⟨wS.heap.size+2,2,none⟩ (.slice (some ⟨G,0,none⟩) m.stks.length ckc)).mono (S':=(fun b=>wS.heap.size≤b∧b < wS.heap.size+4)) (fun b _ h=>by have h' : b=wS.heap.size+2:=h;omega))) ((ExtBut.setCell (World.setCell (World.setCell (World.setCell w8s ⟨wS.heap.size+2,0,none⟩ (.slice ca m.mem.al.length cac)) ⟨wS.heap.size+2,1,none⟩ (.int .i64 m.mem.next)) ⟨wS.heap.size+2,2,none⟩ (.slice (some ⟨G,0,none⟩) m.stks.length ckc)) ⟨wS.heap.size+2,3,none⟩ (.slice cr m.run.length crc)).mono (S':=(fun b=>wS.heap.size≤b∧b < wS.heap.size+4)) (fun b _ h=>by have h' : b=wS.heap.size+2:=h;omega))) ((ExtBut.setCell (World.setCell (World.setCell (World.setCell (World.setCell w8s ⟨wS.heap.size+2,0,none⟩ (.slice ca m.mem.al.length cac)) ⟨wS.heap.size+2,1,none⟩ (.int .i64 m.mem.next)) ⟨wS.heap.size+2,2,none⟩ (.slice (some ⟨G,0,none⟩) m.stks.length ckc)) ⟨wS.heap.size+2,3,none⟩ (.slice cr m.run.length crc)) ⟨wS.heap.size+2,4,none⟩ (.int .i64 (m.tag+1))).mono (S':=(fun b=>wS.heap.size≤b∧b < wS.heap.size+4)) (fun b _ h=>by have h' : b=wS.heap.size+2:=h;omega))) ((ExtBut.setCell (World.setCell (World.setCell (World.setCell (World.setCell (World.setCell w8s ⟨wS.heap.size+2,0,none⟩ (.slice ca m.mem.al.length cac)) ⟨wS.heap.size+2,1,none⟩ (.int .i64 m.mem.next)) ⟨wS.heap.size+2,2,none⟩ (.slice (some ⟨G,0,none⟩) m.stks.length ckc)) ⟨wS.heap.size+2,3,none⟩ (.slice cr m.run.length crc)) ⟨wS.heap.size+2,4,none⟩ (.int .i64 (m.tag+1))) ⟨wS.heap.size+2,5,none⟩ (.int .i64 m.call)).mono (S':=(fun b=>wS.heap.size≤b∧b < wS.heap.size+4)) (fun b _ h=>by have h' : b=wS.heap.size+2:=h;omega))) ((ExtBut.setCell (World.setCell (World.setCell (World.setCell (World.setCell (World.setCell (World.setCell w8s ⟨wS.heap.size+2,0,none⟩ (.slice ca m.mem.al.length cac)) ⟨wS.heap.size+2,1,none⟩ (.int .i64 m.mem.next)) ⟨wS.heap.size+2,2,none⟩ (.slice (some ⟨G,0,none⟩) m.stks.length ckc)) ⟨wS.heap.size+2,3,none⟩ (.slice cr m.run.length crc)) ⟨wS.heap.size+2,4,none⟩ (.int .i64 (m.tag+1))) ⟨wS.heap.size+2,5,none⟩ (.int .i64 m.call)) ⟨wS.heap.size+3,0,none⟩ (.int .i64 pa)).mono (S':=(fun b=>wS.heap.size≤b∧b < wS.heap.size+4)) (fun b _ h=>by have h' : b=wS.heap.size+3:=h;omega))) ((ExtBut.setCell (World.setCell (World.setCell (World.setCell (World.setCell (World.setCell (World.setCell (World.setCell w8s ⟨wS.heap.size+2,0,none⟩ (.slice ca m.mem.al.length cac)) ⟨wS.heap.size+2,1,none⟩ (.int .i64 m.mem.next)) ⟨wS.heap.size+2,2,none⟩ (.slice (some ⟨G,0,none⟩) m.stks.length ckc)) ⟨wS.heap.size+2,3,none⟩ (.slice cr m.run.length crc)) ⟨wS.heap.size+2,4,none⟩ (.int .i64 (m.tag+1))) ⟨wS.heap.size+2,5,none⟩ (.int .i64 m.call)) ⟨wS.heap.size+3,0,none⟩ (.int .i64 pa)) ⟨wS.heap.size+3,1,none⟩ (.int .i64 po)).mono (S':=(fun b=>wS.heap.size≤b∧b < wS.heap.size+4)) (fun b _ h=>by have h' : b=wS.heap.size+3:=h;omega))) ((ExtBut.setCell (World.setCell (World.setCell (World.setCell (World.setCell (World.setCell (World.setCell (World.setCell (World.setCell w8s ⟨wS.heap.size+2,0,none⟩ (.slice ca m.mem.al.length cac)) ⟨wS.heap.size+2,1,none⟩ (.int .i64 m.mem.next)) ⟨wS.heap.size+2,2,none⟩ (.slice (some ⟨G,0,none⟩) m.stks.length ckc)) ⟨wS.heap.size+2,3,none⟩ (.slice cr m.run.length crc)) ⟨wS.heap.size+2,4,none⟩ (.int .i64 (m.tag+1))) ⟨wS.heap.size+2,5,none⟩ (.int .i64 m.call)) ⟨wS.heap.size+3,0,none⟩ (.int .i64 pa)) ⟨wS.heap.size+3,1,none⟩ (.int .i64 po)) ⟨wS.heap.size+3,2,none⟩ (.int .i64 m.tag)).mono (S':=(fun b=>wS.heap.size≤b∧b < wS.heap.size+4)) (fun b _ h=>by have h' : b=wS.heap.size+3:=h;omega))) (ExtBut.of_ext (Ext.refl _).drew))
   refine bodyPost_ret (v := .tuple #[.agg #[.slice ca m.mem.al.length cac,.int .i64 m.mem.next,.slice (some ⟨G,0,none⟩) m.stks.length ckc,.slice cr m.run.length crc,.int .i64 (m.tag+1),.int .i64 m.call],.agg #[.int .i64 pa,.int .i64 po,.int .i64 m.tag],.int .u8 0,.int .i64 0]) (by simp [results,Tryd.f9,go_sem,bR_0,bR_1,bR_2,bR_3,bR_4,bR_5,bQ_0,bQ_1,bQ_2]) rfl ?_
   have hFe:=ExtBut.ext hF8 hXe (fun b h=>h.1)
   have hXze:=ExtBut.trans hXz.out hXe
   have hKt:=(hKf.out.to (S':=fun b=>wS.heap.size≤b) hXze (fun b h1 _ h2=>by omega) (fun b h1 _=>by omega))
   exact ⟨_,rfl,FrMon.of_fs (m:=⟨m.mem,m.stks.set i ⟨xn,xcs⟩,m.run,m.tag+1,m.call⟩) (hAf.out.to (S':=fun b=>wS.heap.size≤b) hXze (fun b h1 _ h2=>by omega) (fun b h1 _=>by omega)) hKt (hRf.out.to (S':=fun b=>wS.heap.size≤b) hXze (fun b h1 _ h2=>by omega) (fun b h1 _=>by omega)),hFe⟩
end Go.Proofs.YtoanoodfacmieaaDoor
