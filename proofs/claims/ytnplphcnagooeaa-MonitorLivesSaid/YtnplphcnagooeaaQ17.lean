/- Several texts in one: RfE. -/
import Derived.Test.YtnplphcnagooeaaQ15
import Derived.Test.YtnplphcnagooeaaQ16
import Derived.Test.YtnplphcnagooeaaQ09
/- Contracts: the reference's Enter and Leave of layer 35. (printed by gen/ref35e.py) -/
namespace Go.Proofs.Ytnplphcnagooeaa
set_option maxRecDepth 100000
open Go.RowKit
theorem Tw.appended {wT w w' : World} {B N BO : Nat} {cc : Int} {sa ss sr v' : Value} {vsA vs : List Value} {m : Mon} (h : Tw wT B N sa ss sr vsA vs m) (hE : Ext wT w) (hO : Own w' B 3 1 v' (m.run.length+1) (m.run.flatMap irow ++ irow cc)) (hK : Keeps w w' B sr) (hBO : wT.heap.size≤BO)
  (hb : v'.ownBlock=sr.ownBlock ∨ ∃ g,v'.ownBlock=some g∧w.heap.size≤g) (hlt : BO < w.heap.size) :
  Fq (fun b=>B≤b∧b≠BO) w' (fun w=>Als w sa m.mem.al)∧Fq (fun b=>B≤b∧b≠BO) w' (fun w=>Kts w ss m.stks)∧Fq (fun b=>B≤b∧b≠BO) w' (fun w=>Nts w v' (m.run ++ [cc])):=by
 have hX:=(ExtBut.of_ext (S:=fun b=>sr.ownBlock=some b) hE).trans (ExtBut.of_keeps hK)
 refine ⟨h.alF.to hX (fun b h1 _ h2=>h1.2.2 h2) (fun b h1 hl=>⟨h1.1,by omega⟩),h.stk.fs.to hX (fun b h1 _ h2=>by have:=h.loR b h2;omega) (fun b h1 hl=>⟨by have:=h.low.1;omega,by omega⟩),?_⟩
 intro w'' hw
 have h7:=hO.fs w'' fun b e hl=>hw b ⟨(hO.lt e).1,fun h8=>by
  subst h8
  rcases hb with hb | ⟨g,hb,hg⟩
  ·have h9 : sr.ownBlock=some b:=hb.symm.trans e
   have:=h.loR b h9
   have:=h.low.2
   omega
  ·have h9 : some g=some b:=hb.symm.trans e
   cases h9
   omega⟩ hl
 unfold Nts
 rw [List.length_append,List.flatMap_append]
 simpa using h7
set_option maxRecDepth 100000 in
set_option maxHeartbeats 6400000 in
theorem ref35_Enter {m : Mon} {sa ss sr : Value} {w : World} (hA : Als w sa m.mem.al) (hn : i64B m.mem.next) (hK : Kts w ss m.stks) (hR : Nts w sr m.run) :
  Calls Try.prog 12 #[.agg #[sa,.int .i64 m.mem.next,ss,sr,.int .i64 m.tag,.int .i64 m.call]] w (RetF w (fun v => .tuple #[v,.int .i64 (enterM m).2.1,.int .i64 (enterM m).2.2]) (enterM m).1):=by
 obtain ⟨aa,ac,rfl,hac,hacm,-⟩:=hA.form
 obtain ⟨ka,kc,rfl,hkc,hkcm,-⟩:=hK.form
 obtain ⟨ra,rc,rfl,hrc,hrcm,-⟩:=hR.form
 unfold maxLen at hacm hkcm hrcm
 have hE0 : Ext w (World.alloc (World.alloc w (.cells #[.slice aa m.mem.al.length ac,.int .i64 m.mem.next,.slice ka m.stks.length kc,.slice ra m.run.length rc,.int .i64 m.tag,.int .i64 m.call] 28)) (.cells #[.slice none 0 0,.int .i64 0,.slice none 0 0,.slice none 0 0,.int .i64 0,.int .i64 0] 28)):=by repeat (first | exact Ext.refl _ | refine Ext.alloc ?_ _)
 have bM : Box (World.alloc (World.alloc w (.cells #[.slice aa m.mem.al.length ac,.int .i64 m.mem.next,.slice ka m.stks.length kc,.slice ra m.run.length rc,.int .i64 m.tag,.int .i64 m.call] 28)) (.cells #[.slice none 0 0,.int .i64 0,.slice none 0 0,.slice none 0 0,.int .i64 0,.int .i64 0] 28)) (w.heap.size) 28 #[.slice aa m.mem.al.length ac,.int .i64 m.mem.next,.slice ka m.stks.length kc,.slice ra m.run.length rc,.int .i64 m.tag,.int .i64 m.call]:=(by
  have h:=Box.new w 28 #[.slice aa m.mem.al.length ac,.int .i64 m.mem.next,.slice ka m.stks.length kc,.slice ra m.run.length rc,.int .i64 m.tag,.int .i64 m.call]
  replace h:=Box.ext h ((Ext.refl _).alloc (.cells #[.slice none 0 0,.int .i64 0,.slice none 0 0,.slice none 0 0,.int .i64 0,.int .i64 0] 28))
  exact h)
 have bR : Box (World.alloc (World.alloc w (.cells #[.slice aa m.mem.al.length ac,.int .i64 m.mem.next,.slice ka m.stks.length kc,.slice ra m.run.length rc,.int .i64 m.tag,.int .i64 m.call] 28)) (.cells #[.slice none 0 0,.int .i64 0,.slice none 0 0,.slice none 0 0,.int .i64 0,.int .i64 0] 28)) (w.heap.size+1) 28 #[.slice none 0 0,.int .i64 0,.slice none 0 0,.slice none 0 0,.int .i64 0,.int .i64 0]:=(by
  have h:=Box.new (World.alloc w (.cells #[.slice aa m.mem.al.length ac,.int .i64 m.mem.next,.slice ka m.stks.length kc,.slice ra m.run.length rc,.int .i64 m.tag,.int .i64 m.call] 28)) 28 #[.slice none 0 0,.int .i64 0,.slice none 0 0,.slice none 0 0,.int .i64 0,.int .i64 0]
  simp only [World.size_alloc] at h
  exact h)
 obtain ⟨w0,hw0⟩ : ∃ z,(World.alloc (World.alloc w (.cells #[.slice aa m.mem.al.length ac,.int .i64 m.mem.next,.slice ka m.stks.length kc,.slice ra m.run.length rc,.int .i64 m.tag,.int .i64 m.call] 28)) (.cells #[.slice none 0 0,.int .i64 0,.slice none 0 0,.slice none 0 0,.int .i64 0,.int .i64 0] 28))=z:=⟨_,rfl⟩
 rw [hw0] at hE0 bM bR
 have hs0 : w0.heap.size=w.heap.size+2:=by rw [← hw0];simp
 replace hs0:=Lib.hid hs0
 replace hA:=Lib.hid hA
 replace hK:=Lib.hid hK
 replace hR:=Lib.hid hR
 replace hn:=Lib.hid hn
 cases hok : okMon m
 ·skip
  have hce:=Lib.hid (monErr_not hok)
  have hres:=Lib.hid (enterM_bad hok)
  clear hok
  go_enter Try.func12,Try.ntmps12
  obtain ⟨bM_0,bM_1,bM_2,bM_3,bM_4,bM_5,bM_l⟩:=bM.c6
  go_wp2_with fail
  clear bM_0 bM_1 bM_2 bM_3 bM_4 bM_5 bM_l
  refine (ref35_Check (hA.out.ext hE0) hn.out (hK.out.ext hE0) (hR.out.ext hE0)).mono ?_
  rintro e w1 ⟨rfl,hE1⟩
  replace bM:=bM.ext hE1
  replace bR:=bR.ext hE1
  have hF1:=Ext.trans hE0 hE1
  rw [hce.out]
  clear hw0
  obtain ⟨bM_0,bM_1,bM_2,bM_3,bM_4,bM_5,bM_l⟩:=bM.c6
  have bR_0 : World.cell? w1 ⟨w.heap.size+1,0,none⟩=some (.slice none 0 0):=bR.cell 0
  have bR_1 : World.cell? w1 ⟨w.heap.size+1,1,none⟩=some (.int .i64 0):=bR.cell 1
  have bR_2 : World.cell? w1 ⟨w.heap.size+1,2,none⟩=some (.slice none 0 0):=bR.cell 2
  have bR_3 : World.cell? w1 ⟨w.heap.size+1,3,none⟩=some (.slice none 0 0):=bR.cell 3
  have bR_4 : World.cell? w1 ⟨w.heap.size+1,4,none⟩=some (.int .i64 0):=bR.cell 4
  have bR_5 : World.cell? w1 ⟨w.heap.size+1,5,none⟩=some (.int .i64 0):=bR.cell 5
  have bR_f0 : World.frozen? w1 ⟨w.heap.size+1,0,none⟩=false:=bR.frozen 0
  have bR_f1 : World.frozen? w1 ⟨w.heap.size+1,1,none⟩=false:=bR.frozen 1
  have bR_f2 : World.frozen? w1 ⟨w.heap.size+1,2,none⟩=false:=bR.frozen 2
  have bR_f3 : World.frozen? w1 ⟨w.heap.size+1,3,none⟩=false:=bR.frozen 3
  have bR_f4 : World.frozen? w1 ⟨w.heap.size+1,4,none⟩=false:=bR.frozen 4
  have bR_f5 : World.frozen? w1 ⟨w.heap.size+1,5,none⟩=false:=bR.frozen 5
  have bR_l:=bR.lt
  go_wp2
  rw [hres.out]
  have hXe : ExtBut (fun b=>w.heap.size≤b∧b < w.heap.size+2) w1 (World.setCell (World.setCell (World.setCell (World.setCell (World.setCell (World.setCell w1 ⟨w.heap.size+1,0,none⟩ (.slice none 0 0)) ⟨w.heap.size+1,1,none⟩ (.int .i64 0)) ⟨w.heap.size+1,2,none⟩ (.slice none 0 0)) ⟨w.heap.size+1,3,none⟩ (.slice none 0 0)) ⟨w.heap.size+1,4,none⟩ (.int .i64 0)) ⟨w.heap.size+1,5,none⟩ (.int .i64 0)):=by (repeat' with_reducible first | exact ExtBut.refl _ _ | refine ExtBut.dr ?_ | refine ExtBut.sc ?_ ?_ | fail) <;> dsimp only <;> omega
  refine bodyPost_ret (v := .tuple #[.agg #[.slice none 0 0,.int .i64 0,.slice none 0 0,.slice none 0 0,.int .i64 0,.int .i64 0],.int .i64 0,.int .i64 8]) (by simp [results,Try.f12,go_sem,bR_0,bR_1,bR_2,bR_3,bR_4,bR_5]) rfl ?_
  have hFe:=ExtBut.ext hF1 hXe (fun b h=>h.1)
  exact ⟨_,rfl,FrMon.zero _ _,hFe⟩
 have hMok:=MonOk.of hok
 have hce:=Lib.hid (monErr_of hok)
 have hcl:=Lib.hid hMok.small
 by_cases hl : m.run.length=32
 ·skip
  have hres:=Lib.hid (enterM_full hok (.inl hl))
  have q1 : ((m.run.length : Int) == 32)=true:=beq_iff_eq.2 (by omega)
  clear hok hMok hl
  go_enter Try.func12,Try.ntmps12
  obtain ⟨bM_0,bM_1,bM_2,bM_3,bM_4,bM_5,bM_l⟩:=bM.c6
  go_wp2_with fail
  clear bM_0 bM_1 bM_2 bM_3 bM_4 bM_5 bM_l
  refine (ref35_Check (hA.out.ext hE0) hn.out (hK.out.ext hE0) (hR.out.ext hE0)).mono ?_
  rintro e w1 ⟨rfl,hE1⟩
  replace bM:=bM.ext hE1
  replace bR:=bR.ext hE1
  have hF1:=Ext.trans hE0 hE1
  rw [hce.out]
  clear hw0
  obtain ⟨bM_0,bM_1,bM_2,bM_3,bM_4,bM_5,bM_l⟩:=bM.c6
  have bR_0 : World.cell? w1 ⟨w.heap.size+1,0,none⟩=some (.slice none 0 0):=bR.cell 0
  have bR_1 : World.cell? w1 ⟨w.heap.size+1,1,none⟩=some (.int .i64 0):=bR.cell 1
  have bR_2 : World.cell? w1 ⟨w.heap.size+1,2,none⟩=some (.slice none 0 0):=bR.cell 2
  have bR_3 : World.cell? w1 ⟨w.heap.size+1,3,none⟩=some (.slice none 0 0):=bR.cell 3
  have bR_4 : World.cell? w1 ⟨w.heap.size+1,4,none⟩=some (.int .i64 0):=bR.cell 4
  have bR_5 : World.cell? w1 ⟨w.heap.size+1,5,none⟩=some (.int .i64 0):=bR.cell 5
  have bR_f0 : World.frozen? w1 ⟨w.heap.size+1,0,none⟩=false:=bR.frozen 0
  have bR_f1 : World.frozen? w1 ⟨w.heap.size+1,1,none⟩=false:=bR.frozen 1
  have bR_f2 : World.frozen? w1 ⟨w.heap.size+1,2,none⟩=false:=bR.frozen 2
  have bR_f3 : World.frozen? w1 ⟨w.heap.size+1,3,none⟩=false:=bR.frozen 3
  have bR_f4 : World.frozen? w1 ⟨w.heap.size+1,4,none⟩=false:=bR.frozen 4
  have bR_f5 : World.frozen? w1 ⟨w.heap.size+1,5,none⟩=false:=bR.frozen 5
  have bR_l:=bR.lt
  go_wp2
  rw [hres.out]
  have hXe : ExtBut (fun b=>w.heap.size≤b∧b < w.heap.size+2) w1 (World.setCell (World.setCell (World.setCell (World.setCell (World.setCell (World.setCell w1 ⟨w.heap.size+1,0,none⟩ (.slice none 0 0)) ⟨w.heap.size+1,1,none⟩ (.int .i64 0)) ⟨w.heap.size+1,2,none⟩ (.slice none 0 0)) ⟨w.heap.size+1,3,none⟩ (.slice none 0 0)) ⟨w.heap.size+1,4,none⟩ (.int .i64 0)) ⟨w.heap.size+1,5,none⟩ (.int .i64 0)):=by (repeat' with_reducible first | exact ExtBut.refl _ _ | refine ExtBut.dr ?_ | refine ExtBut.sc ?_ ?_ | fail) <;> dsimp only <;> omega
  refine bodyPost_ret (v := .tuple #[.agg #[.slice none 0 0,.int .i64 0,.slice none 0 0,.slice none 0 0,.int .i64 0,.int .i64 0],.int .i64 0,.int .i64 18]) (by simp [results,Try.f12,go_sem,bR_0,bR_1,bR_2,bR_3,bR_4,bR_5]) rfl ?_
  have hFe:=ExtBut.ext hF1 hXe (fun b h=>h.1)
  exact ⟨_,rfl,FrMon.zero _ _,hFe⟩
 have q1 : ((m.run.length : Int) == 32)=false:=beq_eq_false_iff_ne.2 (by omega)
 by_cases hm : m.call=1000000
 ·skip
  have hres:=Lib.hid (enterM_full hok (.inr hm))
  have q2 : (m.call == 1000000)=true:=beq_iff_eq.2 hm
  clear hok hMok hm
  go_enter Try.func12,Try.ntmps12
  obtain ⟨bM_0,bM_1,bM_2,bM_3,bM_4,bM_5,bM_l⟩:=bM.c6
  go_wp2_with fail
  clear bM_0 bM_1 bM_2 bM_3 bM_4 bM_5 bM_l
  refine (ref35_Check (hA.out.ext hE0) hn.out (hK.out.ext hE0) (hR.out.ext hE0)).mono ?_
  rintro e w1 ⟨rfl,hE1⟩
  replace bM:=bM.ext hE1
  replace bR:=bR.ext hE1
  have hF1:=Ext.trans hE0 hE1
  rw [hce.out]
  clear hw0
  obtain ⟨bM_0,bM_1,bM_2,bM_3,bM_4,bM_5,bM_l⟩:=bM.c6
  have bR_0 : World.cell? w1 ⟨w.heap.size+1,0,none⟩=some (.slice none 0 0):=bR.cell 0
  have bR_1 : World.cell? w1 ⟨w.heap.size+1,1,none⟩=some (.int .i64 0):=bR.cell 1
  have bR_2 : World.cell? w1 ⟨w.heap.size+1,2,none⟩=some (.slice none 0 0):=bR.cell 2
  have bR_3 : World.cell? w1 ⟨w.heap.size+1,3,none⟩=some (.slice none 0 0):=bR.cell 3
  have bR_4 : World.cell? w1 ⟨w.heap.size+1,4,none⟩=some (.int .i64 0):=bR.cell 4
  have bR_5 : World.cell? w1 ⟨w.heap.size+1,5,none⟩=some (.int .i64 0):=bR.cell 5
  have bR_f0 : World.frozen? w1 ⟨w.heap.size+1,0,none⟩=false:=bR.frozen 0
  have bR_f1 : World.frozen? w1 ⟨w.heap.size+1,1,none⟩=false:=bR.frozen 1
  have bR_f2 : World.frozen? w1 ⟨w.heap.size+1,2,none⟩=false:=bR.frozen 2
  have bR_f3 : World.frozen? w1 ⟨w.heap.size+1,3,none⟩=false:=bR.frozen 3
  have bR_f4 : World.frozen? w1 ⟨w.heap.size+1,4,none⟩=false:=bR.frozen 4
  have bR_f5 : World.frozen? w1 ⟨w.heap.size+1,5,none⟩=false:=bR.frozen 5
  have bR_l:=bR.lt
  go_wp2
  rw [hres.out]
  have hXe : ExtBut (fun b=>w.heap.size≤b∧b < w.heap.size+2) w1 (World.setCell (World.setCell (World.setCell (World.setCell (World.setCell (World.setCell w1 ⟨w.heap.size+1,0,none⟩ (.slice none 0 0)) ⟨w.heap.size+1,1,none⟩ (.int .i64 0)) ⟨w.heap.size+1,2,none⟩ (.slice none 0 0)) ⟨w.heap.size+1,3,none⟩ (.slice none 0 0)) ⟨w.heap.size+1,4,none⟩ (.int .i64 0)) ⟨w.heap.size+1,5,none⟩ (.int .i64 0)):=by (repeat' with_reducible first | exact ExtBut.refl _ _ | refine ExtBut.dr ?_ | refine ExtBut.sc ?_ ?_ | fail) <;> dsimp only <;> omega
  refine bodyPost_ret (v := .tuple #[.agg #[.slice none 0 0,.int .i64 0,.slice none 0 0,.slice none 0 0,.int .i64 0,.int .i64 0],.int .i64 0,.int .i64 18]) (by simp [results,Try.f12,go_sem,bR_0,bR_1,bR_2,bR_3,bR_4,bR_5]) rfl ?_
  have hFe:=ExtBut.ext hF1 hXe (fun b h=>h.1)
  exact ⟨_,rfl,FrMon.zero _ _,hFe⟩
 have q2 : (m.call == 1000000)=false:=beq_eq_false_iff_ne.2 hm
 have hres:=Lib.hid (enterM_ok hok hl hm)
 have hcb:=hMok.call
 have w1 : IntKind.i64.wrap (m.call+1)=m.call+1:=IntWalk.i64_in _ (by omega)
 have hrl:=Lib.hid (okR_len hMok.run)
 clear hok hMok hl hm hcb
 obtain ⟨ni,nz,hni,hnz,hni3,hnz3,hnby⟩:=Int.infoE
 replace hni:=Lib.hid hni;replace hnz:=Lib.hid hnz;replace hni3:=Lib.hid hni3;replace hnz3:=Lib.hid hnz3;replace hnby:=Lib.hid hnby
 go_enter Try.func12,Try.ntmps12
 obtain ⟨bM_0,bM_1,bM_2,bM_3,bM_4,bM_5,bM_l⟩:=bM.c6
 go_wp2_with fail
 clear bM_0 bM_1 bM_2 bM_3 bM_4 bM_5 bM_l
 refine (ref35_Check (hA.out.ext hE0) hn.out (hK.out.ext hE0) (hR.out.ext hE0)).mono ?_
 rintro e w1 ⟨rfl,hE1⟩
 replace bM:=bM.ext hE1
 replace bR:=bR.ext hE1
 have hF1:=Ext.trans hE0 hE1
 rw [hce.out]
 clear hw0
 obtain ⟨bM_0,bM_1,bM_2,bM_3,bM_4,bM_5,bM_l⟩:=bM.c6
 go_wp2_with fail
 clear bM_0 bM_1 bM_2 bM_3 bM_4 bM_5 bM_l
 have hXcs:=Lib.hid (by have:=bR.lt;omega : w.heap.size+2≤w1.heap.size)
 refine (ref35_Twin (hA.out.ext hF1) (hK.out.ext hF1) (hR.out.ext hF1) hcl.out.1 hcl.out.2.1 hcl.out.2.2).mono ?_
 rintro e w2 ⟨TN,ca,ck,cr,vsA,vs,rfl,hC,hE2⟩
 replace bM:=bM.ext hE2
 replace bR:=bR.ext hE2
 have hF2:=Ext.trans hF1 hE2
 have hv:=(OM.read hC.al).form
 obtain ⟨ca,cac,rfl,-⟩:=hv
 have hv:=hC.stk.outer.sl.slice_form
 obtain ⟨ck,ckc,rfl,-⟩:=hv
 have hv:=hC.run.sl.slice_form
 obtain ⟨cr,crc,rfl,-⟩:=hv
 replace hC:=Lib.hid hC
 have hXc:=Lib.hid (ExtBut.refl (fun b=>w.heap.size≤b∧b < w.heap.size+2) w2)
 have hTl:=Lib.hid (hC.out.low.1)
 have hTs:=Lib.hid (hC.out.low.2)
 obtain ⟨bM_0,bM_1,bM_2,bM_3,bM_4,bM_5,bM_l⟩:=bM.c6
 go_upto_region 7 with fail
 clear bM_0 bM_1 bM_2 bM_3 bM_4 bM_5 bM_l
 have szbO:=Lib.hid (by have:=bR.lt;omega : w.heap.size+2≤w2.heap.size)
 have bO:=Box.new w2 28 #[.slice ca m.mem.al.length cac,.int .i64 m.mem.next,.slice ck m.stks.length ckc,.slice cr m.run.length crc,.int .i64 m.tag,.int .i64 m.call]
 have hzb0 : (World.alloc w2 (.cells #[.slice ca m.mem.al.length cac,.int .i64 m.mem.next,.slice ck m.stks.length ckc,.slice cr m.run.length crc,.int .i64 m.tag,.int .i64 m.call] 28)).heap.size=w2.heap.size+1:=by rw [World.size_alloc]
 have hx3 : Ext w2 (World.alloc w2 (.cells #[.slice ca m.mem.al.length cac,.int .i64 m.mem.next,.slice ck m.stks.length ckc,.slice cr m.run.length crc,.int .i64 m.tag,.int .i64 m.call] 28)):=(Ext.refl _).alloc _
 obtain ⟨w3b,hw3⟩ : ∃ z,World.alloc w2 (.cells #[.slice ca m.mem.al.length cac,.int .i64 m.mem.next,.slice ck m.stks.length ckc,.slice cr m.run.length crc,.int .i64 m.tag,.int .i64 m.call] 28)=z:=⟨_,rfl⟩
 rw [hw3] at bO hx3 hzb0 ⊢
 clear hw3
 replace bM:=bM.ext hx3
 replace bR:=bR.ext hx3
 replace hXc:=Lib.hid (ExtBut.trans hXc.out (ExtBut.of_ext hx3))
 have hF4:=Ext.trans hF2 hx3
 clear hzb0
 replace hXc:=Lib.hid (ExtBut.mono hXc.out (S':=(fun b=>(w.heap.size≤b∧b < w.heap.size+2)∨b=w2.heap.size)) (fun b _ h => .inl h))
 obtain ⟨bM_0,bM_1,bM_2,bM_3,bM_4,bM_5,bM_l⟩:=bM.c6
 have bO_0 : World.cell? w3b ⟨w2.heap.size,0,none⟩=some (.slice ca m.mem.al.length cac):=bO.cell 0
 have bO_1 : World.cell? w3b ⟨w2.heap.size,1,none⟩=some (.int .i64 m.mem.next):=bO.cell 1
 have bO_2 : World.cell? w3b ⟨w2.heap.size,2,none⟩=some (.slice ck m.stks.length ckc):=bO.cell 2
 have bO_3 : World.cell? w3b ⟨w2.heap.size,3,none⟩=some (.slice cr m.run.length crc):=bO.cell 3
 have bO_4 : World.cell? w3b ⟨w2.heap.size,4,none⟩=some (.int .i64 m.tag):=bO.cell 4
 have bO_5 : World.cell? w3b ⟨w2.heap.size,5,none⟩=some (.int .i64 m.call):=bO.cell 5
 have bO_f0 : World.frozen? w3b ⟨w2.heap.size,0,none⟩=false:=bO.frozen 0
 have bO_f1 : World.frozen? w3b ⟨w2.heap.size,1,none⟩=false:=bO.frozen 1
 have bO_f2 : World.frozen? w3b ⟨w2.heap.size,2,none⟩=false:=bO.frozen 2
 have bO_f3 : World.frozen? w3b ⟨w2.heap.size,3,none⟩=false:=bO.frozen 3
 have bO_f4 : World.frozen? w3b ⟨w2.heap.size,4,none⟩=false:=bO.frozen 4
 have bO_f5 : World.frozen? w3b ⟨w2.heap.size,5,none⟩=false:=bO.frozen 5
 have bO_l:=bO.lt
 go_wp2_with (at_builtin;refine Hid.out ?_)
 clear bM_0 bM_1 bM_2 bM_3 bM_4 bM_5 bM_l bO_0 bO_1 bO_2 bO_3 bO_4 bO_5 bO_f0 bO_f1 bO_f2 bO_f3 bO_f4 bO_f5 bO_l
 refine Hid.mk ?_
 have hEt : Ext w2 w3b:=Ext.trans (Ext.refl _) hx3
 have hEx : Ext w3b (World.alloc w3b (.cells #[.int .i64 m.call] 3)):=(Ext.refl _).alloc _
 have hlit : Sl (World.alloc w3b (.cells #[.int .i64 m.call] 3)) 1 (.slice (some ⟨w3b.heap.size,0,none⟩) 1 1) 1 (irow m.call):=(Own.lit' (B:=0) (e:=3) (k:=1) w3b #[.int .i64 m.call] 1 (Nat.zero_le _) (by simp [maxLen]) rfl).sl
 refine wpList_append_any rfl _ _ 26 26 rfl rfl rfl Try.underlying26 Try.underlying26 hni.out hnz.out hni3.out hnz3.out ((hC.out.run.ext hEt).ext hEx) hlit (by simp [irow,Value.oneCell']) (by have:=hrl.out;simp [maxLen];omega) (by rw [hnby.out];have:=hrl.out;omega) (by have h1:=hXcs.out;have h2:=hTs.out;have h3:=hTl.out;have h4:=hEt.size;have h5:=hEx.size;omega) ?_
 intro v' wap hO' hK' hb' _
 have hv:=hO'.sl.slice_form
 obtain ⟨va,vc,rfl,-⟩:=hv
 have hSk:=ExtBut.of_keeps hK'
 have hlo:=hC.out.loR
 have hP:=Tw.appended (BO:=w2.heap.size) hC.out (hEt.trans hEx) hO' hK' (Nat.le_refl _) hb' (by have h1:=bO.lt;have h2:=hEx.size;omega)
 replace bM:=Box.but (Box.ext bM hEx) hSk (fun h=>by have h1:=(hC.out.run.lt h).1;have h2:=hXcs.out;omega)
 replace bR:=Box.but (Box.ext bR hEx) hSk (fun h=>by have h1:=(hC.out.run.lt h).1;have h2:=hXcs.out;omega)
 replace bO:=Box.but (Box.ext bO hEx) hSk (fun h=>by have h1:=hlo _ h;have h2:=hTs.out;omega)
 have hFap:=ExtBut.ext (Ext.trans hF4 hEx) hSk (fun b h=>by have h1:=(hC.out.run.lt h).1;have h2:=hXcs.out;omega)
 replace hP:=Lib.hid hP
 clear hO' hK' hb' hSk hlo hlit hEx hEt hXc
 have hXz:=Lib.hid (ExtBut.refl (fun b=>(w.heap.size≤b∧b < w.heap.size+2)∨b=w2.heap.size) wap)
 obtain ⟨bM_0,bM_1,bM_2,bM_3,bM_4,bM_5,bM_l⟩:=bM.c6
 have bO_0 : World.cell? wap ⟨w2.heap.size,0,none⟩=some (.slice ca m.mem.al.length cac):=bO.cell 0
 have bO_1 : World.cell? wap ⟨w2.heap.size,1,none⟩=some (.int .i64 m.mem.next):=bO.cell 1
 have bO_2 : World.cell? wap ⟨w2.heap.size,2,none⟩=some (.slice ck m.stks.length ckc):=bO.cell 2
 have bO_3 : World.cell? wap ⟨w2.heap.size,3,none⟩=some (.slice cr m.run.length crc):=bO.cell 3
 have bO_4 : World.cell? wap ⟨w2.heap.size,4,none⟩=some (.int .i64 m.tag):=bO.cell 4
 have bO_5 : World.cell? wap ⟨w2.heap.size,5,none⟩=some (.int .i64 m.call):=bO.cell 5
 have bO_f0 : World.frozen? wap ⟨w2.heap.size,0,none⟩=false:=bO.frozen 0
 have bO_f1 : World.frozen? wap ⟨w2.heap.size,1,none⟩=false:=bO.frozen 1
 have bO_f2 : World.frozen? wap ⟨w2.heap.size,2,none⟩=false:=bO.frozen 2
 have bO_f3 : World.frozen? wap ⟨w2.heap.size,3,none⟩=false:=bO.frozen 3
 have bO_f4 : World.frozen? wap ⟨w2.heap.size,4,none⟩=false:=bO.frozen 4
 have bO_f5 : World.frozen? wap ⟨w2.heap.size,5,none⟩=false:=bO.frozen 5
 have bO_l:=bO.lt
 go_upto_region 8 with fail
 clear bM_0 bM_1 bM_2 bM_3 bM_4 bM_5 bM_l bO_0 bO_1 bO_2 bO_3 bO_4 bO_5 bO_f0 bO_f1 bO_f2 bO_f3 bO_f4 bO_f5 bO_l
 have hS5 : ExtBut (fun b=>(w.heap.size≤b∧b < w.heap.size+2)∨b=w2.heap.size) wap (World.setCell wap ⟨w2.heap.size,3,none⟩ (.slice va (m.run.length+1) vc)):=((ExtBut.setCell wap ⟨w2.heap.size,3,none⟩ (.slice va (m.run.length+1) vc)).mono (S':=(fun b=>(w.heap.size≤b∧b < w.heap.size+2)∨b=w2.heap.size)) (fun b _ h=>by have h' : b=w2.heap.size:=h;omega))
 replace bM:=(Box.other bM (p:=⟨w2.heap.size,3,none⟩) (by have:=szbO.out;show w2.heap.size≠w.heap.size;omega) (.slice va (m.run.length+1) vc))
 replace bR:=(Box.other bR (p:=⟨w2.heap.size,3,none⟩) (by have:=szbO.out;show w2.heap.size≠w.heap.size+1;omega) (.slice va (m.run.length+1) vc))
 replace bO:=(Box.setL bO 3 (.slice va (m.run.length+1) vc))
 simp only [List.set_cons_zero,List.set_cons_succ] at bO
 obtain ⟨w5s,hw5⟩ : ∃ z,(World.setCell wap ⟨w2.heap.size,3,none⟩ (.slice va (m.run.length+1) vc))=z:=⟨_,rfl⟩
 rw [hw5] at hS5 bM bR bO ⊢
 clear hw5
 have hF5:=ExtBut.ext hFap hS5 (fun b h=>by have h0:=szbO.out;rcases h with h | h <;> omega)
 replace hXz:=Lib.hid (ExtBut.trans hXz.out hS5)
 clear hS5
 obtain ⟨bM_0,bM_1,bM_2,bM_3,bM_4,bM_5,bM_l⟩:=bM.c6
 have bO_0 : World.cell? w5s ⟨w2.heap.size,0,none⟩=some (.slice ca m.mem.al.length cac):=bO.cell 0
 have bO_1 : World.cell? w5s ⟨w2.heap.size,1,none⟩=some (.int .i64 m.mem.next):=bO.cell 1
 have bO_2 : World.cell? w5s ⟨w2.heap.size,2,none⟩=some (.slice ck m.stks.length ckc):=bO.cell 2
 have bO_3 : World.cell? w5s ⟨w2.heap.size,3,none⟩=some (.slice va (m.run.length+1) vc):=bO.cell 3
 have bO_4 : World.cell? w5s ⟨w2.heap.size,4,none⟩=some (.int .i64 m.tag):=bO.cell 4
 have bO_5 : World.cell? w5s ⟨w2.heap.size,5,none⟩=some (.int .i64 m.call):=bO.cell 5
 have bO_f0 : World.frozen? w5s ⟨w2.heap.size,0,none⟩=false:=bO.frozen 0
 have bO_f1 : World.frozen? w5s ⟨w2.heap.size,1,none⟩=false:=bO.frozen 1
 have bO_f2 : World.frozen? w5s ⟨w2.heap.size,2,none⟩=false:=bO.frozen 2
 have bO_f3 : World.frozen? w5s ⟨w2.heap.size,3,none⟩=false:=bO.frozen 3
 have bO_f4 : World.frozen? w5s ⟨w2.heap.size,4,none⟩=false:=bO.frozen 4
 have bO_f5 : World.frozen? w5s ⟨w2.heap.size,5,none⟩=false:=bO.frozen 5
 have bO_l:=bO.lt
 go_upto_region 9 with fail
 clear bM_0 bM_1 bM_2 bM_3 bM_4 bM_5 bM_l bO_0 bO_1 bO_2 bO_3 bO_4 bO_5 bO_f0 bO_f1 bO_f2 bO_f3 bO_f4 bO_f5 bO_l
 have hS6 : ExtBut (fun b=>(w.heap.size≤b∧b < w.heap.size+2)∨b=w2.heap.size) w5s (World.setCell w5s ⟨w2.heap.size,5,none⟩ (.int .i64 (m.call+1))):=((ExtBut.setCell w5s ⟨w2.heap.size,5,none⟩ (.int .i64 (m.call+1))).mono (S':=(fun b=>(w.heap.size≤b∧b < w.heap.size+2)∨b=w2.heap.size)) (fun b _ h=>by have h' : b=w2.heap.size:=h;omega))
 replace bM:=(Box.other bM (p:=⟨w2.heap.size,5,none⟩) (by have:=szbO.out;show w2.heap.size≠w.heap.size;omega) (.int .i64 (m.call+1)))
 replace bR:=(Box.other bR (p:=⟨w2.heap.size,5,none⟩) (by have:=szbO.out;show w2.heap.size≠w.heap.size+1;omega) (.int .i64 (m.call+1)))
 replace bO:=(Box.setL bO 5 (.int .i64 (m.call+1)))
 simp only [List.set_cons_zero,List.set_cons_succ] at bO
 obtain ⟨w6s,hw6⟩ : ∃ z,(World.setCell w5s ⟨w2.heap.size,5,none⟩ (.int .i64 (m.call+1)))=z:=⟨_,rfl⟩
 rw [hw6] at hS6 bM bR bO ⊢
 clear hw6
 have hF6:=ExtBut.ext hF5 hS6 (fun b h=>by have h0:=szbO.out;rcases h with h | h <;> omega)
 replace hXz:=Lib.hid (ExtBut.trans hXz.out hS6)
 clear hS6
 obtain ⟨bM_0,bM_1,bM_2,bM_3,bM_4,bM_5,bM_l⟩:=bM.c6
 have bR_0 : World.cell? w6s ⟨w.heap.size+1,0,none⟩=some (.slice none 0 0):=bR.cell 0
 have bR_1 : World.cell? w6s ⟨w.heap.size+1,1,none⟩=some (.int .i64 0):=bR.cell 1
 have bR_2 : World.cell? w6s ⟨w.heap.size+1,2,none⟩=some (.slice none 0 0):=bR.cell 2
 have bR_3 : World.cell? w6s ⟨w.heap.size+1,3,none⟩=some (.slice none 0 0):=bR.cell 3
 have bR_4 : World.cell? w6s ⟨w.heap.size+1,4,none⟩=some (.int .i64 0):=bR.cell 4
 have bR_5 : World.cell? w6s ⟨w.heap.size+1,5,none⟩=some (.int .i64 0):=bR.cell 5
 have bR_f0 : World.frozen? w6s ⟨w.heap.size+1,0,none⟩=false:=bR.frozen 0
 have bR_f1 : World.frozen? w6s ⟨w.heap.size+1,1,none⟩=false:=bR.frozen 1
 have bR_f2 : World.frozen? w6s ⟨w.heap.size+1,2,none⟩=false:=bR.frozen 2
 have bR_f3 : World.frozen? w6s ⟨w.heap.size+1,3,none⟩=false:=bR.frozen 3
 have bR_f4 : World.frozen? w6s ⟨w.heap.size+1,4,none⟩=false:=bR.frozen 4
 have bR_f5 : World.frozen? w6s ⟨w.heap.size+1,5,none⟩=false:=bR.frozen 5
 have bR_l:=bR.lt
 obtain ⟨bO_0,bO_1,bO_2,bO_3,bO_4,bO_5,bO_l⟩:=bO.c6
 go_region
 go_wp2
 rw [hres.out]
 have hXe : ExtBut (fun b=>(w.heap.size≤b∧b < w.heap.size+2)∨b=w2.heap.size) w6s (World.drew (World.setCell (World.setCell (World.setCell (World.setCell (World.setCell (World.setCell w6s ⟨w.heap.size+1,0,none⟩ (.slice ca m.mem.al.length cac)) ⟨w.heap.size+1,1,none⟩ (.int .i64 m.mem.next)) ⟨w.heap.size+1,2,none⟩ (.slice ck m.stks.length ckc)) ⟨w.heap.size+1,3,none⟩ (.slice va (m.run.length+1) vc)) ⟨w.heap.size+1,4,none⟩ (.int .i64 m.tag)) ⟨w.heap.size+1,5,none⟩ (.int .i64 (m.call+1)))):=(ExtBut.trans (ExtBut.trans (ExtBut.trans (ExtBut.trans (ExtBut.trans (ExtBut.trans ((ExtBut.setCell w6s ⟨w.heap.size+1,0,none⟩ (.slice ca m.mem.al.length cac)).mono (S':=(fun b=>(w.heap.size≤b∧b < w.heap.size+2)∨b=w2.heap.size)) (fun b _ h=>by have h' : b=w.heap.size+1:=h;omega)) ((ExtBut.setCell (World.setCell w6s ⟨w.heap.size+1,0,none⟩ (.slice ca m.mem.al.length cac)) ⟨w.heap.size+1,1,none⟩ (.int .i64 m.mem.next)).mono (S':=(fun b=>(w.heap.size≤b∧b < w.heap.size+2)∨b=w2.heap.size)) (fun b _ h=>by have h' : b=w.heap.size+1:=h;omega))) ((ExtBut.setCell (World.setCell (World.setCell w6s ⟨w.heap.size+1,0,none⟩ (.slice ca m.mem.al.length cac)) ⟨w.heap.size+1,1,none⟩ (.int .i64 m.mem.next)) ⟨w.heap.size+1,2,none⟩ (.slice ck m.stks.length ckc)).mono (S':=(fun b=>(w.heap.size≤b∧b < w.heap.size+2)∨b=w2.heap.size)) (fun b _ h=>by have h' : b=w.heap.size+1:=h;omega))) ((ExtBut.setCell (World.setCell (World.setCell (World.setCell w6s ⟨w.heap.size+1,0,none⟩ (.slice ca m.mem.al.length cac)) ⟨w.heap.size+1,1,none⟩ (.int .i64 m.mem.next)) ⟨w.heap.size+1,2,none⟩ (.slice ck m.stks.length ckc)) ⟨w.heap.size+1,3,none⟩ (.slice va (m.run.length+1) vc)).mono (S':=(fun b=>(w.heap.size≤b∧b < w.heap.size+2)∨b=w2.heap.size)) (fun b _ h=>by have h' : b=w.heap.size+1:=h;omega))) ((ExtBut.setCell (World.setCell (World.setCell (World.setCell (World.setCell w6s ⟨w.heap.size+1,0,none⟩ (.slice ca m.mem.al.length cac)) ⟨w.heap.size+1,1,none⟩ (.int .i64 m.mem.next)) ⟨w.heap.size+1,2,none⟩ (.slice ck m.stks.length ckc)) ⟨w.heap.size+1,3,none⟩ (.slice va (m.run.length+1) vc)) ⟨w.heap.size+1,4,none⟩ (.int .i64 m.tag)).mono (S':=(fun b=>(w.heap.size≤b∧b < w.heap.size+2)∨b=w2.heap.size)) (fun b _ h=>by have h' : b=w.heap.size+1:=h;omega))) ((ExtBut.setCell (World.setCell (World.setCell (World.setCell (World.setCell (World.setCell w6s ⟨w.heap.size+1,0,none⟩ (.slice ca m.mem.al.length cac)) ⟨w.heap.size+1,1,none⟩ (.int .i64 m.mem.next)) ⟨w.heap.size+1,2,none⟩ (.slice ck m.stks.length ckc)) ⟨w.heap.size+1,3,none⟩ (.slice va (m.run.length+1) vc)) ⟨w.heap.size+1,4,none⟩ (.int .i64 m.tag)) ⟨w.heap.size+1,5,none⟩ (.int .i64 (m.call+1))).mono (S':=(fun b=>(w.heap.size≤b∧b < w.heap.size+2)∨b=w2.heap.size)) (fun b _ h=>by have h' : b=w.heap.size+1:=h;omega))) (ExtBut.of_ext (Ext.refl _).drew))
 refine bodyPost_ret (v := .tuple #[.agg #[.slice ca m.mem.al.length cac,.int .i64 m.mem.next,.slice ck m.stks.length ckc,.slice va (m.run.length+1) vc,.int .i64 m.tag,.int .i64 (m.call+1)],.int .i64 m.call,.int .i64 0]) (by simp [results,Try.f12,go_sem,bR_0,bR_1,bR_2,bR_3,bR_4,bR_5]) rfl ?_
 have hFe:=ExtBut.ext hF6 hXe (fun b h=>by have h0:=szbO.out;rcases h with h | h <;> omega)
 have hXze:=ExtBut.trans hXz.out hXe
 obtain ⟨hP1,hP2,hP3⟩:=hP.out
 exact ⟨_,rfl,FrMon.of_fs (m:=⟨m.mem,m.stks,m.run ++ [m.call],m.tag,m.call+1⟩) (hP1.to (S':=fun b=>w.heap.size≤b) hXze (fun b h1 _ h2=>by have h3:=hXcs.out;rcases h2 with h2 | h2 <;> omega) (fun b h1 _=>by have h3:=hXcs.out;omega)) (hP2.to (S':=fun b=>w.heap.size≤b) hXze (fun b h1 _ h2=>by have h3:=hXcs.out;rcases h2 with h2 | h2 <;> omega) (fun b h1 _=>by have h3:=hXcs.out;omega)) (hP3.to (S':=fun b=>w.heap.size≤b) hXze (fun b h1 _ h2=>by have h3:=hXcs.out;rcases h2 with h2 | h2 <;> omega) (fun b h1 _=>by have h3:=hXcs.out;omega)),hFe⟩
set_option maxRecDepth 100000 in
set_option maxHeartbeats 6400000 in
theorem ref35_Leave {m : Mon} {sa ss sr : Value} {w : World} (hA : Als w sa m.mem.al) (hn : i64B m.mem.next) (hK : Kts w ss m.stks) (hR : Nts w sr m.run) :
  Calls Try.prog 14 #[.agg #[sa,.int .i64 m.mem.next,ss,sr,.int .i64 m.tag,.int .i64 m.call]] w (RetF w (fun v => .tuple #[v,.int .i64 (leaveM m).2]) (leaveM m).1):=by
 obtain ⟨aa,ac,rfl,hac,hacm,-⟩:=hA.form
 obtain ⟨ka,kc,rfl,hkc,hkcm,-⟩:=hK.form
 obtain ⟨ra,rc,rfl,hrc,hrcm,-⟩:=hR.form
 unfold maxLen at hacm hkcm hrcm
 have hE0 : Ext w (World.alloc (World.alloc w (.cells #[.slice aa m.mem.al.length ac,.int .i64 m.mem.next,.slice ka m.stks.length kc,.slice ra m.run.length rc,.int .i64 m.tag,.int .i64 m.call] 28)) (.cells #[.slice none 0 0,.int .i64 0,.slice none 0 0,.slice none 0 0,.int .i64 0,.int .i64 0] 28)):=by repeat (first | exact Ext.refl _ | refine Ext.alloc ?_ _)
 have bM : Box (World.alloc (World.alloc w (.cells #[.slice aa m.mem.al.length ac,.int .i64 m.mem.next,.slice ka m.stks.length kc,.slice ra m.run.length rc,.int .i64 m.tag,.int .i64 m.call] 28)) (.cells #[.slice none 0 0,.int .i64 0,.slice none 0 0,.slice none 0 0,.int .i64 0,.int .i64 0] 28)) (w.heap.size) 28 #[.slice aa m.mem.al.length ac,.int .i64 m.mem.next,.slice ka m.stks.length kc,.slice ra m.run.length rc,.int .i64 m.tag,.int .i64 m.call]:=(by
  have h:=Box.new w 28 #[.slice aa m.mem.al.length ac,.int .i64 m.mem.next,.slice ka m.stks.length kc,.slice ra m.run.length rc,.int .i64 m.tag,.int .i64 m.call]
  replace h:=Box.ext h ((Ext.refl _).alloc (.cells #[.slice none 0 0,.int .i64 0,.slice none 0 0,.slice none 0 0,.int .i64 0,.int .i64 0] 28))
  exact h)
 have bR : Box (World.alloc (World.alloc w (.cells #[.slice aa m.mem.al.length ac,.int .i64 m.mem.next,.slice ka m.stks.length kc,.slice ra m.run.length rc,.int .i64 m.tag,.int .i64 m.call] 28)) (.cells #[.slice none 0 0,.int .i64 0,.slice none 0 0,.slice none 0 0,.int .i64 0,.int .i64 0] 28)) (w.heap.size+1) 28 #[.slice none 0 0,.int .i64 0,.slice none 0 0,.slice none 0 0,.int .i64 0,.int .i64 0]:=(by
  have h:=Box.new (World.alloc w (.cells #[.slice aa m.mem.al.length ac,.int .i64 m.mem.next,.slice ka m.stks.length kc,.slice ra m.run.length rc,.int .i64 m.tag,.int .i64 m.call] 28)) 28 #[.slice none 0 0,.int .i64 0,.slice none 0 0,.slice none 0 0,.int .i64 0,.int .i64 0]
  simp only [World.size_alloc] at h
  exact h)
 obtain ⟨w0,hw0⟩ : ∃ z,(World.alloc (World.alloc w (.cells #[.slice aa m.mem.al.length ac,.int .i64 m.mem.next,.slice ka m.stks.length kc,.slice ra m.run.length rc,.int .i64 m.tag,.int .i64 m.call] 28)) (.cells #[.slice none 0 0,.int .i64 0,.slice none 0 0,.slice none 0 0,.int .i64 0,.int .i64 0] 28))=z:=⟨_,rfl⟩
 rw [hw0] at hE0 bM bR
 have hs0 : w0.heap.size=w.heap.size+2:=by rw [← hw0];simp
 replace hs0:=Lib.hid hs0
 replace hA:=Lib.hid hA
 replace hK:=Lib.hid hK
 replace hR:=Lib.hid hR
 replace hn:=Lib.hid hn
 cases hok : okMon m
 ·skip
  have hce:=Lib.hid (monErr_not hok)
  have hres:=Lib.hid (leaveM_bad hok)
  clear hok
  go_enter Try.func14,Try.ntmps14
  obtain ⟨bM_0,bM_1,bM_2,bM_3,bM_4,bM_5,bM_l⟩:=bM.c6
  go_wp2_with fail
  clear bM_0 bM_1 bM_2 bM_3 bM_4 bM_5 bM_l
  refine (ref35_Check (hA.out.ext hE0) hn.out (hK.out.ext hE0) (hR.out.ext hE0)).mono ?_
  rintro e w1 ⟨rfl,hE1⟩
  replace bM:=bM.ext hE1
  replace bR:=bR.ext hE1
  have hF1:=Ext.trans hE0 hE1
  rw [hce.out]
  clear hw0
  obtain ⟨bM_0,bM_1,bM_2,bM_3,bM_4,bM_5,bM_l⟩:=bM.c6
  have bR_0 : World.cell? w1 ⟨w.heap.size+1,0,none⟩=some (.slice none 0 0):=bR.cell 0
  have bR_1 : World.cell? w1 ⟨w.heap.size+1,1,none⟩=some (.int .i64 0):=bR.cell 1
  have bR_2 : World.cell? w1 ⟨w.heap.size+1,2,none⟩=some (.slice none 0 0):=bR.cell 2
  have bR_3 : World.cell? w1 ⟨w.heap.size+1,3,none⟩=some (.slice none 0 0):=bR.cell 3
  have bR_4 : World.cell? w1 ⟨w.heap.size+1,4,none⟩=some (.int .i64 0):=bR.cell 4
  have bR_5 : World.cell? w1 ⟨w.heap.size+1,5,none⟩=some (.int .i64 0):=bR.cell 5
  have bR_f0 : World.frozen? w1 ⟨w.heap.size+1,0,none⟩=false:=bR.frozen 0
  have bR_f1 : World.frozen? w1 ⟨w.heap.size+1,1,none⟩=false:=bR.frozen 1
  have bR_f2 : World.frozen? w1 ⟨w.heap.size+1,2,none⟩=false:=bR.frozen 2
  have bR_f3 : World.frozen? w1 ⟨w.heap.size+1,3,none⟩=false:=bR.frozen 3
  have bR_f4 : World.frozen? w1 ⟨w.heap.size+1,4,none⟩=false:=bR.frozen 4
  have bR_f5 : World.frozen? w1 ⟨w.heap.size+1,5,none⟩=false:=bR.frozen 5
  have bR_l:=bR.lt
  go_wp2
  rw [hres.out]
  have hXe : ExtBut (fun b=>w.heap.size≤b∧b < w.heap.size+2) w1 (World.setCell (World.setCell (World.setCell (World.setCell (World.setCell (World.setCell w1 ⟨w.heap.size+1,0,none⟩ (.slice none 0 0)) ⟨w.heap.size+1,1,none⟩ (.int .i64 0)) ⟨w.heap.size+1,2,none⟩ (.slice none 0 0)) ⟨w.heap.size+1,3,none⟩ (.slice none 0 0)) ⟨w.heap.size+1,4,none⟩ (.int .i64 0)) ⟨w.heap.size+1,5,none⟩ (.int .i64 0)):=by (repeat' with_reducible first | exact ExtBut.refl _ _ | refine ExtBut.dr ?_ | refine ExtBut.sc ?_ ?_ | fail) <;> dsimp only <;> omega
  refine bodyPost_ret (v := .tuple #[.agg #[.slice none 0 0,.int .i64 0,.slice none 0 0,.slice none 0 0,.int .i64 0,.int .i64 0],.int .i64 8]) (by simp [results,Try.f14,go_sem,bR_0,bR_1,bR_2,bR_3,bR_4,bR_5]) rfl ?_
  have hFe:=ExtBut.ext hF1 hXe (fun b h=>h.1)
  exact ⟨_,rfl,FrMon.zero _ _,hFe⟩
 have hMok:=MonOk.of hok
 have hce:=Lib.hid (monErr_of hok)
 have hcl:=Lib.hid hMok.small
 by_cases hl : m.run.length=0
 ·skip
  have hres:=Lib.hid (leaveM_none hok hl)
  have q1 : ((m.run.length : Int) == 0)=true:=beq_iff_eq.2 (by omega)
  clear hok hMok hl
  go_enter Try.func14,Try.ntmps14
  obtain ⟨bM_0,bM_1,bM_2,bM_3,bM_4,bM_5,bM_l⟩:=bM.c6
  go_wp2_with fail
  clear bM_0 bM_1 bM_2 bM_3 bM_4 bM_5 bM_l
  refine (ref35_Check (hA.out.ext hE0) hn.out (hK.out.ext hE0) (hR.out.ext hE0)).mono ?_
  rintro e w1 ⟨rfl,hE1⟩
  replace bM:=bM.ext hE1
  replace bR:=bR.ext hE1
  have hF1:=Ext.trans hE0 hE1
  rw [hce.out]
  clear hw0
  obtain ⟨bM_0,bM_1,bM_2,bM_3,bM_4,bM_5,bM_l⟩:=bM.c6
  have bR_0 : World.cell? w1 ⟨w.heap.size+1,0,none⟩=some (.slice none 0 0):=bR.cell 0
  have bR_1 : World.cell? w1 ⟨w.heap.size+1,1,none⟩=some (.int .i64 0):=bR.cell 1
  have bR_2 : World.cell? w1 ⟨w.heap.size+1,2,none⟩=some (.slice none 0 0):=bR.cell 2
  have bR_3 : World.cell? w1 ⟨w.heap.size+1,3,none⟩=some (.slice none 0 0):=bR.cell 3
  have bR_4 : World.cell? w1 ⟨w.heap.size+1,4,none⟩=some (.int .i64 0):=bR.cell 4
  have bR_5 : World.cell? w1 ⟨w.heap.size+1,5,none⟩=some (.int .i64 0):=bR.cell 5
  have bR_f0 : World.frozen? w1 ⟨w.heap.size+1,0,none⟩=false:=bR.frozen 0
  have bR_f1 : World.frozen? w1 ⟨w.heap.size+1,1,none⟩=false:=bR.frozen 1
  have bR_f2 : World.frozen? w1 ⟨w.heap.size+1,2,none⟩=false:=bR.frozen 2
  have bR_f3 : World.frozen? w1 ⟨w.heap.size+1,3,none⟩=false:=bR.frozen 3
  have bR_f4 : World.frozen? w1 ⟨w.heap.size+1,4,none⟩=false:=bR.frozen 4
  have bR_f5 : World.frozen? w1 ⟨w.heap.size+1,5,none⟩=false:=bR.frozen 5
  have bR_l:=bR.lt
  go_wp2
  rw [hres.out]
  have hXe : ExtBut (fun b=>w.heap.size≤b∧b < w.heap.size+2) w1 (World.setCell (World.setCell (World.setCell (World.setCell (World.setCell (World.setCell w1 ⟨w.heap.size+1,0,none⟩ (.slice none 0 0)) ⟨w.heap.size+1,1,none⟩ (.int .i64 0)) ⟨w.heap.size+1,2,none⟩ (.slice none 0 0)) ⟨w.heap.size+1,3,none⟩ (.slice none 0 0)) ⟨w.heap.size+1,4,none⟩ (.int .i64 0)) ⟨w.heap.size+1,5,none⟩ (.int .i64 0)):=by (repeat' with_reducible first | exact ExtBut.refl _ _ | refine ExtBut.dr ?_ | refine ExtBut.sc ?_ ?_ | fail) <;> dsimp only <;> omega
  refine bodyPost_ret (v := .tuple #[.agg #[.slice none 0 0,.int .i64 0,.slice none 0 0,.slice none 0 0,.int .i64 0,.int .i64 0],.int .i64 6]) (by simp [results,Try.f14,go_sem,bR_0,bR_1,bR_2,bR_3,bR_4,bR_5]) rfl ?_
  have hFe:=ExtBut.ext hF1 hXe (fun b h=>h.1)
  exact ⟨_,rfl,FrMon.zero _ _,hFe⟩
 have q1 : ((m.run.length : Int) == 0)=false:=beq_eq_false_iff_ne.2 (by omega)
 have hres:=Lib.hid (leaveM_ok hok hl)
 have hl1 : 1≤m.run.length:=by omega
 have w1 : IntKind.i64.wrap ((m.run.length : Int) - 1)=(m.run.length : Int) - 1:=IntWalk.i64_in _ (by omega)
 clear hok hMok hl
 obtain ⟨ni,nz,hni,hnz,hni3,hnz3,hnby⟩:=Int.infoE
 replace hni:=Lib.hid hni
 go_enter Try.func14,Try.ntmps14
 obtain ⟨bM_0,bM_1,bM_2,bM_3,bM_4,bM_5,bM_l⟩:=bM.c6
 go_wp2_with fail
 clear bM_0 bM_1 bM_2 bM_3 bM_4 bM_5 bM_l
 refine (ref35_Check (hA.out.ext hE0) hn.out (hK.out.ext hE0) (hR.out.ext hE0)).mono ?_
 rintro e w1 ⟨rfl,hE1⟩
 replace bM:=bM.ext hE1
 replace bR:=bR.ext hE1
 have hF1:=Ext.trans hE0 hE1
 rw [hce.out]
 clear hw0
 obtain ⟨bM_0,bM_1,bM_2,bM_3,bM_4,bM_5,bM_l⟩:=bM.c6
 go_wp2_with fail
 clear bM_0 bM_1 bM_2 bM_3 bM_4 bM_5 bM_l
 have hXcs:=Lib.hid (by have:=bR.lt;omega : w.heap.size+2≤w1.heap.size)
 refine (ref35_Twin (hA.out.ext hF1) (hK.out.ext hF1) (hR.out.ext hF1) hcl.out.1 hcl.out.2.1 hcl.out.2.2).mono ?_
 rintro e w2 ⟨TN,ca,ck,cr,vsA,vs,rfl,hC,hE2⟩
 replace bM:=bM.ext hE2
 replace bR:=bR.ext hE2
 have hF2:=Ext.trans hF1 hE2
 have hv:=(OM.read hC.al).form
 obtain ⟨ca,cac,rfl,-⟩:=hv
 have hv:=hC.stk.outer.sl.slice_form
 obtain ⟨ck,ckc,rfl,-⟩:=hv
 have hv:=hC.run.sl.slice_form
 obtain ⟨cr,crc,rfl,-⟩:=hv
 replace hC:=Lib.hid hC
 have hXc:=Lib.hid (ExtBut.refl (fun b=>w.heap.size≤b∧b < w.heap.size+2) w2)
 have hTl:=Lib.hid (hC.out.low.1)
 have hTs:=Lib.hid (hC.out.low.2)
 obtain ⟨bM_0,bM_1,bM_2,bM_3,bM_4,bM_5,bM_l⟩:=bM.c6
 go_upto_region 7 with fail
 clear bM_0 bM_1 bM_2 bM_3 bM_4 bM_5 bM_l
 have szbO:=Lib.hid (by have:=bR.lt;omega : w.heap.size+2≤w2.heap.size)
 have bO:=Box.new w2 28 #[.slice ca m.mem.al.length cac,.int .i64 m.mem.next,.slice ck m.stks.length ckc,.slice cr m.run.length crc,.int .i64 m.tag,.int .i64 m.call]
 have hzb0 : (World.alloc w2 (.cells #[.slice ca m.mem.al.length cac,.int .i64 m.mem.next,.slice ck m.stks.length ckc,.slice cr m.run.length crc,.int .i64 m.tag,.int .i64 m.call] 28)).heap.size=w2.heap.size+1:=by rw [World.size_alloc]
 have hx3 : Ext w2 (World.alloc w2 (.cells #[.slice ca m.mem.al.length cac,.int .i64 m.mem.next,.slice ck m.stks.length ckc,.slice cr m.run.length crc,.int .i64 m.tag,.int .i64 m.call] 28)):=(Ext.refl _).alloc _
 obtain ⟨w3b,hw3⟩ : ∃ z,World.alloc w2 (.cells #[.slice ca m.mem.al.length cac,.int .i64 m.mem.next,.slice ck m.stks.length ckc,.slice cr m.run.length crc,.int .i64 m.tag,.int .i64 m.call] 28)=z:=⟨_,rfl⟩
 rw [hw3] at bO hx3 hzb0 ⊢
 clear hw3
 replace bM:=bM.ext hx3
 replace bR:=bR.ext hx3
 replace hXc:=Lib.hid (ExtBut.trans hXc.out (ExtBut.of_ext hx3))
 have hF4:=Ext.trans hF2 hx3
 clear hzb0
 replace hXc:=Lib.hid (ExtBut.mono hXc.out (S':=(fun b=>(w.heap.size≤b∧b < w.heap.size+2)∨b=w2.heap.size)) (fun b _ h => .inl h))
 have hcc:=Lib.hid (show m.run.length≤crc by have:=hC.out.run.sl.slice_form;obtain ⟨a,c,e,h,-⟩:=this;cases e;exact h)
 have hut : ∀ w,(Instr.slice 26 (.slice cr m.run.length crc) none (some (.int .i64 ((m.run.length : Int) - 1))) none).run Try.prog w = .ok (.slice cr (m.run.length - 1) crc) w:=fun w=>run_slice_upto Try.underlying26 hni.out cr m.run.length crc ((m.run.length : Int) - 1) (m.run.length - 1) (by omega) (by have:=hcc.out;omega) w
 have hXz:=Lib.hid (ExtBut.refl (fun b=>(w.heap.size≤b∧b < w.heap.size+2)∨b=w2.heap.size) w3b)
 have hEt : Hid (Ext w2 w3b):=Hid.mk hx3
 obtain ⟨bM_0,bM_1,bM_2,bM_3,bM_4,bM_5,bM_l⟩:=bM.c6
 have bO_0 : World.cell? w3b ⟨w2.heap.size,0,none⟩=some (.slice ca m.mem.al.length cac):=bO.cell 0
 have bO_1 : World.cell? w3b ⟨w2.heap.size,1,none⟩=some (.int .i64 m.mem.next):=bO.cell 1
 have bO_2 : World.cell? w3b ⟨w2.heap.size,2,none⟩=some (.slice ck m.stks.length ckc):=bO.cell 2
 have bO_3 : World.cell? w3b ⟨w2.heap.size,3,none⟩=some (.slice cr m.run.length crc):=bO.cell 3
 have bO_4 : World.cell? w3b ⟨w2.heap.size,4,none⟩=some (.int .i64 m.tag):=bO.cell 4
 have bO_5 : World.cell? w3b ⟨w2.heap.size,5,none⟩=some (.int .i64 m.call):=bO.cell 5
 have bO_f0 : World.frozen? w3b ⟨w2.heap.size,0,none⟩=false:=bO.frozen 0
 have bO_f1 : World.frozen? w3b ⟨w2.heap.size,1,none⟩=false:=bO.frozen 1
 have bO_f2 : World.frozen? w3b ⟨w2.heap.size,2,none⟩=false:=bO.frozen 2
 have bO_f3 : World.frozen? w3b ⟨w2.heap.size,3,none⟩=false:=bO.frozen 3
 have bO_f4 : World.frozen? w3b ⟨w2.heap.size,4,none⟩=false:=bO.frozen 4
 have bO_f5 : World.frozen? w3b ⟨w2.heap.size,5,none⟩=false:=bO.frozen 5
 have bO_l:=bO.lt
 go_upto_region 8 with fail
 clear bM_0 bM_1 bM_2 bM_3 bM_4 bM_5 bM_l bO_0 bO_1 bO_2 bO_3 bO_4 bO_5 bO_f0 bO_f1 bO_f2 bO_f3 bO_f4 bO_f5 bO_l
 have hS5 : ExtBut (fun b=>(w.heap.size≤b∧b < w.heap.size+2)∨b=w2.heap.size) w3b (World.setCell w3b ⟨w2.heap.size,3,none⟩ (.slice cr (m.run.length - 1) crc)):=((ExtBut.setCell w3b ⟨w2.heap.size,3,none⟩ (.slice cr (m.run.length - 1) crc)).mono (S':=(fun b=>(w.heap.size≤b∧b < w.heap.size+2)∨b=w2.heap.size)) (fun b _ h=>by have h' : b=w2.heap.size:=h;omega))
 replace bM:=(Box.other bM (p:=⟨w2.heap.size,3,none⟩) (by have:=szbO.out;show w2.heap.size≠w.heap.size;omega) (.slice cr (m.run.length - 1) crc))
 replace bR:=(Box.other bR (p:=⟨w2.heap.size,3,none⟩) (by have:=szbO.out;show w2.heap.size≠w.heap.size+1;omega) (.slice cr (m.run.length - 1) crc))
 replace bO:=(Box.setL bO 3 (.slice cr (m.run.length - 1) crc))
 simp only [List.set_cons_zero,List.set_cons_succ] at bO
 obtain ⟨w5s,hw5⟩ : ∃ z,(World.setCell w3b ⟨w2.heap.size,3,none⟩ (.slice cr (m.run.length - 1) crc))=z:=⟨_,rfl⟩
 rw [hw5] at hS5 bM bR bO ⊢
 clear hw5
 have hF5:=ExtBut.ext hF4 hS5 (fun b h=>by have h0:=szbO.out;rcases h with h | h <;> omega)
 replace hXz:=Lib.hid (ExtBut.trans hXz.out hS5)
 clear hS5
 obtain ⟨bM_0,bM_1,bM_2,bM_3,bM_4,bM_5,bM_l⟩:=bM.c6
 have bR_0 : World.cell? w5s ⟨w.heap.size+1,0,none⟩=some (.slice none 0 0):=bR.cell 0
 have bR_1 : World.cell? w5s ⟨w.heap.size+1,1,none⟩=some (.int .i64 0):=bR.cell 1
 have bR_2 : World.cell? w5s ⟨w.heap.size+1,2,none⟩=some (.slice none 0 0):=bR.cell 2
 have bR_3 : World.cell? w5s ⟨w.heap.size+1,3,none⟩=some (.slice none 0 0):=bR.cell 3
 have bR_4 : World.cell? w5s ⟨w.heap.size+1,4,none⟩=some (.int .i64 0):=bR.cell 4
 have bR_5 : World.cell? w5s ⟨w.heap.size+1,5,none⟩=some (.int .i64 0):=bR.cell 5
 have bR_f0 : World.frozen? w5s ⟨w.heap.size+1,0,none⟩=false:=bR.frozen 0
 have bR_f1 : World.frozen? w5s ⟨w.heap.size+1,1,none⟩=false:=bR.frozen 1
 have bR_f2 : World.frozen? w5s ⟨w.heap.size+1,2,none⟩=false:=bR.frozen 2
 have bR_f3 : World.frozen? w5s ⟨w.heap.size+1,3,none⟩=false:=bR.frozen 3
 have bR_f4 : World.frozen? w5s ⟨w.heap.size+1,4,none⟩=false:=bR.frozen 4
 have bR_f5 : World.frozen? w5s ⟨w.heap.size+1,5,none⟩=false:=bR.frozen 5
 have bR_l:=bR.lt
 obtain ⟨bO_0,bO_1,bO_2,bO_3,bO_4,bO_5,bO_l⟩:=bO.c6
 go_wp2
 rw [hres.out]
 have hXe : ExtBut (fun b=>(w.heap.size≤b∧b < w.heap.size+2)∨b=w2.heap.size) w5s (World.setCell (World.setCell (World.setCell (World.setCell (World.setCell (World.setCell w5s ⟨w.heap.size+1,0,none⟩ (.slice ca m.mem.al.length cac)) ⟨w.heap.size+1,1,none⟩ (.int .i64 m.mem.next)) ⟨w.heap.size+1,2,none⟩ (.slice ck m.stks.length ckc)) ⟨w.heap.size+1,3,none⟩ (.slice cr (m.run.length - 1) crc)) ⟨w.heap.size+1,4,none⟩ (.int .i64 m.tag)) ⟨w.heap.size+1,5,none⟩ (.int .i64 m.call)):=by (repeat' with_reducible first | exact ExtBut.refl _ _ | refine ExtBut.dr ?_ | refine ExtBut.sc ?_ ?_ | fail) <;> dsimp only <;> omega
 refine bodyPost_ret (v := .tuple #[.agg #[.slice ca m.mem.al.length cac,.int .i64 m.mem.next,.slice ck m.stks.length ckc,.slice cr (m.run.length - 1) crc,.int .i64 m.tag,.int .i64 m.call],.int .i64 0]) (by simp [results,Try.f14,go_sem,bR_0,bR_1,bR_2,bR_3,bR_4,bR_5]) rfl ?_
 have hFe:=ExtBut.ext hF5 hXe (fun b h=>by have h0:=szbO.out;rcases h with h | h <;> omega)
 have hXze:=ExtBut.trans hXz.out hXe
 have hsz:=hEt.out.size
 have hXt:=(ExtBut.of_ext hEt.out).trans hXze
 have hT:=hTs.out
 have hP:=hXcs.out
 have hbo:=szbO.out
 have htk : ∀ w,Nts w (.slice cr m.run.length crc) m.run→Nts w (.slice cr (m.run.length - 1) crc) (m.run.take (m.run.length - 1)):=fun w h=>by
  have h7:=Sl.take h (m.run.length - 1) (by omega)
  have h8:=rows_take irow irow_len m.run (m.run.length - 1)
  rw [h8] at h7
  unfold Nts
  rw [List.length_take,Nat.min_eq_left (by omega)]
  exact h7
 have hl:=hTl.out
 exact ⟨_,rfl,FrMon.of_fs (m:=⟨m.mem,m.stks,m.run.take (m.run.length - 1),m.tag,m.call⟩) (hC.out.alF.to (S':=fun b=>w.heap.size≤b) hXt (fun b h1 hl2 h2=>by rcases h2 with h2 | h2 <;> omega) (fun b h1 _=>by omega)) (hC.out.stk.fs.to (S':=fun b=>w.heap.size≤b) hXt (fun b h1 hl2 h2=>by rcases h2 with h2 | h2 <;> omega) (fun b h1 _=>by omega)) (Fq.imp (hC.out.runF.to (S':=fun b=>w.heap.size≤b) hXt (fun b h1 hl2 h2=>by have h3:=(hC.out.run.lt h1).1;rcases h2 with h2 | h2 <;> omega) (fun b h1 _=>by have h3:=(hC.out.run.lt h1).1;omega)) htk),hFe⟩
end Go.Proofs.Ytnplphcnagooeaa
