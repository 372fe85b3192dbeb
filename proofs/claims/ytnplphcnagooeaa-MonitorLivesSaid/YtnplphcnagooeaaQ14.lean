/- Several texts in one: MonT, RegInr, BoxR, BoxS. -/
import Derived.Test.YtnplphcnagooeaaQ13
import Derived.Test.YtnplphcnagooeaaQ07
import Derived.Test.YtnplphcnagooeaaQ01
/- Contracts: monitor.Forget. (printed by gen/mon35h.py) -/
namespace Go.Proofs.Ytnplphcnagooeaa
set_option maxRecDepth 100000
open Go.RowKit
theorem forgetM_bad {m : Mon} (h : okMon m=false) : forgetM m=(Mon.zero,8):=by simp [forgetM,h]
theorem forgetM_ok {m : Mon} (h : okMon m=true) : forgetM m=(⟨⟨m.mem.al.filter (·.live),m.mem.next⟩,keptK m.stks m.mem.al,m.run,m.tag,m.call⟩,0):=by rw [forgetM,if_pos h]
theorem Cloned.deleted {w w5 : World} {B : Nat} {c : Nat→Nat} {sa ss sr : Value} {vs : List Value} {m : Mon} {q : Stk→Bool} {a : Option Addr} {n cap : Nat} (h : Cloned w B c sa ss sr vs m) (hn : n=(zq q vs m.stks m.stks.length).length)
  (hF : Fq (fun b=>ss.ownBlock=some b) w5 (fun w=>Sl w 2 (.slice a n cap) n (zqrows (zq q vs m.stks m.stks.length)))) (hX : ExtBut (fun b=>ss.ownBlock=some b) w w5) : Fq (fun b=>B≤b) w5 (fun w=>Kts w (.slice a n cap) (m.stks.filter q)):=by
 intro w'' hb
 have e1:=zq_snd (q:=q) h.len
 refine ⟨(zq q vs m.stks m.stks.length).map Prod.fst,?_,?_⟩
 ·rw [← e1]
  refine All2.map _ _ _ fun p hp => ?_
  have hp2:=List.mem_of_mem_take (List.mem_filter.1 hp).1
  obtain ⟨i,hi⟩:=List.mem_iff_getElem?.1 hp2
  rw [List.getElem?_zip_eq_some] at hi
  have hr:=(h.row i _ _ hi.1 hi.2).1.to (S':=fun b=>B≤b) hX (fun b h1 _ h2=>by have:=h.out0 b h2;have:=h1.2;omega) (fun b h1 _=>h1.1)
  exact hr w'' hb
 ·have h7:=hF w'' fun b h1 h2=>hb b (h.outer.lt h1).1 h2
  rw [← zq_rows,e1] at h7
  rw [← e1,List.length_map,← hn,e1]
  exact h7
set_option maxRecDepth 100000 in
set_option maxHeartbeats 6400000 in
theorem monitor_Forget {m : Mon} {sa ss sr : Value} {w : World} (hA : Als w sa m.mem.al) (hn : i64B m.mem.next) (hK : Kts w ss m.stks) (hR : Nts w sr m.run) :
  Calls Try.prog 17 #[.agg #[sa,.int .i64 m.mem.next,ss,sr,.int .i64 m.tag,.int .i64 m.call]] w (RetF w (fun v => .tuple #[v,.int .i64 (forgetM m).2]) (forgetM m).1):=by
 obtain ⟨aa,ac,rfl,hac,hacm,-⟩:=hA.form
 obtain ⟨ka,kc,rfl,hkc,hkcm,-⟩:=hK.form
 obtain ⟨ra,rc,rfl,hrc,hrcm,-⟩:=hR.form
 unfold maxLen at hacm hkcm hrcm
 have hE0 : Ext w (World.alloc (World.alloc w (.cells #[.slice aa m.mem.al.length ac,.int .i64 m.mem.next,.slice ka m.stks.length kc,.slice ra m.run.length rc,.int .i64 m.tag,.int .i64 m.call] 28)) (.cells #[.slice none 0 0,.int .i64 0,.slice none 0 0,.slice none 0 0,.int .i64 0,.int .i64 0] 28)):=by repeat (first | exact Ext.refl _ | refine Ext.alloc ?_ _)
 have bM : Box (World.alloc (World.alloc w (.cells #[.slice aa m.mem.al.length ac,.int .i64 m.mem.next,.slice ka m.stks.length kc,.slice ra m.run.length rc,.int .i64 m.tag,.int .i64 m.call] 28)) (.cells #[.slice none 0 0,.int .i64 0,.slice none 0 0,.slice none 0 0,.int .i64 0,.int .i64 0] 28)) (w.heap.size) 28 #[.slice aa m.mem.al.length ac,.int .i64 m.mem.next,.slice ka m.stks.length kc,.slice ra m.run.length rc,.int .i64 m.tag,.int .i64 m.call]:=(by
  have h:=Box.new w 28 #[.slice aa m.mem.al.length ac,.int .i64 m.mem.next,.slice ka m.stks.length kc,.slice ra m.run.length rc,.int .i64 m.tag,.int .i64 m.call]
  replace h:=Box.ext h ((Ext.refl _).alloc (.cells #[.slice none 0 0,.int .i64 0,.slice none 0 0,.slice none 0 0,.int .i64 0,.int .i64 0] 28))
  exact h)
 have bR : Box (World.alloc (World.alloc w (.cells #[.slice aa m.mem.al.length ac,.int .i64 m.mem.next,.slice ka m.stks.length kc,.slice ra m.run.length rc,.int .i64 m.tag,.int .i64 m.call] 28)) (.cells #[.slice none 0 0,.int .i64 0,.slice none 0 0,.slice none 0 0,.int .i64 0,.int .i64 0] 28)) (w.heap.size+1) 28 #[.slice none 0 0,.int .i64 0,.slice none 0 0,.slice none 0 0,.int .i64 0,.int .i64 0]:=(by
  have h:=Box.new (World.alloc w (.cells #[.slice aa m.mem.al.length ac,.int .i64 m.mem.next,.slice ka m.stks.length kc,.slice ra m.run.length rc,.int .i64 m.tag,.int .i64 m.call] 28)) 28 #[.slice none 0 0,.int .i64 0,.slice none 0 0,.slice none 0 0,.int .i64 0,.int .i64 0]
  simp only [World.size_alloc] at h
  exact h)
 obtain ⟨w0,hw0⟩ : ∃ z,(World.alloc (World.alloc w (.cells #[.slice aa m.mem.al.length ac,.int .i64 m.mem.next,.slice ka m.stks.length kc,.slice ra m.run.length rc,.int .i64 m.tag,.int .i64 m.call] 28)) (.cells #[.slice none 0 0,.int .i64 0,.slice none 0 0,.slice none 0 0,.int .i64 0,.int .i64 0] 28))=z:=⟨_,rfl⟩
 rw [hw0] at hE0 bM bR
 have hs0 : w0.heap.size=w.heap.size+2:=by rw [← hw0];simp
 replace hs0:=Lib.hid hs0
 replace hA:=Lib.hid hA
 replace hK:=Lib.hid hK
 replace hR:=Lib.hid hR
 replace hn:=Lib.hid hn
 cases hok : okMon m
 ·skip
  have hce:=Lib.hid (monErr_not hok)
  have hres:=Lib.hid (forgetM_bad hok)
  clear hok
  go_enter Try.func17,Try.ntmps17
  obtain ⟨bM_0,bM_1,bM_2,bM_3,bM_4,bM_5,bM_l⟩:=bM.c6
  go_wp2_with fail
  clear bM_0 bM_1 bM_2 bM_3 bM_4 bM_5 bM_l
  refine (mon_Check' (hA.out.ext hE0) hn.out (hK.out.ext hE0) (hR.out.ext hE0)).mono ?_
  rintro e w1 ⟨rfl,hE1⟩
  replace bM:=bM.ext hE1
  replace bR:=bR.ext hE1
  have hF1:=Ext.trans hE0 hE1
  rw [hce.out]
  clear hw0
  obtain ⟨bM_0,bM_1,bM_2,bM_3,bM_4,bM_5,bM_l⟩:=bM.c6
  have bR_0 : World.cell? w1 ⟨w.heap.size+1,0,none⟩=some (.slice none 0 0):=bR.cell 0
  have bR_1 : World.cell? w1 ⟨w.heap.size+1,1,none⟩=some (.int .i64 0):=bR.cell 1
  have bR_2 : World.cell? w1 ⟨w.heap.size+1,2,none⟩=some (.slice none 0 0):=bR.cell 2
  have bR_3 : World.cell? w1 ⟨w.heap.size+1,3,none⟩=some (.slice none 0 0):=bR.cell 3
  have bR_4 : World.cell? w1 ⟨w.heap.size+1,4,none⟩=some (.int .i64 0):=bR.cell 4
  have bR_5 : World.cell? w1 ⟨w.heap.size+1,5,none⟩=some (.int .i64 0):=bR.cell 5
  have bR_f0 : World.frozen? w1 ⟨w.heap.size+1,0,none⟩=false:=bR.frozen 0
  have bR_f1 : World.frozen? w1 ⟨w.heap.size+1,1,none⟩=false:=bR.frozen 1
  have bR_f2 : World.frozen? w1 ⟨w.heap.size+1,2,none⟩=false:=bR.frozen 2
  have bR_f3 : World.frozen? w1 ⟨w.heap.size+1,3,none⟩=false:=bR.frozen 3
  have bR_f4 : World.frozen? w1 ⟨w.heap.size+1,4,none⟩=false:=bR.frozen 4
  have bR_f5 : World.frozen? w1 ⟨w.heap.size+1,5,none⟩=false:=bR.frozen 5
  have bR_l:=bR.lt
  go_wp2
  rw [hres.out]
  have hXe : ExtBut (fun b=>w.heap.size≤b∧b < w.heap.size+2) w1 (World.setCell (World.setCell (World.setCell (World.setCell (World.setCell (World.setCell w1 ⟨w.heap.size+1,0,none⟩ (.slice none 0 0)) ⟨w.heap.size+1,1,none⟩ (.int .i64 0)) ⟨w.heap.size+1,2,none⟩ (.slice none 0 0)) ⟨w.heap.size+1,3,none⟩ (.slice none 0 0)) ⟨w.heap.size+1,4,none⟩ (.int .i64 0)) ⟨w.heap.size+1,5,none⟩ (.int .i64 0)):=by (repeat' with_reducible first | exact ExtBut.refl _ _ | refine ExtBut.dr ?_ | refine ExtBut.sc ?_ ?_ | fail) <;> dsimp only <;> omega
  refine bodyPost_ret (v := .tuple #[.agg #[.slice none 0 0,.int .i64 0,.slice none 0 0,.slice none 0 0,.int .i64 0,.int .i64 0],.int .i64 8]) (by simp [results,Try.f17,go_sem,bR_0,bR_1,bR_2,bR_3,bR_4,bR_5]) rfl ?_
  have hFe:=ExtBut.ext hF1 hXe (fun b h=>h.1)
  exact ⟨_,rfl,FrMon.zero _ _,hFe⟩
 have hMok:=MonOk.of hok
 have hce:=Lib.hid (monErr_of hok)
 have hcl:=Lib.hid hMok.small
 have hfo:=Lib.hid (forgetR_ok hMok.memOk)
 have hres:=Lib.hid (forgetM_ok hok)
 have hkept:=Lib.hid hMok.kept
 obtain ⟨FL,hFL⟩ : ∃ z,m.mem.al.filter (·.live)=z:=⟨_,rfl⟩
 rw [hFL] at hfo hres
 have hFLh:=Lib.hid hFL
 clear hok hMok hFL
 have hmf : ∀ (fn : Fn) (first cap : Array Value) (w : World),(Instr.makeFunc fn first cap).run Try.prog w = .ok (.func fn first cap) w:=fun _ _ _ _=>rfl
 go_enter Try.func17,Try.ntmps17
 obtain ⟨bM_0,bM_1,bM_2,bM_3,bM_4,bM_5,bM_l⟩:=bM.c6
 go_wp2_with fail
 clear bM_0 bM_1 bM_2 bM_3 bM_4 bM_5 bM_l
 refine (mon_Check' (hA.out.ext hE0) hn.out (hK.out.ext hE0) (hR.out.ext hE0)).mono ?_
 rintro e w1 ⟨rfl,hE1⟩
 replace bM:=bM.ext hE1
 replace bR:=bR.ext hE1
 have hF1:=Ext.trans hE0 hE1
 rw [hce.out]
 clear hw0
 obtain ⟨bM_0,bM_1,bM_2,bM_3,bM_4,bM_5,bM_l⟩:=bM.c6
 go_wp2_with fail
 clear bM_0 bM_1 bM_2 bM_3 bM_4 bM_5 bM_l
 have hXas:=Lib.hid (by have:=bR.lt;omega : w.heap.size+2≤w1.heap.size)
 refine (allocs_Forget (hA.out.ext hF1) hn.out).mono ?_
 rintro e w2 ⟨v,rfl,fM,hE2⟩
 replace bM:=bM.ext hE2
 replace bR:=bR.ext hE2
 have hF2:=Ext.trans hF1 hE2
 rw [hfo.out] at fM ⊢
 obtain ⟨sx,rfl,hx⟩:=FrM.fs fM
 clear fM
 dsimp only at hx
 have hv:=hx.read.form
 obtain ⟨xa,xc,rfl,-⟩:=hv
 dsimp only at hx ⊢
 replace hx:=Lib.hid hx
 have hXa:=Lib.hid (ExtBut.refl (fun b=>w.heap.size≤b∧b < w.heap.size+2) w2)
 obtain ⟨bM_0,bM_1,bM_2,bM_3,bM_4,bM_5,bM_l⟩:=bM.c6
 go_wp2_with fail
 clear bM_0 bM_1 bM_2 bM_3 bM_4 bM_5 bM_l
 have szbQ:=Lib.hid (by have:=bR.lt;omega : w.heap.size+2≤w2.heap.size)
 have bQ:=Box.new w2 24 #[.slice xa FL.length xc,.int .i64 m.mem.next]
 have hzb0 : (World.alloc w2 (.cells #[.slice xa FL.length xc,.int .i64 m.mem.next] 24)).heap.size=w2.heap.size+1:=by rw [World.size_alloc]
 have hx3 : Ext w2 (World.alloc w2 (.cells #[.slice xa FL.length xc,.int .i64 m.mem.next] 24)):=(Ext.refl _).alloc _
 obtain ⟨w3b,hw3⟩ : ∃ z,World.alloc w2 (.cells #[.slice xa FL.length xc,.int .i64 m.mem.next] 24)=z:=⟨_,rfl⟩
 rw [hw3] at bQ hx3 hzb0 ⊢
 clear hw3
 replace bM:=bM.ext hx3
 replace bR:=bR.ext hx3
 replace hXa:=Lib.hid (ExtBut.trans hXa.out (ExtBut.of_ext hx3))
 have hF4:=Ext.trans hF2 hx3
 clear hzb0
 have hPl:=Lib.hid bQ.lt
 have hXcs:=Lib.hid (by have:=bR.lt;omega : w.heap.size+2≤w3b.heap.size)
 have hXa_hXc:=Lib.hid hXa.out.size
 refine (monitor_clone (hA.out.ext hF4) (hK.out.ext hF4) (hR.out.ext hF4) hcl.out.1 hcl.out.2.1 hcl.out.2.2).mono ?_
 rintro e w5 ⟨c,ca,ck,cr,vs,rfl,hC,hE5⟩
 replace bM:=bM.ext hE5
 replace bR:=bR.ext hE5
 replace bQ:=bQ.ext hE5
 replace hXa:=Lib.hid (ExtBut.trans hXa.out (ExtBut.of_ext hE5))
 have hF5:=Ext.trans hF4 hE5
 have hv:=hC.al.read.form
 obtain ⟨ca,cac,rfl,-⟩:=hv
 have hv:=hC.outer.sl.slice_form
 obtain ⟨ck,ckc,rfl,-⟩:=hv
 have hv:=hC.run.read.form
 obtain ⟨cr,crc,rfl,-⟩:=hv
 replace hC:=Lib.hid hC
 have hXc:=Lib.hid (ExtBut.refl (fun b=>w.heap.size≤b∧b < w.heap.size+2) w5)
 have bM_0 : World.cell? w5 ⟨w.heap.size,0,none⟩=some (.slice aa m.mem.al.length ac):=bM.cell 0
 have bM_1 : World.cell? w5 ⟨w.heap.size,1,none⟩=some (.int .i64 m.mem.next):=bM.cell 1
 have bM_2 : World.cell? w5 ⟨w.heap.size,2,none⟩=some (.slice ka m.stks.length kc):=bM.cell 2
 have bM_3 : World.cell? w5 ⟨w.heap.size,3,none⟩=some (.slice ra m.run.length rc):=bM.cell 3
 have bM_4 : World.cell? w5 ⟨w.heap.size,4,none⟩=some (.int .i64 m.tag):=bM.cell 4
 have bM_5 : World.cell? w5 ⟨w.heap.size,5,none⟩=some (.int .i64 m.call):=bM.cell 5
 have bM_f0 : World.frozen? w5 ⟨w.heap.size,0,none⟩=false:=bM.frozen 0
 have bM_f1 : World.frozen? w5 ⟨w.heap.size,1,none⟩=false:=bM.frozen 1
 have bM_f2 : World.frozen? w5 ⟨w.heap.size,2,none⟩=false:=bM.frozen 2
 have bM_f3 : World.frozen? w5 ⟨w.heap.size,3,none⟩=false:=bM.frozen 3
 have bM_f4 : World.frozen? w5 ⟨w.heap.size,4,none⟩=false:=bM.frozen 4
 have bM_f5 : World.frozen? w5 ⟨w.heap.size,5,none⟩=false:=bM.frozen 5
 have bM_l:=bM.lt
 go_upto_region 6 with fail
 clear bM_0 bM_1 bM_2 bM_3 bM_4 bM_5 bM_f0 bM_f1 bM_f2 bM_f3 bM_f4 bM_f5 bM_l
 have hS6 : ExtBut (fun b=>w.heap.size≤b∧b < w.heap.size+2) w5 (World.setCell (World.setCell (World.setCell (World.setCell (World.setCell (World.setCell w5 ⟨w.heap.size,0,none⟩ (.slice ca m.mem.al.length cac)) ⟨w.heap.size,1,none⟩ (.int .i64 m.mem.next)) ⟨w.heap.size,2,none⟩ (.slice ck m.stks.length ckc)) ⟨w.heap.size,3,none⟩ (.slice cr m.run.length crc)) ⟨w.heap.size,4,none⟩ (.int .i64 m.tag)) ⟨w.heap.size,5,none⟩ (.int .i64 m.call)):=by (repeat' with_reducible first | exact ExtBut.refl _ _ | refine ExtBut.dr ?_ | refine ExtBut.sc ?_ ?_ | fail) <;> dsimp only <;> omega
 replace bM:=(Box.setL (Box.setL (Box.setL (Box.setL (Box.setL (Box.setL bM 0 (.slice ca m.mem.al.length cac)) 1 (.int .i64 m.mem.next)) 2 (.slice ck m.stks.length ckc)) 3 (.slice cr m.run.length crc)) 4 (.int .i64 m.tag)) 5 (.int .i64 m.call))
 simp only [List.set_cons_zero,List.set_cons_succ] at bM
 replace bR:=(Box.other (Box.other (Box.other (Box.other (Box.other (Box.other bR (p:=⟨w.heap.size,0,none⟩) (by simp) (.slice ca m.mem.al.length cac)) (p:=⟨w.heap.size,1,none⟩) (by simp) (.int .i64 m.mem.next)) (p:=⟨w.heap.size,2,none⟩) (by simp) (.slice ck m.stks.length ckc)) (p:=⟨w.heap.size,3,none⟩) (by simp) (.slice cr m.run.length crc)) (p:=⟨w.heap.size,4,none⟩) (by simp) (.int .i64 m.tag)) (p:=⟨w.heap.size,5,none⟩) (by simp) (.int .i64 m.call))
 replace bQ:=(Box.other (Box.other (Box.other (Box.other (Box.other (Box.other bQ (p:=⟨w.heap.size,0,none⟩) (by have:=szbQ.out;show w.heap.size≠w2.heap.size;omega) (.slice ca m.mem.al.length cac)) (p:=⟨w.heap.size,1,none⟩) (by have:=szbQ.out;show w.heap.size≠w2.heap.size;omega) (.int .i64 m.mem.next)) (p:=⟨w.heap.size,2,none⟩) (by have:=szbQ.out;show w.heap.size≠w2.heap.size;omega) (.slice ck m.stks.length ckc)) (p:=⟨w.heap.size,3,none⟩) (by have:=szbQ.out;show w.heap.size≠w2.heap.size;omega) (.slice cr m.run.length crc)) (p:=⟨w.heap.size,4,none⟩) (by have:=szbQ.out;show w.heap.size≠w2.heap.size;omega) (.int .i64 m.tag)) (p:=⟨w.heap.size,5,none⟩) (by have:=szbQ.out;show w.heap.size≠w2.heap.size;omega) (.int .i64 m.call))
 obtain ⟨w6s,hw6⟩ : ∃ z,(World.setCell (World.setCell (World.setCell (World.setCell (World.setCell (World.setCell w5 ⟨w.heap.size,0,none⟩ (.slice ca m.mem.al.length cac)) ⟨w.heap.size,1,none⟩ (.int .i64 m.mem.next)) ⟨w.heap.size,2,none⟩ (.slice ck m.stks.length ckc)) ⟨w.heap.size,3,none⟩ (.slice cr m.run.length crc)) ⟨w.heap.size,4,none⟩ (.int .i64 m.tag)) ⟨w.heap.size,5,none⟩ (.int .i64 m.call))=z:=⟨_,rfl⟩
 rw [hw6] at hS6 bM bR bQ ⊢
 clear hw6
 have hF6:=ExtBut.ext hF5 hS6 (fun b h=>h.1)
 replace hXa:=Lib.hid (ExtBut.trans hXa.out hS6)
 replace hXc:=Lib.hid (ExtBut.trans hXc.out hS6)
 clear hS6
 have bM_0 : World.cell? w6s ⟨w.heap.size,0,none⟩=some (.slice ca m.mem.al.length cac):=bM.cell 0
 have bM_1 : World.cell? w6s ⟨w.heap.size,1,none⟩=some (.int .i64 m.mem.next):=bM.cell 1
 have bM_2 : World.cell? w6s ⟨w.heap.size,2,none⟩=some (.slice ck m.stks.length ckc):=bM.cell 2
 have bM_3 : World.cell? w6s ⟨w.heap.size,3,none⟩=some (.slice cr m.run.length crc):=bM.cell 3
 have bM_4 : World.cell? w6s ⟨w.heap.size,4,none⟩=some (.int .i64 m.tag):=bM.cell 4
 have bM_5 : World.cell? w6s ⟨w.heap.size,5,none⟩=some (.int .i64 m.call):=bM.cell 5
 have bM_f0 : World.frozen? w6s ⟨w.heap.size,0,none⟩=false:=bM.frozen 0
 have bM_f1 : World.frozen? w6s ⟨w.heap.size,1,none⟩=false:=bM.frozen 1
 have bM_f2 : World.frozen? w6s ⟨w.heap.size,2,none⟩=false:=bM.frozen 2
 have bM_f3 : World.frozen? w6s ⟨w.heap.size,3,none⟩=false:=bM.frozen 3
 have bM_f4 : World.frozen? w6s ⟨w.heap.size,4,none⟩=false:=bM.frozen 4
 have bM_f5 : World.frozen? w6s ⟨w.heap.size,5,none⟩=false:=bM.frozen 5
 have bM_l:=bM.lt
 obtain ⟨bQ_0,bQ_1,bQ_l⟩:=bQ.c2
 go_upto_region 7 with fail
 clear bM_0 bM_1 bM_2 bM_3 bM_4 bM_5 bM_f0 bM_f1 bM_f2 bM_f3 bM_f4 bM_f5 bM_l bQ_0 bQ_1 bQ_l
 have hS7 : ExtBut (fun b=>w.heap.size≤b∧b < w.heap.size+2) w6s (World.setCell (World.setCell w6s ⟨w.heap.size,0,none⟩ (.slice xa FL.length xc)) ⟨w.heap.size,1,none⟩ (.int .i64 m.mem.next)):=by (repeat' with_reducible first | exact ExtBut.refl _ _ | refine ExtBut.dr ?_ | refine ExtBut.sc ?_ ?_ | fail) <;> dsimp only <;> omega
 replace bM:=(Box.setL (Box.setL bM 0 (.slice xa FL.length xc)) 1 (.int .i64 m.mem.next))
 simp only [List.set_cons_zero,List.set_cons_succ] at bM
 replace bR:=(Box.other (Box.other bR (p:=⟨w.heap.size,0,none⟩) (by simp) (.slice xa FL.length xc)) (p:=⟨w.heap.size,1,none⟩) (by simp) (.int .i64 m.mem.next))
 replace bQ:=(Box.other (Box.other bQ (p:=⟨w.heap.size,0,none⟩) (by have:=szbQ.out;show w.heap.size≠w2.heap.size;omega) (.slice xa FL.length xc)) (p:=⟨w.heap.size,1,none⟩) (by have:=szbQ.out;show w.heap.size≠w2.heap.size;omega) (.int .i64 m.mem.next))
 obtain ⟨w7s,hw7⟩ : ∃ z,(World.setCell (World.setCell w6s ⟨w.heap.size,0,none⟩ (.slice xa FL.length xc)) ⟨w.heap.size,1,none⟩ (.int .i64 m.mem.next))=z:=⟨_,rfl⟩
 rw [hw7] at hS7 bM bR bQ ⊢
 clear hw7
 have hF7:=ExtBut.ext hF6 hS7 (fun b h=>h.1)
 replace hXa:=Lib.hid (ExtBut.trans hXa.out hS7)
 replace hXc:=Lib.hid (ExtBut.trans hXc.out hS7)
 clear hS7
 have hCA:=Cloned.but hC.out hXc.out (fun b h1 h2=>by have:=hXcs.out;omega)
 have hMem : Fq (fun b=>w.heap.size+2≤b∧b < w3b.heap.size) w7s (fun w=>Als w (.slice xa FL.length xc) FL):=hx.out.to hXa.out (fun b h1 _ h2=>by have:=hXas.out;omega) (fun b h1 h2=>⟨by have:=hXas.out;omega,by have:=hXa_hXc.out;omega⟩)
 have hlow : ∀ g,(Value.slice ck m.stks.length ckc).ownBlock=some g→w3b.heap.size≤g:=fun g e=>(hCA.outer.lt e).1
 have hP:=monitor_forget1 (al:=FL) (sa := .slice xa FL.length xc) (S:=fun b=>(Value.slice ck m.stks.length ckc).ownBlock=some b) (B:=w2.heap.size) (bQ.cell 0) (fun h=>by have h1:=hlow _ h;have h2:=hPl.out;omega) (fun w hX=>(hMem.but hX (fun b h1 _ h2=>by have:=hlow b h2;omega)).read)
 have hD:=deleteFunc_stacks callFunc_forget1 hP hCA.outer hCA.len (fun s hs=>by
  obtain ⟨i,hi⟩:=List.mem_iff_getElem?.1 hs
  have hil:=(List.getElem?_eq_some_iff.1 hi).1
  rw [hCA.len] at hil
  obtain ⟨us,hO⟩:=(hCA.row i s _ hi (show m.stks[i]? = some m.stks[i] by simp)).2.1
  obtain ⟨a,n,e,-⟩:=hO.sl.slice_form
  exact ⟨a,_,n,e⟩) (Cloned.own hCA).read
 replace hD:=Lib.hid hD;replace hMem:=Lib.hid hMem;replace hCA:=Lib.hid hCA;replace hlow:=Lib.hid hlow
 clear hP
 obtain ⟨bM_0,bM_1,bM_2,bM_3,bM_4,bM_5,bM_l⟩:=bM.c6
 obtain ⟨bQ_0,bQ_1,bQ_l⟩:=bQ.c2
 go_wp2_with fail
 clear bM_0 bM_1 bM_2 bM_3 bM_4 bM_5 bM_l bQ_0 bQ_1 bQ_l
 refine hD.out.mono ?_
 rintro e w5 ⟨fa,fn,fc,rfl,hfn,hfo2,hfF,hX5⟩
 have hlw:=hlow.out
 have hFin:=Cloned.deleted hCA.out hfn hfF hX5
 have hMem2:=Fq.to (S':=fun b=>w.heap.size+2≤b) hMem.out hX5 (fun b h1 _ h2=>by have:=hlw b h2;omega) (fun b h1 _=>h1.1)
 have hRun2:=Fq.to (S':=fun b=>w.heap.size+2≤b) hCA.out.run hX5 (fun b h1 _ h2=>by have h3:=hCA.out.out0 b h2;have:=h1.2;omega) (fun b h1 _=>by have:=h1.1;have:=hXcs.out;omega)
 have hsz5:=hX5.size
 have bM5:=Box.but bM hX5 (fun h=>by have:=hlw _ h;have:=hXcs.out;omega)
 have bR5:=Box.but bR hX5 (fun h=>by have:=hlw _ h;have:=hXcs.out;omega)
 have hF5:=ExtBut.ext hF7 hX5 (fun b h=>by have:=hlw b h;have:=hXcs.out;omega)
 replace hFin:=Lib.hid hFin;replace hMem2:=Lib.hid hMem2;replace hRun2:=Lib.hid hRun2
 clear hfn hfo2 hfF hX5 hlw bM bR bQ
 have bM:=bM5;have bR:=bR5
 clear bM5 bR5
 have hXz:=Lib.hid (ExtBut.refl (fun b=>w.heap.size≤b∧b < w.heap.size+2) w5)
 have bM_0 : World.cell? w5 ⟨w.heap.size,0,none⟩=some (.slice xa FL.length xc):=bM.cell 0
 have bM_1 : World.cell? w5 ⟨w.heap.size,1,none⟩=some (.int .i64 m.mem.next):=bM.cell 1
 have bM_2 : World.cell? w5 ⟨w.heap.size,2,none⟩=some (.slice ck m.stks.length ckc):=bM.cell 2
 have bM_3 : World.cell? w5 ⟨w.heap.size,3,none⟩=some (.slice cr m.run.length crc):=bM.cell 3
 have bM_4 : World.cell? w5 ⟨w.heap.size,4,none⟩=some (.int .i64 m.tag):=bM.cell 4
 have bM_5 : World.cell? w5 ⟨w.heap.size,5,none⟩=some (.int .i64 m.call):=bM.cell 5
 have bM_f0 : World.frozen? w5 ⟨w.heap.size,0,none⟩=false:=bM.frozen 0
 have bM_f1 : World.frozen? w5 ⟨w.heap.size,1,none⟩=false:=bM.frozen 1
 have bM_f2 : World.frozen? w5 ⟨w.heap.size,2,none⟩=false:=bM.frozen 2
 have bM_f3 : World.frozen? w5 ⟨w.heap.size,3,none⟩=false:=bM.frozen 3
 have bM_f4 : World.frozen? w5 ⟨w.heap.size,4,none⟩=false:=bM.frozen 4
 have bM_f5 : World.frozen? w5 ⟨w.heap.size,5,none⟩=false:=bM.frozen 5
 have bM_l:=bM.lt
 go_upto_region 8 with fail
 clear bM_0 bM_1 bM_2 bM_3 bM_4 bM_5 bM_f0 bM_f1 bM_f2 bM_f3 bM_f4 bM_f5 bM_l
 have hS8 : ExtBut (fun b=>w.heap.size≤b∧b < w.heap.size+2) w5 (World.setCell w5 ⟨w.heap.size,2,none⟩ (.slice fa fn fc)):=((ExtBut.setCell w5 ⟨w.heap.size,2,none⟩ (.slice fa fn fc)).mono (S':=(fun b=>w.heap.size≤b∧b < w.heap.size+2)) (fun b _ h=>by have h' : b=w.heap.size:=h;omega))
 replace bM:=(Box.setL bM 2 (.slice fa fn fc))
 simp only [List.set_cons_zero,List.set_cons_succ] at bM
 replace bR:=(Box.other bR (p:=⟨w.heap.size,2,none⟩) (by simp) (.slice fa fn fc))
 obtain ⟨w8s,hw8⟩ : ∃ z,(World.setCell w5 ⟨w.heap.size,2,none⟩ (.slice fa fn fc))=z:=⟨_,rfl⟩
 rw [hw8] at hS8 bM bR ⊢
 clear hw8
 have hF8:=ExtBut.ext hF5 hS8 (fun b h=>h.1)
 replace hXz:=Lib.hid (ExtBut.trans hXz.out hS8)
 clear hS8
 obtain ⟨bM_0,bM_1,bM_2,bM_3,bM_4,bM_5,bM_l⟩:=bM.c6
 have bR_0 : World.cell? w8s ⟨w.heap.size+1,0,none⟩=some (.slice none 0 0):=bR.cell 0
 have bR_1 : World.cell? w8s ⟨w.heap.size+1,1,none⟩=some (.int .i64 0):=bR.cell 1
 have bR_2 : World.cell? w8s ⟨w.heap.size+1,2,none⟩=some (.slice none 0 0):=bR.cell 2
 have bR_3 : World.cell? w8s ⟨w.heap.size+1,3,none⟩=some (.slice none 0 0):=bR.cell 3
 have bR_4 : World.cell? w8s ⟨w.heap.size+1,4,none⟩=some (.int .i64 0):=bR.cell 4
 have bR_5 : World.cell? w8s ⟨w.heap.size+1,5,none⟩=some (.int .i64 0):=bR.cell 5
 have bR_f0 : World.frozen? w8s ⟨w.heap.size+1,0,none⟩=false:=bR.frozen 0
 have bR_f1 : World.frozen? w8s ⟨w.heap.size+1,1,none⟩=false:=bR.frozen 1
 have bR_f2 : World.frozen? w8s ⟨w.heap.size+1,2,none⟩=false:=bR.frozen 2
 have bR_f3 : World.frozen? w8s ⟨w.heap.size+1,3,none⟩=false:=bR.frozen 3
 have bR_f4 : World.frozen? w8s ⟨w.heap.size+1,4,none⟩=false:=bR.frozen 4
 have bR_f5 : World.frozen? w8s ⟨w.heap.size+1,5,none⟩=false:=bR.frozen 5
 have bR_l:=bR.lt
 go_wp2
 rw [hres.out]
 have hXe : ExtBut (fun b=>w.heap.size≤b∧b < w.heap.size+2) w8s (World.setCell (World.setCell (World.setCell (World.setCell (World.setCell (World.setCell w8s ⟨w.heap.size+1,0,none⟩ (.slice xa FL.length xc)) ⟨w.heap.size+1,1,none⟩ (.int .i64 m.mem.next)) ⟨w.heap.size+1,2,none⟩ (.slice fa fn fc)) ⟨w.heap.size+1,3,none⟩ (.slice cr m.run.length crc)) ⟨w.heap.size+1,4,none⟩ (.int .i64 m.tag)) ⟨w.heap.size+1,5,none⟩ (.int .i64 m.call)):=by (repeat' with_reducible first | exact ExtBut.refl _ _ | refine ExtBut.dr ?_ | refine ExtBut.sc ?_ ?_ | fail) <;> dsimp only <;> omega
 refine bodyPost_ret (v := .tuple #[.agg #[.slice xa FL.length xc,.int .i64 m.mem.next,.slice fa fn fc,.slice cr m.run.length crc,.int .i64 m.tag,.int .i64 m.call],.int .i64 0]) (by simp [results,Try.f17,go_sem,bR_0,bR_1,bR_2,bR_3,bR_4,bR_5]) rfl ?_
 have hFe:=ExtBut.ext hF8 hXe (fun b h=>h.1)
 have hXze:=ExtBut.trans hXz.out hXe
 have hFe2:=hFin.out
 rw [← hFLh.out] at hFe2
 have hq : (fun x : Stk => !(!((m.mem.al.filter (·.live)).any fun a=>a.num == x.num)))=fun x=>liveNum m.mem.al x.num:=by funext x;rw [Bool.not_not];rfl
 rw [hq,hkept.out] at hFe2
 refine ⟨_,rfl,FrMon.of_fs (m:=⟨⟨FL,m.mem.next⟩,keptK m.stks m.mem.al,m.run,m.tag,m.call⟩) (hMem2.out.to (S':=fun b=>w.heap.size≤b) hXze (fun b h1 _ h2=>by omega) (fun b h1 _=>by omega)) (hFe2.to (S':=fun b=>w.heap.size≤b) hXze (fun b h1 _ h2=>by have:=hXcs.out;omega) (fun b h1 _=>by have:=hXcs.out;omega)) (hRun2.out.to (S':=fun b=>w.heap.size≤b) hXze (fun b h1 _ h2=>by omega) (fun b h1 _=>by omega)),hFe⟩
end Go.Proofs.Ytnplphcnagooeaa

/- A region that draws its order, by what each operation leaves, under a relation of one's own between worlds (stores into fresh boxes too). -/
namespace Go.Proofs.Ytnplphcnagooeaa
set_option maxRecDepth 100000
open Go
section
variable {P : Program} {ops : Array Oper} {Q : Exit→Act→World→Prop} {md : Region.Mode} {R : World→World→Prop}
structure PrR (R : World→World→Prop) where
 p : Value→World→Prop
 m : ∀ v w w',p v w→R w w'→p v w'
def PrR.eq (R : World→World→Prop) (u : Value) : PrR R:=⟨fun v _=>v=u,fun _ _ _ h _=>h⟩
def PrR.any (R : World→World→Prop) : PrR R:=⟨fun _ _=>True,fun _ _ _ h _=>h⟩
def prR (L : List (PrR R)) (i : Nat) (v : Value) (w : World) : Prop:=match L[i]? with
 | some q=>q.p v w
 | none=>True
theorem prR_ext {L : List (PrR R)} {i : Nat} {v : Value} {w w' : World} (h : prR L i v w) (he : R w w') : prR L i v w':=by
 unfold prR at *
 cases hq : L[i]? with
 | none=>trivial
 | some q=>rw [hq] at h;exact q.m _ _ _ h he
def addrV (o : Oper) (a : Act) : Value:=match o.op with
 | .store _ (.tmp t) _=>a.eval (.tmp t)
 | _=>undef
def slotV (ops : Array Oper) (a : Act) (i : Nat) : Value:=match ops[i]? with
 | some o=>(match o.dst with
  | some d=>a.eval (.tmp d)
  | none=>addrV o a)
 | none=>undef
theorem fm_inj : ∀ (l : List Oper),(l.filterMap (·.dst)).Nodup → ∀ (i j : Nat) (o u : Oper) (d : Nat),l[i]? = some o→l[j]? = some u→o.dst=some d→u.dst=some d→i=j
 | [],_,i,j,o,u,d,hi,_,_,_=>by simp at hi
 | x :: l,hn,i,j,o,u,d,hi,hj,ho,hu=>by
  have htl : (l.filterMap (·.dst)).Nodup:=by
   cases hx : x.dst with
   | none=>rwa [List.filterMap_cons_none hx] at hn
   | some e=>rw [List.filterMap_cons_some hx] at hn;exact (List.nodup_cons.1 hn).2
  cases i with
  | zero =>
   cases j with
   | zero=>rfl
   | succ j =>
    exfalso
    simp at hi;subst hi
    rw [List.filterMap_cons_some ho] at hn
    exact (List.nodup_cons.1 hn).1 (List.mem_filterMap.2 ⟨u,List.mem_of_getElem? (by simpa using hj),hu⟩)
  | succ i =>
   cases j with
   | zero =>
    exfalso
    simp at hj;subst hj
    rw [List.filterMap_cons_some hu] at hn
    exact (List.nodup_cons.1 hn).1 (List.mem_filterMap.2 ⟨o,List.mem_of_getElem? (by simpa using hi),ho⟩)
   | succ j=>exact congrArg (· + 1) (fm_inj l htl i j o u d (by simpa using hi) (by simpa using hj) ho hu)
theorem putAll_fm (vals : Nat→Value) {t : Nat} : ∀ (l : List Oper) (k : Nat) (a : Act) (i : Nat) (o : Oper),(l.filterMap (·.dst)).Nodup→l[i]? = some o→o.dst=some t→t < a.tmps.size→(putAll vals l k a).tmps[t]? = some (vals (k+i))
 | [],_,_,_,_,_,h,_,_=>by simp at h
 | x :: l,k,a,0,o,hn,ho,hd,ht=>by
  simp at ho;subst ho
  rw [List.filterMap_cons_some hd] at hn
  rw [putAll,putAll_ne vals l _ _ (fun y hy e=>(List.nodup_cons.1 hn).1 (List.mem_filterMap.2 ⟨y,hy,e⟩)),hd,put_eq _ _ ht]
  rfl
 | x :: l,k,a,i+1,o,hn,ho,hd,ht=>by
  have htl : (l.filterMap (·.dst)).Nodup:=by
   cases hx : x.dst with
   | none=>rwa [List.filterMap_cons_none hx] at hn
   | some e=>rw [List.filterMap_cons_some hx] at hn;exact (List.nodup_cons.1 hn).2
  rw [putAll,putAll_fm vals l (k+1) _ i o htl (by simpa using ho) hd (by rw [put_size];exact ht),show k+1+i=k+(i+1) by omega]
def pv (o : Oper) (a : Act) (v : Value) : Value:=match o.dst with
 | some _=>v
 | none=>addrV o a
def RR (ops : Array Oper) (R : World→World→Prop) (L : List (PrR R)) (a0 : Act) (w0 : World) (listed : Array Bool) (a : Act) (w : World) : Prop :=
 listed.size=ops.size∧a.defers=a0.defers∧a.tmps.size=a0.tmps.size∧(∀ t,(∀ o ∈ ops.toList,o.dst≠some t)→a.tmps[t]? = a0.tmps[t]?)∧(∀ i,listed.getD i false=true→prR L i (slotV ops a i) w)∧R w0 w∧(∀ (i : Nat) (o : Oper),ops[i]? = some o→listed.getD i false=true → ∀ e ∈ o.after,Region.binds .any e=true→listed.getD e.on false=true)
def regOR (md : Region.Mode) (ops : Array Oper) (n : Nat) : Bool :=
 (ops.toList.all fun o=>match o.dst with | some d=>decide (d < n) | none=>true) && decide ((ops.toList.filterMap (·.dst)).Nodup)
 && ((List.range ops.size).all fun i=>((ops[i]?).map fun o=>o.after.all fun e => !Region.binds md e || decide (e.on < i)).getD true)
 && (ops.toList.all fun o=>match o.op with
  | .store _ (.tmp t) _=>(List.range ops.size).all fun k=>(((ops[k]?).map fun u=>u.dst != some t).getD true) || (o.after.any fun e=>Region.binds md e && e.on == k)
  | _=>true)
def StepR (P : Program) (md : Region.Mode) (ops : Array Oper) (Q : Exit→Act→World→Prop) (R : World→World→Prop) (L : List (PrR R)) (a0 : Act) (w0 : World) (i : Nat) (o : Oper) : Prop :=
 ∀ (a : Act) (w : World),R w0 w→(∀ j,(o.after.any fun e=>Region.binds md e && e.on == j)=true→prR L j (slotV ops a j) w) →
  (∀ t,ops.toList.all (fun o=>o.dst != some t)=true→a.eval (.tmp t)=a0.eval (.tmp t)) →
  (Region.wanted o (yielded ops a.tmps)=true ∧ ∀ K : Act→World→Prop,(∀ v w',prR L i (pv o a v) w'→R w w'→K (a.put o.dst v) w')→o.wp P a w K Q)∨(Region.wanted o (yielded ops a.tmps)=false∧prR L i (pv o a undef) w)
theorem wp_region_rel {id : Nat} {a0 : Act} {w0 : World} (hr : ∀ w,R w w) (ht : ∀ a b c,R a b→R b c→R a c) (L : List (PrR R)) (hm : P.follows .mixedOrders=true) (hok : regOR .any ops a0.tmps.size=true)
  (hs : AllSteps (StepR P .any ops Q R L a0 w0.drew) ops.toList 0)
  (he : ∀ (vals : Nat→Value) (A : Act) (w : World),A=putAll vals ops.toList 0 a0→R w0.drew w→(∀ i,i < ops.size→prR L i (vals i) w)→(∀ i,vals i=slotV ops A i)→Q .normal A w) :
  (Code.region id ops true).wp P Q a0 w0:=by
 unfold regOR at hok
 simp only [Bool.and_eq_true,decide_eq_true_eq] at hok
 obtain ⟨⟨⟨h1,h2⟩,h3⟩,h4⟩:=hok
 have hdst : ∀ (i : Nat) (o : Oper) (d : Nat),ops[i]? = some o→o.dst=some d→d < a0.tmps.size:=by
  intro i o d ho hd
  have hm' : o ∈ ops.toList:=by rw [Array.mem_toList_iff];exact Array.mem_of_getElem? ho
  have:=List.all_eq_true.1 h1 o hm'
  rw [hd] at this
  simpa using this
 have hafter : ∀ (i : Nat) (o : Oper),ops[i]? = some o → ∀ e ∈ o.after,Region.binds .any e=true→e.on < i:=by
  intro i o ho e hea hb
  have hi:=(Array.getElem?_eq_some_iff.1 ho).1
  have:=List.all_eq_true.1 h3 i (List.mem_range.2 hi)
  rw [ho] at this
  simp only [Option.map_some,Option.getD_some,Array.all_eq_true_iff_forall_mem] at this
  have:=this e hea
  simpa [hb] using this
 have hinj : ∀ (i j : Nat) (o u : Oper) (d : Nat),ops[i]? = some o→ops[j]? = some u→o.dst=some d→u.dst=some d→i=j:=fun i j o u d hi hj ho hu =>
  fm_inj ops.toList h2 i j o u d (by rw [Array.getElem?_toList];exact hi) (by rw [Array.getElem?_toList];exact hj) ho hu
 refine wp_region_any hm (wpAny_inv (I:=RR ops R L a0 w0.drew) ?_ ?_ _ _ _ _ (by unfold unl;refine Nat.le_trans (List.length_filter_le _ _) (by simp)) ?_)
 ·intro listed a w i ⟨r1,r2,r3,r4,r5,r6,r7⟩ hi
  obtain ⟨g1,o,ho,g2⟩:=mem_ready.1 hi
  have hst:=AllSteps.get (i:=i) hs (by rw [Array.getElem?_toList];exact ho)
  rw [Nat.zero_add] at hst
  have hput : ∀ v w',prR L i (pv o a v) w'→R w w'→RR ops R L a0 w0.drew (listed.setIfInBounds i true) (a.put o.dst v) w':=by
   intro v w' hv hE
   refine ⟨by simpa using r1,by rw [put_def];exact r2,by rw [put_size];exact r3,fun t ht => ?_,fun j hj => ?_,ht _ _ _ r6 hE,fun j u hu hj e he1 he2 => ?_⟩
   ·rw [put_ne _ _ (ht o (by rw [Array.mem_toList_iff];exact Array.mem_of_getElem? ho))]
    exact r4 t ht
   ·by_cases e : j=i
    ·subst e
     unfold slotV
     unfold pv at hv
     rw [ho]
     cases hd : o.dst with
     | none=>rw [hd] at hv;simp only [hd];exact hv
     | some d =>
      rw [hd] at hv
      simp only [hd]
      show prR L j ((a.put (some d) v).eval (.tmp d)) w'
      rw [eval_tmp,put_eq _ _ (by rw [r3];exact hdst j o d ho hd)]
      exact hv
    ·rw [getD_set_ne false (fun e'=>e e'.symm)] at hj
     have h5:=prR_ext (r5 j hj) hE
     have : slotV ops (a.put o.dst v) j=slotV ops a j:=by
      unfold slotV
      cases hu : ops[j]? with
      | none=>rfl
      | some u =>
       cases hd' : u.dst with
       | none =>
        simp only [hd']
        unfold addrV
        split
        ·rename_i t x hop
         have hne : o.dst≠some t:=by
          intro ho2
          have hmu : u ∈ ops.toList:=by rw [Array.mem_toList_iff];exact Array.mem_of_getElem? hu
          have h6:=List.all_eq_true.1 h4 u hmu
          rw [hop] at h6
          have h7:=List.all_eq_true.1 h6 i (List.mem_range.2 (Array.getElem?_eq_some_iff.1 ho).1)
          rw [ho] at h7
          simp only [Option.map_some,Option.getD_some,Bool.or_eq_true,bne_iff_ne,ne_eq,ho2,not_true_eq_false,false_or] at h7
          obtain ⟨e3,he3,he4⟩:=Array.any_eq_true'.1 h7
          simp only [Bool.and_eq_true,beq_iff_eq] at he4
          have h8:=r7 j u hu hj e3 he3 he4.1
          rw [he4.2] at h8
          have hsz : i < listed.size:=by rw [r1];exact (Array.getElem?_eq_some_iff.1 ho).1
          simp [hsz] at h8 g1
          rw [g1] at h8
          cases h8
         show (a.put o.dst v).eval (.tmp t)=a.eval (.tmp t)
         rw [eval_tmp,eval_tmp,put_ne _ _ hne]
        ·rfl
       | some d' =>
        simp only [hd']
        show (a.put o.dst v).eval (.tmp d')=a.eval (.tmp d')
        rw [eval_tmp,eval_tmp,put_ne _ _ (fun e'=>e (hinj j i u o d' hu ho hd' e'))]
     rw [this]
     exact h5
   ·have hsz : i < listed.size:=by rw [r1];exact (Array.getElem?_eq_some_iff.1 ho).1
    have key : listed.getD e.on false=true:=by
     by_cases e' : j=i
     ·subst e'
      rw [ho] at hu
      cases hu
      exact g2 e he1 he2
     ·rw [getD_set_ne false (fun h=>e' h.symm)] at hj
      exact r7 j u hu hj e he1 he2
    by_cases e2 : e.on=i
    ·rw [e2];simp [hsz]
    ·rw [getD_set_ne false (fun h=>e2 h.symm)]
     exact key
  have hdep:=hst a w r6 (fun j hj=>by
   obtain ⟨e,he1,he2⟩:=Array.any_eq_true'.1 hj
   simp only [Bool.and_eq_true,beq_iff_eq] at he2
   have:=g2 e he1 he2.1
   rw [he2.2] at this
   exact r5 j this) (fun t ht=>by
   have:=r4 t (fun o ho'=>by simpa using List.all_eq_true.1 ht o ho')
   rw [eval_tmp,eval_tmp,this])
  unfold wpOp
  simp only [ho]
  rcases hdep with ⟨hw,h⟩ | ⟨hw,h⟩
  ·rw [if_pos hw]
   exact .inl (h _ hput)
  ·rw [if_neg (by rw [hw];simp)]
   exact hput _ _ h (hr _)
 ·intro listed a w ⟨r1,r2,r3,r4,r5,r6,_r7⟩ hrd
  have hall : ∀ n i,i < n→i < ops.size→listed.getD i false=true:=by
   intro n
   induction n with
   | zero=>intro i h;omega
   | succ n ih =>
    intro i hi his
    cases hli : listed.getD i true
    ·exfalso
     obtain ⟨o,ho⟩ : ∃ o,ops[i]? = some o:=⟨ops[i],by simp [his]⟩
     have : i ∈ Region.ready .any ops listed:=mem_ready.2 ⟨hli,o,ho,fun e he1 he2=>by
      have:=hafter i o ho e he1 he2
      exact ih _ (by omega) (by omega)⟩
     rw [hrd] at this
     cases this
    ·have hsz : i < listed.size:=by rw [r1];exact his
     simpa [hsz] using hli
  have : putAll (fun i=>slotV ops a i) ops.toList 0 a0=a:=by
   have e1 : (putAll (fun i=>slotV ops a i) ops.toList 0 a0).tmps=a.tmps:=by
    apply Array.ext_getElem?
    intro t
    by_cases hx : ∃ o ∈ ops.toList,o.dst=some t
    ·obtain ⟨o,hom,hd⟩:=hx
     obtain ⟨i,hi⟩:=List.mem_iff_getElem?.1 hom
     have ho : ops[i]? = some o:=by rw [← Array.getElem?_toList];exact hi
     have hdn:=hdst i o t ho hd
     rw [putAll_fm _ ops.toList 0 a0 i o h2 hi hd hdn,Nat.zero_add]
     unfold slotV
     rw [ho]
     simp only [hd]
     show some (a.eval (.tmp t))=_
     rw [eval_tmp,Array.getElem?_eq_getElem (by rw [r3];exact hdn)]
     rfl
    ·have hx' : ∀ o ∈ ops.toList,o.dst≠some t:=fun o h1 h2=>hx ⟨o,h1,h2⟩
     rw [putAll_ne _ _ _ _ hx',r4 t hx']
   have e2:=putAll_def (fun i=>slotV ops a i) ops.toList 0 a0
   rw [← r2] at e2
   cases a
   cases hp : putAll (fun i=>_) ops.toList 0 a0
   simp_all
  exact he (fun i=>slotV ops a i) a w this.symm r6 (fun i hi=>r5 i (hall _ i (Nat.lt_succ_self i) hi)) (fun i=>rfl)
 ·refine ⟨by simp,rfl,rfl,fun _ _=>rfl,fun i hi => ?_,hr _,fun i o _ hi => ?_⟩ <;> (exfalso;by_cases h : i < ops.size <;> simp [h] at hi)
end
end Go.Proofs.Ytnplphcnagooeaa

/- Worlds that differ in new blocks and in the contents of fresh variables of one type. -/
namespace Go.Proofs.Ytnplphcnagooeaa
set_option maxRecDepth 100000
open Go.RowKit
def BoxT (T : TypeId) (n : Nat) (w : World) (b : Nat) : Prop := ∃ vs : Array Value,vs.size=n∧Box w b T vs
structure BxR (N : Nat) (T : TypeId) (n : Nat) (w w' : World) : Prop where
 os : w'.os=w.os
 tape : w'.tape=w.tape
 output : w'.output=w.output
 size : w.heap.size≤w'.heap.size
 block : ∀ b,b < w.heap.size→w'.heap[b]? = w.heap[b]? ∨ (N≤b∧BoxT T n w b∧BoxT T n w' b)
section
variable {N n : Nat} {T : TypeId} {w w' w'' : World}
theorem BxR.refl (w : World) : BxR N T n w w:=⟨rfl,rfl,rfl,Nat.le_refl _,fun _ _ => .inl rfl⟩
theorem BoxT.lt {b : Nat} (h : BoxT T n w b) : b < w.heap.size:=by
 obtain ⟨vs,-,h⟩:=h
 exact h.lt
theorem BxR.boxT {b : Nat} (h : BxR N T n w w') (hb : BoxT T n w b) : BoxT T n w' b:=by
 rcases h.block b hb.lt with h1 | ⟨-,-,h1⟩
 ·obtain ⟨vs,h2,h3⟩:=hb
  exact ⟨vs,h2,h1.trans h3⟩
 ·exact h1
theorem BxR.trans (h : BxR N T n w w') (k : BxR N T n w' w'') : BxR N T n w w'':=by
 refine ⟨k.os.trans h.os,k.tape.trans h.tape,k.output.trans h.output,Nat.le_trans h.size k.size,fun b hb => ?_⟩
 rcases k.block b (Nat.lt_of_lt_of_le hb h.size) with k1 | ⟨k1,k2,k3⟩
 ·rcases h.block b hb with h1 | ⟨h1,h2,h3⟩
  ·exact .inl (k1.trans h1)
  ·refine .inr ⟨h1,h2,?_⟩
   obtain ⟨vs,e1,e2⟩:=h3
   exact ⟨vs,e1,k1.trans e2⟩
 ·rcases h.block b hb with h1 | ⟨h1,h2,h3⟩
  ·refine .inr ⟨k1,?_,k3⟩
   obtain ⟨vs,e1,e2⟩:=k2
   exact ⟨vs,e1,h1.symm.trans e2⟩
  ·exact .inr ⟨h1,h2,k3⟩
theorem BxR.of_ext (h : Ext w w') : BxR N T n w w':=⟨h.os,h.tape,h.output,h.size,fun _ hb => .inl (h.blk hb)⟩
theorem BxR.to_ext (h : BxR N T n w w') (hN : w.heap.size≤N) : Ext w w':=⟨h.os,h.tape,h.output,h.size,fun b hb=>by rcases h.block b hb with h1 | ⟨h1,-,-⟩;exact h1;omega⟩
theorem BxR.set {b : Nat} (hb : BoxT T n w b) (hN : N≤b) (j : Nat) (u : Value) : BxR N T n w (w.setCell ⟨b,j,none⟩ u):=by
 have hE:=ExtBut.setCell w ⟨b,j,none⟩ u
 refine ⟨hE.os,hE.tape,hE.output,hE.size,fun c hc => ?_⟩
 by_cases e : c=b
 ·subst e
  obtain ⟨vs,h1,h2⟩:=hb
  exact .inr ⟨hN,⟨vs,h1,h2⟩,⟨_,by simpa using h1,h2.set j u⟩⟩
 ·exact .inl (hE.block c hc e)
theorem Sl.bxr {k m : Nat} {v : Value} {xs : List Value} (h : Sl w k v m xs) (hx : n < xs.length) (hR : BxR N T n w w') : Sl w' k v m xs:=by
 obtain ⟨h1,a,cap,h2,h3,h4,h5,h6⟩:=h
 obtain ⟨b,off,rfl,hc0⟩:=h6 n _ (List.getElem?_eq_getElem hx)
 have hb:=World.block_lt_of_cell? _ _ hc0
 have hsame : w'.heap[b]? = w.heap[b]? := by
  rcases hR.block b hb with h7 | ⟨-,⟨vs,e1,e2⟩,-⟩
  ·exact h7
  ·exfalso
   rw [e2.cell,Array.getElem?_eq_none (by omega)] at hc0
   cases hc0
 refine ⟨h1,_,cap,h2,h3,h4,h5,fun j u hj => ?_⟩
 obtain ⟨b',off',e,hc⟩:=h6 j u hj
 cases e
 exact ⟨b,off,rfl,by rw [← hc];exact World.cell?_of_block hsame⟩
end
structure BxX (N : Nat) (T : TypeId) (n : Nat) (X : World→Array Value→Prop) (w w' : World) : Prop where
 os : w'.os=w.os
 tape : w'.tape=w.tape
 output : w'.output=w.output
 size : w.heap.size≤w'.heap.size
 block : ∀ b,b < w.heap.size→w'.heap[b]? = w.heap[b]? ∨ (N≤b∧BoxT T n w b ∧ ∃ vs,vs.size=n∧Box w' b T vs∧X w' vs)
section
variable {N n : Nat} {T : TypeId} {X : World→Array Value→Prop} {w w' w'' : World}
theorem BxX.refl (w : World) : BxX N T n X w w:=⟨rfl,rfl,rfl,Nat.le_refl _,fun _ _ => .inl rfl⟩
theorem BxX.rel (h : BxX N T n X w w') : BxR N T n w w':=⟨h.os,h.tape,h.output,h.size,fun b hb=>(h.block b hb).imp id fun ⟨h1,h2,vs,h3,h4,_⟩=>⟨h1,h2,vs,h3,h4⟩⟩
theorem BxX.trans (hX : ∀ w w' vs,X w vs→BxR N T n w w'→X w' vs) (h : BxX N T n X w w') (k : BxX N T n X w' w'') : BxX N T n X w w'':=by
 refine ⟨k.os.trans h.os,k.tape.trans h.tape,k.output.trans h.output,Nat.le_trans h.size k.size,fun b hb => ?_⟩
 rcases k.block b (Nat.lt_of_lt_of_le hb h.size) with k1 | ⟨k1,k2,k3⟩
 ·rcases h.block b hb with h1 | ⟨h1,h2,vs,h3,h4,h5⟩
  ·exact .inl (k1.trans h1)
  ·exact .inr ⟨h1,h2,vs,h3,k1.trans h4,hX _ _ _ h5 k.rel⟩
 ·rcases h.block b hb with h1 | ⟨h1,h2,-⟩
  ·refine .inr ⟨k1,?_,k3⟩
   obtain ⟨vs,e1,e2⟩:=k2
   exact ⟨vs,e1,h1.symm.trans e2⟩
  ·exact .inr ⟨h1,h2,k3⟩
theorem BxX.of_ext (h : Ext w w') : BxX N T n X w w':=⟨h.os,h.tape,h.output,h.size,fun _ hb => .inl (h.blk hb)⟩
theorem BxX.to_ext (h : BxX N T n X w w') (hN : w.heap.size≤N) : Ext w w':=h.rel.to_ext hN
theorem BxX.but {b : Nat} (hE : ExtBut (· = b) w w') (hb : BoxT T n w b) (hN : N≤b) {vs : Array Value} (hs : vs.size=n) (hB : Box w' b T vs) (hX : X w' vs) : BxX N T n X w w' :=
 ⟨hE.os,hE.tape,hE.output,hE.size,fun c hc=>by
  by_cases e : c=b
  ·subst e;exact .inr ⟨hN,hb,vs,hs,hB,hX⟩
  ·exact .inl (hE.block c hc e)⟩
def PrR.up {N n : Nat} {T : TypeId} {X : World→Array Value→Prop} (q : PrR (BxR N T n)) : PrR (BxX N T n X):=⟨q.p,fun v w w' h hR=>q.m v w w' h hR.rel⟩
end
def PrRB (N : Nat) (T : TypeId) (n : Nat) : PrR (BxR N T n):=⟨fun v w => ∃ b,v = .pointer (some ⟨b,0,none⟩)∧N≤b∧BoxT T n w b,fun _ _ _ ⟨b,h1,h2,h3⟩ hR=>⟨b,h1,h2,hR.boxT h3⟩⟩
end Go.Proofs.Ytnplphcnagooeaa

/- Worlds that differ in new blocks and in the contents of fresh variables of some types; what such a variable holds afterwards, by its type. -/
namespace Go.Proofs.Ytnplphcnagooeaa
set_option maxRecDepth 100000
open Go.RowKit
structure BxS (N : Nat) (L : List (TypeId × Nat)) (X : TypeId→Array Value→Prop) (w w' : World) : Prop where
 os : w'.os=w.os
 tape : w'.tape=w.tape
 output : w'.output=w.output
 size : w.heap.size≤w'.heap.size
 block : ∀ b,b < w.heap.size→w'.heap[b]? = w.heap[b]? ∨ (N≤b ∧ ∃ T n,(T,n) ∈ L∧BoxT T n w b ∧ ∃ vs,vs.size=n∧Box w' b T vs∧X T vs)
section
variable {N : Nat} {L : List (TypeId × Nat)} {X : TypeId→Array Value→Prop} {w w' w'' : World}
theorem BxS.refl (w : World) : BxS N L X w w:=⟨rfl,rfl,rfl,Nat.le_refl _,fun _ _ => .inl rfl⟩
theorem BxS.trans (h : BxS N L X w w') (k : BxS N L X w' w'') : BxS N L X w w'':=by
 refine ⟨k.os.trans h.os,k.tape.trans h.tape,k.output.trans h.output,Nat.le_trans h.size k.size,fun b hb => ?_⟩
 rcases k.block b (Nat.lt_of_lt_of_le hb h.size) with k1 | ⟨k1,T,n,hm,k2,k3⟩
 ·rcases h.block b hb with h1 | ⟨h1,T,n,hm,h2,vs,h3,h4,h5⟩
  ·exact .inl (k1.trans h1)
  ·exact .inr ⟨h1,T,n,hm,h2,vs,h3,k1.trans h4,h5⟩
 ·rcases h.block b hb with h1 | ⟨h1,T',n',hm',h2,vs',h3,h4,-⟩
  ·refine .inr ⟨k1,T,n,hm,?_,k3⟩
   obtain ⟨vs,e1,e2⟩:=k2
   exact ⟨vs,e1,h1.symm.trans e2⟩
  ·obtain ⟨vs2,e1,e2⟩:=k2
   have e3:=e2.symm.trans h4
   simp only [Option.some.injEq,Obj.cells.injEq,and_true] at e3
   obtain ⟨rfl,rfl⟩:=e3
   obtain ⟨us,e4,e5⟩:=h2
   exact .inr ⟨h1,T,n,hm,⟨us,by omega,e5⟩,k3⟩
theorem BxS.of_ext (h : Ext w w') : BxS N L X w w':=⟨h.os,h.tape,h.output,h.size,fun _ hb => .inl (h.blk hb)⟩
theorem BxS.to_ext (h : BxS N L X w w') (hN : w.heap.size≤N) : Ext w w':=⟨h.os,h.tape,h.output,h.size,fun b hb=>by rcases h.block b hb with h1 | ⟨h1,-⟩;exact h1;omega⟩
theorem BxS.but {T : TypeId} {n b : Nat} (hE : ExtBut (· = b) w w') (hm : (T,n) ∈ L) (hb : BoxT T n w b) (hN : N≤b) {vs : Array Value} (hs : vs.size=n) (hB : Box w' b T vs) (hX : X T vs) : BxS N L X w w' :=
 ⟨hE.os,hE.tape,hE.output,hE.size,fun c hc=>by
  by_cases e : c=b
  ·subst e;exact .inr ⟨hN,T,n,hm,hb,vs,hs,hB,hX⟩
  ·exact .inl (hE.block c hc e)⟩
def PrSB (N : Nat) (L : List (TypeId × Nat)) (X : TypeId→Array Value→Prop) (T : TypeId) (n : Nat) : PrR (BxS N L X):=⟨fun v w => ∃ b,v = .pointer (some ⟨b,0,none⟩)∧N≤b∧BoxT T n w b,fun _ _ _ ⟨b,h1,h2,h3⟩ hR=>⟨b,h1,h2,by
 rcases hR.block b h3.lt with h4 | ⟨-,T',n',-,h5,vs,h6,h7,-⟩
 ·obtain ⟨vs,e1,e2⟩:=h3
  exact ⟨vs,e1,h4.trans e2⟩
 ·obtain ⟨us,e1,e2⟩:=h3
  obtain ⟨us',e3,e4⟩:=h5
  have e5:=e2.symm.trans e4
  simp only [Option.some.injEq,Obj.cells.injEq,and_true] at e5
  obtain ⟨rfl,rfl⟩:=e5
  exact ⟨vs,by omega,h7⟩⟩⟩
def PrSH (N : Nat) (L : List (TypeId × Nat)) (X : TypeId→Array Value→Prop) (T : TypeId) (vs : Array Value) (hX : ∀ us,X T us→us=vs) : PrR (BxS N L X):=⟨fun v w => ∃ b,v = .pointer (some ⟨b,0,none⟩)∧N≤b∧Box w b T vs,fun _ _ _ ⟨b,h1,h2,h3⟩ hR=>⟨b,h1,h2,by
 rcases hR.block b h3.lt with h4 | ⟨-,T',n',-,h5,us,h6,h7,h8⟩
 ·exact h4.trans h3
 ·obtain ⟨us',e3,e4⟩:=h5
  have e5:=h3.symm.trans e4
  simp only [Option.some.injEq,Obj.cells.injEq,and_true] at e5
  obtain ⟨rfl,rfl⟩:=e5
  rw [← hX us h8]
  exact h7⟩⟩
end
end Go.Proofs.Ytnplphcnagooeaa
