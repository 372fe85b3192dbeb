/- MonitorLives: Check, Alloc, Enter, Leave, End and Forget of layer 35 return what the reference returns, and leave the monitor as it is. No condition. (printed by gen/law35a.py) -/
import Derived.Test.YtnplphcnagooeaaQ10
import Derived.Test.YtnplphcnagooeaaQ12
import Derived.Test.YtnplphcnagooeaaQ14
import Derived.Test.YtnplphcnagooeaaQ17
import Derived.Test.YtnplphcnagooeaaQ18
import Derived.Test.YtnplphcnagooeaaQ19
import Derived.Test.YtnplphcnagooeaaQ20
namespace Go.Proofs.Ytnplphcnagooeaa
set_option maxRecDepth 100000
open Go.ChangeShapes Go.WideShapes Go.ChangeAt Go.RowKit
set_option maxRecDepth 100000 in
set_option maxHeartbeats 12800000 in
theorem monitorLives_walk {m : Mon} {vm : Value} {wS : World} (size number : Int) (hm : RdMon wS vm m) (hn : i64B m.mem.next) :
  Calls Try.prog 3 #[vm,.int .i64 size,.int .i64 number] wS fun e w'=>e = .returned (.bool true)∧Ext wS w':=by
 obtain ⟨sa,ss,sr,rfl,hA,hK,hR⟩:=hm
 obtain ⟨aa,ac,rfl,hac,hacm,-⟩:=hA.form
 obtain ⟨ka,kc,rfl,hkc,hkcm,-⟩:=hK.form
 obtain ⟨ra,rc,rfl,hrc,hrcm,-⟩:=hR.form
 unfold maxLen at hacm hkcm hrcm
 have hE0 : Ext wS (World.alloc wS (.cells #[.slice aa m.mem.al.length ac,.int .i64 m.mem.next,.slice ka m.stks.length kc,.slice ra m.run.length rc,.int .i64 m.tag,.int .i64 m.call] 28)):=by repeat (first | exact Ext.refl _ | refine Ext.alloc ?_ _)
 have bM : Box (World.alloc wS (.cells #[.slice aa m.mem.al.length ac,.int .i64 m.mem.next,.slice ka m.stks.length kc,.slice ra m.run.length rc,.int .i64 m.tag,.int .i64 m.call] 28)) (wS.heap.size) 28 #[.slice aa m.mem.al.length ac,.int .i64 m.mem.next,.slice ka m.stks.length kc,.slice ra m.run.length rc,.int .i64 m.tag,.int .i64 m.call]:=(by
  have h:=Box.new wS 28 #[.slice aa m.mem.al.length ac,.int .i64 m.mem.next,.slice ka m.stks.length kc,.slice ra m.run.length rc,.int .i64 m.tag,.int .i64 m.call]
  exact h)
 obtain ⟨w0,hw0⟩ : ∃ z,(World.alloc wS (.cells #[.slice aa m.mem.al.length ac,.int .i64 m.mem.next,.slice ka m.stks.length kc,.slice ra m.run.length rc,.int .i64 m.tag,.int .i64 m.call] 28))=z:=⟨_,rfl⟩
 rw [hw0] at hE0 bM
 replace hA:=Lib.hid hA;replace hK:=Lib.hid hK;replace hR:=Lib.hid hR;replace hn:=Lib.hid hn
 go_enter Try.func3,Try.ntmps3
 obtain ⟨bM_0,bM_1,bM_2,bM_3,bM_4,bM_5,bM_l⟩:=bM.c6
 go_wp2_with fail
 try rw [hw0]
 clear hw0
 clear bM_0 bM_1 bM_2 bM_3 bM_4 bM_5 bM_l
 refine (ref35_Great (hA.out.ext hE0) (hK.out.ext hE0) (hR.out.ext hE0)).mono ?_
 rintro e w1 ⟨bg,rfl,hng,hE1⟩
 replace bM:=bM.ext hE1
 have hF1:=Ext.trans hE0 hE1
 cases bg
 rotate_left
 ·skip
  obtain ⟨bM_0,bM_1,bM_2,bM_3,bM_4,bM_5,bM_l⟩:=bM.c6
  go_wp2
  go_ret
  exact ⟨rfl,hF1⟩
 have hcl:=Lib.hid (notGreat.small (hng rfl))
 clear hng
 obtain ⟨bM_0,bM_1,bM_2,bM_3,bM_4,bM_5,bM_l⟩:=bM.c6
 go_wp2_with fail
 clear bM_0 bM_1 bM_2 bM_3 bM_4 bM_5 bM_l
 refine ((ref35_TwinG (hA.out.ext hF1) (hK.out.ext hF1) (hR.out.ext hF1) hcl.out.1 hcl.out.2.1 hcl.out.2.2).mono fun _ _ h=>RetTw.mon h).mono ?_
 rintro e w2 ⟨vt,rfl,fM,hE2⟩
 replace bM:=bM.ext hE2
 have hF2:=Ext.trans hF1 hE2
 obtain ⟨hsa,hss,hsr,rfl,qh⟩:=FrMon.parts fM
 clear fM
 obtain ⟨v_ha,v_hac,rfl,-⟩:=(qh.read).1.form
 obtain ⟨v_hk,v_hkc,rfl,-⟩:=(qh.read).2.1.form
 obtain ⟨v_hr,v_hrc,rfl,-⟩:=(qh.read).2.2.form
 try dsimp only at qh ⊢
 have Gh:=Lib.hid (Fq.mono (S':=(fun b=>True)) qh (fun b h1 _=>by exact trivial))
 clear qh
 obtain ⟨⟨ma,pa,ea⟩,hal⟩ : ∃ z,allocM m size=z:=⟨_,rfl⟩
 obtain ⟨pa1,pa2,pa3⟩:=pa
 replace hal:=Lib.hid hal
 obtain ⟨bM_0,bM_1,bM_2,bM_3,bM_4,bM_5,bM_l⟩:=bM.c6
 go_wp2_with fail
 clear bM_0 bM_1 bM_2 bM_3 bM_4 bM_5 bM_l
 have bH:=Box.new w2 28 #[.slice v_ha m.mem.al.length v_hac,.int .i64 m.mem.next,.slice v_hk m.stks.length v_hkc,.slice v_hr m.run.length v_hrc,.int .i64 m.tag,.int .i64 m.call]
 have hza : (World.alloc w2 (.cells #[.slice v_ha m.mem.al.length v_hac,.int .i64 m.mem.next,.slice v_hk m.stks.length v_hkc,.slice v_hr m.run.length v_hrc,.int .i64 m.tag,.int .i64 m.call] 28)).heap.size=w2.heap.size+1:=by rw [World.size_alloc]
 have hx3 : Ext w2 (World.alloc w2 (.cells #[.slice v_ha m.mem.al.length v_hac,.int .i64 m.mem.next,.slice v_hk m.stks.length v_hkc,.slice v_hr m.run.length v_hrc,.int .i64 m.tag,.int .i64 m.call] 28)):=(Ext.refl _).alloc _
 obtain ⟨w3b,hw3⟩ : ∃ z,World.alloc w2 (.cells #[.slice v_ha m.mem.al.length v_hac,.int .i64 m.mem.next,.slice v_hk m.stks.length v_hkc,.slice v_hr m.run.length v_hrc,.int .i64 m.tag,.int .i64 m.call] 28)=z:=⟨_,rfl⟩
 rw [hw3] at bH hx3 hza ⊢
 clear hw3
 have hzb0:=hza
 clear hza
 replace bM:=bM.ext hx3
 replace Gh:=Lib.hid (Fq.ext Gh.out hx3)
 have hF4:=Ext.trans hF2 hx3
 clear hzb0
 refine (monitor_Alloc size (hA.out.ext hF4) hn.out (hK.out.ext hF4) (hR.out.ext hF4)).mono ?_
 rintro e w5 ⟨vt,rfl,fM,hE5⟩
 replace bM:=bM.ext hE5
 replace bH:=bH.ext hE5
 replace Gh:=Lib.hid (Fq.ext Gh.out hE5)
 have hF5:=Ext.trans hF4 hE5
 rw [hal.out] at fM ⊢
 try dsimp only [Ptr.val] at fM ⊢
 obtain ⟨asa,ass,asr,rfl,qa⟩:=FrMon.parts fM
 clear fM
 obtain ⟨v_aa,v_aac,rfl,-⟩:=(qa.read).1.form
 obtain ⟨v_ak,v_akc,rfl,-⟩:=(qa.read).2.1.form
 obtain ⟨v_ar,v_arc,rfl,-⟩:=(qa.read).2.2.form
 try dsimp only at qa ⊢
 have Ga:=Lib.hid (Fq.mono (S':=(fun b=>True)) qa (fun b h1 _=>by exact trivial))
 clear qa
 obtain ⟨bH_0,bH_1,bH_2,bH_3,bH_4,bH_5,bH_l⟩:=bH.c6
 go_wp2_with fail
 clear bH_0 bH_1 bH_2 bH_3 bH_4 bH_5 bH_l
 have bA:=Box.new w5 28 #[.slice v_aa ma.mem.al.length v_aac,.int .i64 ma.mem.next,.slice v_ak ma.stks.length v_akc,.slice v_ar ma.run.length v_arc,.int .i64 ma.tag,.int .i64 ma.call]
 have hza : (World.alloc w5 (.cells #[.slice v_aa ma.mem.al.length v_aac,.int .i64 ma.mem.next,.slice v_ak ma.stks.length v_akc,.slice v_ar ma.run.length v_arc,.int .i64 ma.tag,.int .i64 ma.call] 28)).heap.size=w5.heap.size+1:=by rw [World.size_alloc]
 have hx6 : Ext w5 (World.alloc w5 (.cells #[.slice v_aa ma.mem.al.length v_aac,.int .i64 ma.mem.next,.slice v_ak ma.stks.length v_akc,.slice v_ar ma.run.length v_arc,.int .i64 ma.tag,.int .i64 ma.call] 28)):=(Ext.refl _).alloc _
 obtain ⟨w6b,hw6⟩ : ∃ z,World.alloc w5 (.cells #[.slice v_aa ma.mem.al.length v_aac,.int .i64 ma.mem.next,.slice v_ak ma.stks.length v_akc,.slice v_ar ma.run.length v_arc,.int .i64 ma.tag,.int .i64 ma.call] 28)=z:=⟨_,rfl⟩
 rw [hw6] at bA hx6 hza ⊢
 clear hw6
 have hzb0:=hza
 clear hza
 replace bM:=bM.ext hx6
 replace bH:=bH.ext hx6
 replace Gh:=Lib.hid (Fq.ext Gh.out hx6)
 replace Ga:=Lib.hid (Fq.ext Ga.out hx6)
 have hF7:=Ext.trans hF5 hx6
 have bP:=Box.new w6b 32 #[.int .i64 pa1,.int .i64 pa2,.int .i64 pa3]
 rw [hzb0] at bP
 have hza : (World.alloc w6b (.cells #[.int .i64 pa1,.int .i64 pa2,.int .i64 pa3] 32)).heap.size=w5.heap.size+2:=by rw [World.size_alloc,hzb0]
 have hx8 : Ext w6b (World.alloc w6b (.cells #[.int .i64 pa1,.int .i64 pa2,.int .i64 pa3] 32)):=(Ext.refl _).alloc _
 obtain ⟨w8b,hw8⟩ : ∃ z,World.alloc w6b (.cells #[.int .i64 pa1,.int .i64 pa2,.int .i64 pa3] 32)=z:=⟨_,rfl⟩
 rw [hw8] at bP hx8 hza ⊢
 clear hw8
 clear hzb0
 have hzb1:=hza
 clear hza
 replace bM:=bM.ext hx8
 replace bH:=bH.ext hx8
 replace bA:=bA.ext hx8
 replace Gh:=Lib.hid (Fq.ext Gh.out hx8)
 replace Ga:=Lib.hid (Fq.ext Ga.out hx8)
 have hF9:=Ext.trans hF7 hx8
 clear hzb1
 refine (ref35_Alloc size Gh.out.read.1 hn.out Gh.out.read.2.1 Gh.out.read.2.2).mono ?_
 rintro e w10 ⟨vt,rfl,fM,hE10⟩
 replace bM:=bM.ext hE10
 replace bH:=bH.ext hE10
 replace bA:=bA.ext hE10
 replace bP:=bP.ext hE10
 replace Gh:=Lib.hid (Fq.ext Gh.out hE10)
 replace Ga:=Lib.hid (Fq.ext Ga.out hE10)
 have hF10:=Ext.trans hF9 hE10
 rw [hal.out] at fM ⊢
 try dsimp only [Ptr.val] at fM ⊢
 obtain ⟨bsa,bss,bsr,rfl,qb⟩:=FrMon.parts fM
 clear fM
 obtain ⟨v_ba,v_bac,rfl,-⟩:=(qb.read).1.form
 obtain ⟨v_bk,v_bkc,rfl,-⟩:=(qb.read).2.1.form
 obtain ⟨v_br,v_brc,rfl,-⟩:=(qb.read).2.2.form
 try dsimp only at qb ⊢
 have Gb:=Lib.hid (Fq.mono (S':=(fun b=>True)) qb (fun b h1 _=>by exact trivial))
 clear qb
 go_upto_region 6 with fail
 have bB:=Box.new w10 28 #[.slice v_ba ma.mem.al.length v_bac,.int .i64 ma.mem.next,.slice v_bk ma.stks.length v_bkc,.slice v_br ma.run.length v_brc,.int .i64 ma.tag,.int .i64 ma.call]
 have hza : (World.alloc w10 (.cells #[.slice v_ba ma.mem.al.length v_bac,.int .i64 ma.mem.next,.slice v_bk ma.stks.length v_bkc,.slice v_br ma.run.length v_brc,.int .i64 ma.tag,.int .i64 ma.call] 28)).heap.size=w10.heap.size+1:=by rw [World.size_alloc]
 have hx11 : Ext w10 (World.alloc w10 (.cells #[.slice v_ba ma.mem.al.length v_bac,.int .i64 ma.mem.next,.slice v_bk ma.stks.length v_bkc,.slice v_br ma.run.length v_brc,.int .i64 ma.tag,.int .i64 ma.call] 28)):=(Ext.refl _).alloc _
 obtain ⟨w11b,hw11⟩ : ∃ z,World.alloc w10 (.cells #[.slice v_ba ma.mem.al.length v_bac,.int .i64 ma.mem.next,.slice v_bk ma.stks.length v_bkc,.slice v_br ma.run.length v_brc,.int .i64 ma.tag,.int .i64 ma.call] 28)=z:=⟨_,rfl⟩
 rw [hw11] at bB hx11 hza ⊢
 clear hw11
 have hzb0:=hza
 clear hza
 replace bM:=bM.ext hx11
 replace bH:=bH.ext hx11
 replace bA:=bA.ext hx11
 replace bP:=bP.ext hx11
 replace Gh:=Lib.hid (Fq.ext Gh.out hx11)
 replace Ga:=Lib.hid (Fq.ext Ga.out hx11)
 replace Gb:=Lib.hid (Fq.ext Gb.out hx11)
 have hF12:=Ext.trans hF10 hx11
 have bP2:=Box.new w11b 32 #[.int .i64 pa1,.int .i64 pa2,.int .i64 pa3]
 rw [hzb0] at bP2
 have hza : (World.alloc w11b (.cells #[.int .i64 pa1,.int .i64 pa2,.int .i64 pa3] 32)).heap.size=w10.heap.size+2:=by rw [World.size_alloc,hzb0]
 have hx13 : Ext w11b (World.alloc w11b (.cells #[.int .i64 pa1,.int .i64 pa2,.int .i64 pa3] 32)):=(Ext.refl _).alloc _
 obtain ⟨w13b,hw13⟩ : ∃ z,World.alloc w11b (.cells #[.int .i64 pa1,.int .i64 pa2,.int .i64 pa3] 32)=z:=⟨_,rfl⟩
 rw [hw13] at bP2 hx13 hza ⊢
 clear hw13
 clear hzb0
 have hzb1:=hza
 clear hza
 replace bM:=bM.ext hx13
 replace bH:=bH.ext hx13
 replace bA:=bA.ext hx13
 replace bP:=bP.ext hx13
 replace bB:=bB.ext hx13
 replace Gh:=Lib.hid (Fq.ext Gh.out hx13)
 replace Ga:=Lib.hid (Fq.ext Ga.out hx13)
 replace Gb:=Lib.hid (Fq.ext Gb.out hx13)
 have hF14:=Ext.trans hF12 hx13
 clear hzb1
 have hA6:=Lib.hid (hA.out.ext hF14);have hK6:=Lib.hid (hK.out.ext hF14);have hR6:=Lib.hid (hR.out.ext hF14)
 have rA:=Lib.hid (rd_parts Ga.out.read);have rB:=Lib.hid (rd_parts Gb.out.read);have hh:=Lib.hid Gh.out.read
 have cbM_0 : World.cell? w13b ⟨wS.heap.size,0,none⟩=some (.slice aa m.mem.al.length ac):=bM.cell 0
 have cbM_1 : World.cell? w13b ⟨wS.heap.size,1,none⟩=some (.int .i64 m.mem.next):=bM.cell 1
 have cbM_2 : World.cell? w13b ⟨wS.heap.size,2,none⟩=some (.slice ka m.stks.length kc):=bM.cell 2
 have cbM_3 : World.cell? w13b ⟨wS.heap.size,3,none⟩=some (.slice ra m.run.length rc):=bM.cell 3
 have cbM_4 : World.cell? w13b ⟨wS.heap.size,4,none⟩=some (.int .i64 m.tag):=bM.cell 4
 have cbM_5 : World.cell? w13b ⟨wS.heap.size,5,none⟩=some (.int .i64 m.call):=bM.cell 5
 have cbH_0 : World.cell? w13b ⟨w2.heap.size,0,none⟩=some (.slice v_ha m.mem.al.length v_hac):=bH.cell 0
 have cbH_1 : World.cell? w13b ⟨w2.heap.size,1,none⟩=some (.int .i64 m.mem.next):=bH.cell 1
 have cbH_2 : World.cell? w13b ⟨w2.heap.size,2,none⟩=some (.slice v_hk m.stks.length v_hkc):=bH.cell 2
 have cbH_3 : World.cell? w13b ⟨w2.heap.size,3,none⟩=some (.slice v_hr m.run.length v_hrc):=bH.cell 3
 have cbH_4 : World.cell? w13b ⟨w2.heap.size,4,none⟩=some (.int .i64 m.tag):=bH.cell 4
 have cbH_5 : World.cell? w13b ⟨w2.heap.size,5,none⟩=some (.int .i64 m.call):=bH.cell 5
 have cbA_0 : World.cell? w13b ⟨w5.heap.size,0,none⟩=some (.slice v_aa ma.mem.al.length v_aac):=bA.cell 0
 have cbA_1 : World.cell? w13b ⟨w5.heap.size,1,none⟩=some (.int .i64 ma.mem.next):=bA.cell 1
 have cbA_2 : World.cell? w13b ⟨w5.heap.size,2,none⟩=some (.slice v_ak ma.stks.length v_akc):=bA.cell 2
 have cbA_3 : World.cell? w13b ⟨w5.heap.size,3,none⟩=some (.slice v_ar ma.run.length v_arc):=bA.cell 3
 have cbA_4 : World.cell? w13b ⟨w5.heap.size,4,none⟩=some (.int .i64 ma.tag):=bA.cell 4
 have cbA_5 : World.cell? w13b ⟨w5.heap.size,5,none⟩=some (.int .i64 ma.call):=bA.cell 5
 have cbB_0 : World.cell? w13b ⟨w10.heap.size,0,none⟩=some (.slice v_ba ma.mem.al.length v_bac):=bB.cell 0
 have cbB_1 : World.cell? w13b ⟨w10.heap.size,1,none⟩=some (.int .i64 ma.mem.next):=bB.cell 1
 have cbB_2 : World.cell? w13b ⟨w10.heap.size,2,none⟩=some (.slice v_bk ma.stks.length v_bkc):=bB.cell 2
 have cbB_3 : World.cell? w13b ⟨w10.heap.size,3,none⟩=some (.slice v_br ma.run.length v_brc):=bB.cell 3
 have cbB_4 : World.cell? w13b ⟨w10.heap.size,4,none⟩=some (.int .i64 ma.tag):=bB.cell 4
 have cbB_5 : World.cell? w13b ⟨w10.heap.size,5,none⟩=some (.int .i64 ma.call):=bB.cell 5
 have cbP_0 : World.cell? w13b ⟨w5.heap.size+1,0,none⟩=some (.int .i64 pa1):=bP.cell 0
 have cbP_1 : World.cell? w13b ⟨w5.heap.size+1,1,none⟩=some (.int .i64 pa2):=bP.cell 1
 have cbP_2 : World.cell? w13b ⟨w5.heap.size+1,2,none⟩=some (.int .i64 pa3):=bP.cell 2
 have cbP2_0 : World.cell? w13b ⟨w10.heap.size+1,0,none⟩=some (.int .i64 pa1):=bP2.cell 0
 have cbP2_1 : World.cell? w13b ⟨w10.heap.size+1,1,none⟩=some (.int .i64 pa2):=bP2.cell 1
 have cbP2_2 : World.cell? w13b ⟨w10.heap.size+1,2,none⟩=some (.int .i64 pa3):=bP2.cell 2
 refine wp_region_go (L:=[Pr.eq (.agg #[.slice v_aa ma.mem.al.length v_aac,.int .i64 ma.mem.next,.slice v_ak ma.stks.length v_akc,.slice v_ar ma.run.length v_arc,.int .i64 ma.tag,.int .i64 ma.call]),Pr.eq (.agg #[.slice v_ba ma.mem.al.length v_bac,.int .i64 ma.mem.next,.slice v_bk ma.stks.length v_bkc,.slice v_br ma.run.length v_brc,.int .i64 ma.tag,.int .i64 ma.call]),Pr.eq (.bool true),Pr.eq (.bool false),Pr.eq (.bool false),Pr.eq (.agg #[.int .i64 pa1,.int .i64 pa2,.int .i64 pa3]),Pr.eq (.agg #[.int .i64 pa1,.int .i64 pa2,.int .i64 pa3]),Pr.eq (.bool false),Pr.eq (.bool false),Pr.eq (.bool false),Pr.eq (.int .i64 ea),Pr.eq (.int .i64 ea),Pr.eq (.bool false),Pr.eq (.bool false),Pr.eq (.bool false),Pr.eq (.agg #[.slice aa m.mem.al.length ac,.int .i64 m.mem.next,.slice ka m.stks.length kc,.slice ra m.run.length rc,.int .i64 m.tag,.int .i64 m.call]),Pr.eq (.int .i64 (monErr m)),Pr.eq (.agg #[.slice v_ha m.mem.al.length v_hac,.int .i64 m.mem.next,.slice v_hk m.stks.length v_hkc,.slice v_hr m.run.length v_hrc,.int .i64 m.tag,.int .i64 m.call]),Pr.eq (.int .i64 (monErr m)),Pr.eq (.bool false),Pr.eq (.bool false)]) (by kernel_rfl) (by kernel_rfl) ?_ ?_
 ·refine ⟨?_,?_,?_,?_,?_,?_,?_,?_,?_,?_,?_,?_,?_,?_,?_,?_,?_,?_,?_,?_,?_,trivial⟩
  ·intro a w hE hd ho
   refine .inl ⟨rfl,?_⟩
   intro Kq hKq
   have hF : Ext w13b w:=Ext.trans ((Ext.refl _).drew) hE
   have e8 : a.eval (.tmp 8) = .pointer (some ⟨w5.heap.size,0,none⟩):=ho 8 (by kernel_rfl)
   rw [eval_tmp] at e8
   have cbA_0w:=Ext.cell hF cbA_0
   have cbA_1w:=Ext.cell hF cbA_1
   have cbA_2w:=Ext.cell hF cbA_2
   have cbA_3w:=Ext.cell hF cbA_3
   have cbA_4w:=Ext.cell hF cbA_4
   have cbA_5w:=Ext.cell hF cbA_5
   clear cbM_0 cbM_1 cbM_2 cbM_3 cbM_4 cbM_5 cbH_0 cbH_1 cbH_2 cbH_3 cbH_4 cbH_5 cbA_0 cbA_1 cbA_2 cbA_3 cbA_4 cbA_5 cbB_0 cbB_1 cbB_2 cbB_3 cbB_4 cbB_5 cbP_0 cbP_1 cbP_2 cbP2_0 cbP2_1 cbP2_2
   clear hd ho
   replace hKq:=Lib.hid hKq
   go_simp
   exact hKq.out _ _ rfl (Ext.refl _)
  ·intro a w hE hd ho
   refine .inl ⟨rfl,?_⟩
   intro Kq hKq
   have hF : Ext w13b w:=Ext.trans ((Ext.refl _).drew) hE
   have e11 : a.eval (.tmp 11) = .pointer (some ⟨w10.heap.size,0,none⟩):=ho 11 (by kernel_rfl)
   rw [eval_tmp] at e11
   have cbB_0w:=Ext.cell hF cbB_0
   have cbB_1w:=Ext.cell hF cbB_1
   have cbB_2w:=Ext.cell hF cbB_2
   have cbB_3w:=Ext.cell hF cbB_3
   have cbB_4w:=Ext.cell hF cbB_4
   have cbB_5w:=Ext.cell hF cbB_5
   clear cbM_0 cbM_1 cbM_2 cbM_3 cbM_4 cbM_5 cbH_0 cbH_1 cbH_2 cbH_3 cbH_4 cbH_5 cbA_0 cbA_1 cbA_2 cbA_3 cbA_4 cbA_5 cbB_0 cbB_1 cbB_2 cbB_3 cbB_4 cbB_5 cbP_0 cbP_1 cbP_2 cbP2_0 cbP2_1 cbP2_2
   clear hd ho
   replace hKq:=Lib.hid hKq
   go_simp
   exact hKq.out _ _ rfl (Ext.refl _)
  ·intro a w hE hd ho
   refine .inl ⟨rfl,?_⟩
   intro Kq hKq
   have hF : Ext w13b w:=Ext.trans ((Ext.refl _).drew) hE
   have e48 : a.eval (.tmp 48) = .agg #[.slice v_aa ma.mem.al.length v_aac,.int .i64 ma.mem.next,.slice v_ak ma.stks.length v_akc,.slice v_ar ma.run.length v_arc,.int .i64 ma.tag,.int .i64 ma.call]:=hd 0 (by kernel_rfl)
   rw [eval_tmp] at e48
   have e49 : a.eval (.tmp 49) = .agg #[.slice v_ba ma.mem.al.length v_bac,.int .i64 ma.mem.next,.slice v_bk ma.stks.length v_bkc,.slice v_br ma.run.length v_brc,.int .i64 ma.tag,.int .i64 ma.call]:=hd 1 (by kernel_rfl)
   rw [eval_tmp] at e49
   clear cbM_0 cbM_1 cbM_2 cbM_3 cbM_4 cbM_5 cbH_0 cbH_1 cbH_2 cbH_3 cbH_4 cbH_5 cbA_0 cbA_1 cbA_2 cbA_3 cbA_4 cbA_5 cbB_0 cbB_1 cbB_2 cbB_3 cbB_4 cbB_5 cbP_0 cbP_1 cbP_2 cbP2_0 cbP2_1 cbP2_2
   clear hd ho
   replace hKq:=Lib.hid hKq
   go_simp
   refine (ref35_Same (rA.out.ext hF) (rB.out.ext hF)).mono ?_
   rintro e wz ⟨rfl,hZ⟩
   go_simp
   exact hKq.out _ _ rfl hZ
  ·intro a w hE hd ho
   refine .inl ⟨rfl,?_⟩
   intro Kq hKq
   have hF : Ext w13b w:=Ext.trans ((Ext.refl _).drew) hE
   have e50 : a.eval (.tmp 50) = .bool true:=hd 2 (by kernel_rfl)
   rw [eval_tmp] at e50
   clear cbM_0 cbM_1 cbM_2 cbM_3 cbM_4 cbM_5 cbH_0 cbH_1 cbH_2 cbH_3 cbH_4 cbH_5 cbA_0 cbA_1 cbA_2 cbA_3 cbA_4 cbA_5 cbB_0 cbB_1 cbB_2 cbB_3 cbB_4 cbB_5 cbP_0 cbP_1 cbP_2 cbP2_0 cbP2_1 cbP2_2
   clear hd ho
   replace hKq:=Lib.hid hKq
   go_simp
   exact hKq.out _ _ rfl (Ext.refl _)
  ·intro a w hE hd ho
   refine .inl ⟨rfl,?_⟩
   intro Kq hKq
   have hF : Ext w13b w:=Ext.trans ((Ext.refl _).drew) hE
   have e51 : a.eval (.tmp 51) = .bool false:=hd 3 (by kernel_rfl)
   rw [eval_tmp] at e51
   clear cbM_0 cbM_1 cbM_2 cbM_3 cbM_4 cbM_5 cbH_0 cbH_1 cbH_2 cbH_3 cbH_4 cbH_5 cbA_0 cbA_1 cbA_2 cbA_3 cbA_4 cbA_5 cbB_0 cbB_1 cbB_2 cbB_3 cbB_4 cbB_5 cbP_0 cbP_1 cbP_2 cbP2_0 cbP2_1 cbP2_2
   clear hd ho
   replace hKq:=Lib.hid hKq
   go_simp
   exact hKq.out _ _ rfl (Ext.refl _)
  ·intro a w hE hd ho
   refine .inl ⟨wanted_by 52 rfl rfl (hd 4 (by kernel_rfl)),?_⟩
   intro Kq hKq
   have hF : Ext w13b w:=Ext.trans ((Ext.refl _).drew) hE
   have e9 : a.eval (.tmp 9) = .pointer (some ⟨w5.heap.size+1,0,none⟩):=ho 9 (by kernel_rfl)
   rw [eval_tmp] at e9
   have cbP_0w:=Ext.cell hF cbP_0
   have cbP_1w:=Ext.cell hF cbP_1
   have cbP_2w:=Ext.cell hF cbP_2
   clear cbM_0 cbM_1 cbM_2 cbM_3 cbM_4 cbM_5 cbH_0 cbH_1 cbH_2 cbH_3 cbH_4 cbH_5 cbA_0 cbA_1 cbA_2 cbA_3 cbA_4 cbA_5 cbB_0 cbB_1 cbB_2 cbB_3 cbB_4 cbB_5 cbP_0 cbP_1 cbP_2 cbP2_0 cbP2_1 cbP2_2
   clear hd ho
   replace hKq:=Lib.hid hKq
   go_simp
   exact hKq.out _ _ rfl (Ext.refl _)
  ·intro a w hE hd ho
   refine .inl ⟨wanted_by 52 rfl rfl (hd 4 (by kernel_rfl)),?_⟩
   intro Kq hKq
   have hF : Ext w13b w:=Ext.trans ((Ext.refl _).drew) hE
   have e12 : a.eval (.tmp 12) = .pointer (some ⟨w10.heap.size+1,0,none⟩):=ho 12 (by kernel_rfl)
   rw [eval_tmp] at e12
   have cbP2_0w:=Ext.cell hF cbP2_0
   have cbP2_1w:=Ext.cell hF cbP2_1
   have cbP2_2w:=Ext.cell hF cbP2_2
   clear cbM_0 cbM_1 cbM_2 cbM_3 cbM_4 cbM_5 cbH_0 cbH_1 cbH_2 cbH_3 cbH_4 cbH_5 cbA_0 cbA_1 cbA_2 cbA_3 cbA_4 cbA_5 cbB_0 cbB_1 cbB_2 cbB_3 cbB_4 cbB_5 cbP_0 cbP_1 cbP_2 cbP2_0 cbP2_1 cbP2_2
   clear hd ho
   replace hKq:=Lib.hid hKq
   go_simp
   exact hKq.out _ _ rfl (Ext.refl _)
  ·intro a w hE hd ho
   refine .inl ⟨wanted_by 52 rfl rfl (hd 4 (by kernel_rfl)),?_⟩
   intro Kq hKq
   have hF : Ext w13b w:=Ext.trans ((Ext.refl _).drew) hE
   have e53 : a.eval (.tmp 53) = .agg #[.int .i64 pa1,.int .i64 pa2,.int .i64 pa3]:=hd 5 (by kernel_rfl)
   rw [eval_tmp] at e53
   have e54 : a.eval (.tmp 54) = .agg #[.int .i64 pa1,.int .i64 pa2,.int .i64 pa3]:=hd 6 (by kernel_rfl)
   rw [eval_tmp] at e54
   clear cbM_0 cbM_1 cbM_2 cbM_3 cbM_4 cbM_5 cbH_0 cbH_1 cbH_2 cbH_3 cbH_4 cbH_5 cbA_0 cbA_1 cbA_2 cbA_3 cbA_4 cbA_5 cbB_0 cbB_1 cbB_2 cbB_3 cbB_4 cbB_5 cbP_0 cbP_1 cbP_2 cbP2_0 cbP2_1 cbP2_2
   clear hd ho
   replace hKq:=Lib.hid hKq
   go_simp
   exact hKq.out _ _ rfl (Ext.refl _)
  ·intro a w hE hd ho
   refine .inl ⟨rfl,?_⟩
   intro Kq hKq
   have hF : Ext w13b w:=Ext.trans ((Ext.refl _).drew) hE
   have e52 : a.eval (.tmp 52) = .bool false:=hd 4 (by kernel_rfl)
   rw [eval_tmp] at e52
   have e55 : a.eval (.tmp 55) = .bool false:=hd 7 (by kernel_rfl)
   rw [eval_tmp] at e55
   clear cbM_0 cbM_1 cbM_2 cbM_3 cbM_4 cbM_5 cbH_0 cbH_1 cbH_2 cbH_3 cbH_4 cbH_5 cbA_0 cbA_1 cbA_2 cbA_3 cbA_4 cbA_5 cbB_0 cbB_1 cbB_2 cbB_3 cbB_4 cbB_5 cbP_0 cbP_1 cbP_2 cbP2_0 cbP2_1 cbP2_2
   clear hd ho
   replace hKq:=Lib.hid hKq
   go_simp
   exact hKq.out _ _ rfl (Ext.refl _)
  ·intro a w hE hd ho
   refine .inl ⟨rfl,?_⟩
   intro Kq hKq
   have hF : Ext w13b w:=Ext.trans ((Ext.refl _).drew) hE
   have e56 : a.eval (.tmp 56) = .bool false:=hd 8 (by kernel_rfl)
   rw [eval_tmp] at e56
   clear cbM_0 cbM_1 cbM_2 cbM_3 cbM_4 cbM_5 cbH_0 cbH_1 cbH_2 cbH_3 cbH_4 cbH_5 cbA_0 cbA_1 cbA_2 cbA_3 cbA_4 cbA_5 cbB_0 cbB_1 cbB_2 cbB_3 cbB_4 cbB_5 cbP_0 cbP_1 cbP_2 cbP2_0 cbP2_1 cbP2_2
   clear hd ho
   replace hKq:=Lib.hid hKq
   go_simp
   exact hKq.out _ _ rfl (Ext.refl _)
  ·intro a w hE hd ho
   refine .inl ⟨wanted_by 57 rfl rfl (hd 9 (by kernel_rfl)),?_⟩
   intro Kq hKq
   have hF : Ext w13b w:=Ext.trans ((Ext.refl _).drew) hE
   have e10 : a.eval (.tmp 10) = .int .i64 ea:=ho 10 (by kernel_rfl)
   rw [eval_tmp] at e10
   clear cbM_0 cbM_1 cbM_2 cbM_3 cbM_4 cbM_5 cbH_0 cbH_1 cbH_2 cbH_3 cbH_4 cbH_5 cbA_0 cbA_1 cbA_2 cbA_3 cbA_4 cbA_5 cbB_0 cbB_1 cbB_2 cbB_3 cbB_4 cbB_5 cbP_0 cbP_1 cbP_2 cbP2_0 cbP2_1 cbP2_2
   clear hd ho
   replace hKq:=Lib.hid hKq
   go_simp
   exact hKq.out _ _ rfl (Ext.refl _)
  ·intro a w hE hd ho
   refine .inl ⟨wanted_by 57 rfl rfl (hd 9 (by kernel_rfl)),?_⟩
   intro Kq hKq
   have hF : Ext w13b w:=Ext.trans ((Ext.refl _).drew) hE
   have e13 : a.eval (.tmp 13) = .int .i64 ea:=ho 13 (by kernel_rfl)
   rw [eval_tmp] at e13
   clear cbM_0 cbM_1 cbM_2 cbM_3 cbM_4 cbM_5 cbH_0 cbH_1 cbH_2 cbH_3 cbH_4 cbH_5 cbA_0 cbA_1 cbA_2 cbA_3 cbA_4 cbA_5 cbB_0 cbB_1 cbB_2 cbB_3 cbB_4 cbB_5 cbP_0 cbP_1 cbP_2 cbP2_0 cbP2_1 cbP2_2
   clear hd ho
   replace hKq:=Lib.hid hKq
   go_simp
   exact hKq.out _ _ rfl (Ext.refl _)
  ·intro a w hE hd ho
   refine .inl ⟨wanted_by 57 rfl rfl (hd 9 (by kernel_rfl)),?_⟩
   intro Kq hKq
   have hF : Ext w13b w:=Ext.trans ((Ext.refl _).drew) hE
   have e58 : a.eval (.tmp 58) = .int .i64 ea:=hd 10 (by kernel_rfl)
   rw [eval_tmp] at e58
   have e59 : a.eval (.tmp 59) = .int .i64 ea:=hd 11 (by kernel_rfl)
   rw [eval_tmp] at e59
   clear cbM_0 cbM_1 cbM_2 cbM_3 cbM_4 cbM_5 cbH_0 cbH_1 cbH_2 cbH_3 cbH_4 cbH_5 cbA_0 cbA_1 cbA_2 cbA_3 cbA_4 cbA_5 cbB_0 cbB_1 cbB_2 cbB_3 cbB_4 cbB_5 cbP_0 cbP_1 cbP_2 cbP2_0 cbP2_1 cbP2_2
   clear hd ho
   replace hKq:=Lib.hid hKq
   go_simp
   exact hKq.out _ _ rfl (Ext.refl _)
  ·intro a w hE hd ho
   refine .inl ⟨rfl,?_⟩
   intro Kq hKq
   have hF : Ext w13b w:=Ext.trans ((Ext.refl _).drew) hE
   have e57 : a.eval (.tmp 57) = .bool false:=hd 9 (by kernel_rfl)
   rw [eval_tmp] at e57
   have e60 : a.eval (.tmp 60) = .bool false:=hd 12 (by kernel_rfl)
   rw [eval_tmp] at e60
   clear cbM_0 cbM_1 cbM_2 cbM_3 cbM_4 cbM_5 cbH_0 cbH_1 cbH_2 cbH_3 cbH_4 cbH_5 cbA_0 cbA_1 cbA_2 cbA_3 cbA_4 cbA_5 cbB_0 cbB_1 cbB_2 cbB_3 cbB_4 cbB_5 cbP_0 cbP_1 cbP_2 cbP2_0 cbP2_1 cbP2_2
   clear hd ho
   replace hKq:=Lib.hid hKq
   go_simp
   exact hKq.out _ _ rfl (Ext.refl _)
  ·intro a w hE hd ho
   refine .inl ⟨rfl,?_⟩
   intro Kq hKq
   have hF : Ext w13b w:=Ext.trans ((Ext.refl _).drew) hE
   have e61 : a.eval (.tmp 61) = .bool false:=hd 13 (by kernel_rfl)
   rw [eval_tmp] at e61
   clear cbM_0 cbM_1 cbM_2 cbM_3 cbM_4 cbM_5 cbH_0 cbH_1 cbH_2 cbH_3 cbH_4 cbH_5 cbA_0 cbA_1 cbA_2 cbA_3 cbA_4 cbA_5 cbB_0 cbB_1 cbB_2 cbB_3 cbB_4 cbB_5 cbP_0 cbP_1 cbP_2 cbP2_0 cbP2_1 cbP2_2
   clear hd ho
   replace hKq:=Lib.hid hKq
   go_simp
   exact hKq.out _ _ rfl (Ext.refl _)
  ·intro a w hE hd ho
   refine .inl ⟨wanted_by 62 rfl rfl (hd 14 (by kernel_rfl)),?_⟩
   intro Kq hKq
   have hF : Ext w13b w:=Ext.trans ((Ext.refl _).drew) hE
   have e3 : a.eval (.tmp 3) = .pointer (some ⟨wS.heap.size,0,none⟩):=ho 3 (by kernel_rfl)
   rw [eval_tmp] at e3
   have cbM_0w:=Ext.cell hF cbM_0
   have cbM_1w:=Ext.cell hF cbM_1
   have cbM_2w:=Ext.cell hF cbM_2
   have cbM_3w:=Ext.cell hF cbM_3
   have cbM_4w:=Ext.cell hF cbM_4
   have cbM_5w:=Ext.cell hF cbM_5
   clear cbM_0 cbM_1 cbM_2 cbM_3 cbM_4 cbM_5 cbH_0 cbH_1 cbH_2 cbH_3 cbH_4 cbH_5 cbA_0 cbA_1 cbA_2 cbA_3 cbA_4 cbA_5 cbB_0 cbB_1 cbB_2 cbB_3 cbB_4 cbB_5 cbP_0 cbP_1 cbP_2 cbP2_0 cbP2_1 cbP2_2
   clear hd ho
   replace hKq:=Lib.hid hKq
   go_simp
   exact hKq.out _ _ rfl (Ext.refl _)
  ·intro a w hE hd ho
   refine .inl ⟨wanted_by 62 rfl rfl (hd 14 (by kernel_rfl)),?_⟩
   intro Kq hKq
   have hF : Ext w13b w:=Ext.trans ((Ext.refl _).drew) hE
   have e63 : a.eval (.tmp 63) = .agg #[.slice aa m.mem.al.length ac,.int .i64 m.mem.next,.slice ka m.stks.length kc,.slice ra m.run.length rc,.int .i64 m.tag,.int .i64 m.call]:=hd 15 (by kernel_rfl)
   rw [eval_tmp] at e63
   clear cbM_0 cbM_1 cbM_2 cbM_3 cbM_4 cbM_5 cbH_0 cbH_1 cbH_2 cbH_3 cbH_4 cbH_5 cbA_0 cbA_1 cbA_2 cbA_3 cbA_4 cbA_5 cbB_0 cbB_1 cbB_2 cbB_3 cbB_4 cbB_5 cbP_0 cbP_1 cbP_2 cbP2_0 cbP2_1 cbP2_2
   clear hd ho
   replace hKq:=Lib.hid hKq
   go_simp
   refine (mon_Check' (hA6.out.ext hF) hn.out (hK6.out.ext hF) (hR6.out.ext hF)).mono ?_
   rintro e wz ⟨rfl,hZ⟩
   go_simp
   exact hKq.out _ _ rfl hZ
  ·intro a w hE hd ho
   refine .inl ⟨wanted_by 62 rfl rfl (hd 14 (by kernel_rfl)),?_⟩
   intro Kq hKq
   have hF : Ext w13b w:=Ext.trans ((Ext.refl _).drew) hE
   have e7 : a.eval (.tmp 7) = .pointer (some ⟨w2.heap.size,0,none⟩):=ho 7 (by kernel_rfl)
   rw [eval_tmp] at e7
   have cbH_0w:=Ext.cell hF cbH_0
   have cbH_1w:=Ext.cell hF cbH_1
   have cbH_2w:=Ext.cell hF cbH_2
   have cbH_3w:=Ext.cell hF cbH_3
   have cbH_4w:=Ext.cell hF cbH_4
   have cbH_5w:=Ext.cell hF cbH_5
   clear cbM_0 cbM_1 cbM_2 cbM_3 cbM_4 cbM_5 cbH_0 cbH_1 cbH_2 cbH_3 cbH_4 cbH_5 cbA_0 cbA_1 cbA_2 cbA_3 cbA_4 cbA_5 cbB_0 cbB_1 cbB_2 cbB_3 cbB_4 cbB_5 cbP_0 cbP_1 cbP_2 cbP2_0 cbP2_1 cbP2_2
   clear hd ho
   replace hKq:=Lib.hid hKq
   go_simp
   exact hKq.out _ _ rfl (Ext.refl _)
  ·intro a w hE hd ho
   refine .inl ⟨wanted_by 62 rfl rfl (hd 14 (by kernel_rfl)),?_⟩
   intro Kq hKq
   have hF : Ext w13b w:=Ext.trans ((Ext.refl _).drew) hE
   have e65 : a.eval (.tmp 65) = .agg #[.slice v_ha m.mem.al.length v_hac,.int .i64 m.mem.next,.slice v_hk m.stks.length v_hkc,.slice v_hr m.run.length v_hrc,.int .i64 m.tag,.int .i64 m.call]:=hd 17 (by kernel_rfl)
   rw [eval_tmp] at e65
   clear cbM_0 cbM_1 cbM_2 cbM_3 cbM_4 cbM_5 cbH_0 cbH_1 cbH_2 cbH_3 cbH_4 cbH_5 cbA_0 cbA_1 cbA_2 cbA_3 cbA_4 cbA_5 cbB_0 cbB_1 cbB_2 cbB_3 cbB_4 cbB_5 cbP_0 cbP_1 cbP_2 cbP2_0 cbP2_1 cbP2_2
   clear hd ho
   replace hKq:=Lib.hid hKq
   go_simp
   refine (ref35_Check (hh.out.1.ext hF) hn.out (hh.out.2.1.ext hF) (hh.out.2.2.ext hF)).mono ?_
   rintro e wz ⟨rfl,hZ⟩
   go_simp
   exact hKq.out _ _ rfl hZ
  ·intro a w hE hd ho
   refine .inl ⟨wanted_by 62 rfl rfl (hd 14 (by kernel_rfl)),?_⟩
   intro Kq hKq
   have hF : Ext w13b w:=Ext.trans ((Ext.refl _).drew) hE
   have e64 : a.eval (.tmp 64) = .int .i64 (monErr m):=hd 16 (by kernel_rfl)
   rw [eval_tmp] at e64
   have e66 : a.eval (.tmp 66) = .int .i64 (monErr m):=hd 18 (by kernel_rfl)
   rw [eval_tmp] at e66
   clear cbM_0 cbM_1 cbM_2 cbM_3 cbM_4 cbM_5 cbH_0 cbH_1 cbH_2 cbH_3 cbH_4 cbH_5 cbA_0 cbA_1 cbA_2 cbA_3 cbA_4 cbA_5 cbB_0 cbB_1 cbB_2 cbB_3 cbB_4 cbB_5 cbP_0 cbP_1 cbP_2 cbP2_0 cbP2_1 cbP2_2
   clear hd ho
   replace hKq:=Lib.hid hKq
   go_simp
   exact hKq.out _ _ rfl (Ext.refl _)
  ·intro a w hE hd ho
   refine .inl ⟨rfl,?_⟩
   intro Kq hKq
   have hF : Ext w13b w:=Ext.trans ((Ext.refl _).drew) hE
   have e62 : a.eval (.tmp 62) = .bool false:=hd 14 (by kernel_rfl)
   rw [eval_tmp] at e62
   have e67 : a.eval (.tmp 67) = .bool false:=hd 19 (by kernel_rfl)
   rw [eval_tmp] at e67
   clear cbM_0 cbM_1 cbM_2 cbM_3 cbM_4 cbM_5 cbH_0 cbH_1 cbH_2 cbH_3 cbH_4 cbH_5 cbA_0 cbA_1 cbA_2 cbA_3 cbA_4 cbA_5 cbB_0 cbB_1 cbB_2 cbB_3 cbB_4 cbB_5 cbP_0 cbP_1 cbP_2 cbP2_0 cbP2_1 cbP2_2
   clear hd ho
   replace hKq:=Lib.hid hKq
   go_simp
   exact hKq.out _ _ rfl (Ext.refl _)
 ·intro vals wq hE hv
  have hF : Ext w13b wq:=Ext.trans ((Ext.refl _).drew) hE
  have e20 : vals 20 = .bool false:=hv 20 (by decide)
  clear hv hE cbM_0 cbM_1 cbM_2 cbM_3 cbM_4 cbM_5 cbH_0 cbH_1 cbH_2 cbH_3 cbH_4 cbH_5 cbA_0 cbA_1 cbA_2 cbA_3 cbA_4 cbA_5 cbB_0 cbB_1 cbB_2 cbB_3 cbB_4 cbB_5 cbP_0 cbP_1 cbP_2 cbP2_0 cbP2_1 cbP2_2
  simp only [putAll]
  go_simp
  try rw [e20]
  clear e20 rA rB hA6 hK6 hR6 hh
  clear Ga
  clear Gb
  clear bA
  clear bB
  clear bP
  clear bP2
  replace bM:=bM.ext hF
  replace bH:=bH.ext hF
  replace Gh:=Lib.hid (Fq.ext Gh.out hF)
  have hF15:=Ext.trans hF14 hF
  obtain ⟨⟨mc,nc,ec⟩,hen⟩ : ∃ z,enterM m=z:=⟨_,rfl⟩
  replace hen:=Lib.hid hen
  obtain ⟨bM_0,bM_1,bM_2,bM_3,bM_4,bM_5,bM_l⟩:=bM.c6
  go_wp2_with fail
  clear bM_0 bM_1 bM_2 bM_3 bM_4 bM_5 bM_l
  refine (monitor_Enter (hA.out.ext hF15) hn.out (hK.out.ext hF15) (hR.out.ext hF15)).mono ?_
  rintro e w16 ⟨vt,rfl,fM,hE16⟩
  replace bM:=bM.ext hE16
  replace bH:=bH.ext hE16
  replace Gh:=Lib.hid (Fq.ext Gh.out hE16)
  have hF16:=Ext.trans hF15 hE16
  rw [hen.out] at fM ⊢
  try dsimp only at fM ⊢
  obtain ⟨csa,css,csr,rfl,qc⟩:=FrMon.parts fM
  clear fM
  obtain ⟨v_ca,v_cac,rfl,-⟩:=(qc.read).1.form
  obtain ⟨v_ck,v_ckc,rfl,-⟩:=(qc.read).2.1.form
  obtain ⟨v_cr,v_crc,rfl,-⟩:=(qc.read).2.2.form
  try dsimp only at qc ⊢
  have Gc:=Lib.hid (Fq.mono (S':=(fun b=>True)) qc (fun b h1 _=>by exact trivial))
  clear qc
  obtain ⟨bH_0,bH_1,bH_2,bH_3,bH_4,bH_5,bH_l⟩:=bH.c6
  go_wp2_with fail
  clear bH_0 bH_1 bH_2 bH_3 bH_4 bH_5 bH_l
  have ne_bC_bM : Hid (w16.heap.size≠wS.heap.size):=Hid.mk (by have h9:=bM.lt;omega)
  have ne_bC_bH : Hid (w16.heap.size≠w2.heap.size):=Hid.mk (by have h9:=bH.lt;omega)
  have lowbC : Hid (wS.heap.size≤w16.heap.size):=Hid.mk (by have h9:=Ext.size hF16;omega)
  have bC:=Box.new w16 28 #[.slice v_ca mc.mem.al.length v_cac,.int .i64 mc.mem.next,.slice v_ck mc.stks.length v_ckc,.slice v_cr mc.run.length v_crc,.int .i64 mc.tag,.int .i64 mc.call]
  have hza : (World.alloc w16 (.cells #[.slice v_ca mc.mem.al.length v_cac,.int .i64 mc.mem.next,.slice v_ck mc.stks.length v_ckc,.slice v_cr mc.run.length v_crc,.int .i64 mc.tag,.int .i64 mc.call] 28)).heap.size=w16.heap.size+1:=by rw [World.size_alloc]
  have hx17 : Ext w16 (World.alloc w16 (.cells #[.slice v_ca mc.mem.al.length v_cac,.int .i64 mc.mem.next,.slice v_ck mc.stks.length v_ckc,.slice v_cr mc.run.length v_crc,.int .i64 mc.tag,.int .i64 mc.call] 28)):=(Ext.refl _).alloc _
  obtain ⟨w17b,hw17⟩ : ∃ z,World.alloc w16 (.cells #[.slice v_ca mc.mem.al.length v_cac,.int .i64 mc.mem.next,.slice v_ck mc.stks.length v_ckc,.slice v_cr mc.run.length v_crc,.int .i64 mc.tag,.int .i64 mc.call] 28)=z:=⟨_,rfl⟩
  rw [hw17] at bC hx17 hza ⊢
  clear hw17
  replace Gh:=Lib.hid (Fq.to (T:=fun _=>False) (S':=(fun b=>b≠w16.heap.size∧True)) Gh.out (ExtBut.of_ext hx17) (fun _ _ _ h=>h) (fun b h hl=>⟨by omega,trivial⟩))
  replace Gc:=Lib.hid (Fq.to (T:=fun _=>False) (S':=(fun b=>b≠w16.heap.size∧True)) Gc.out (ExtBut.of_ext hx17) (fun _ _ _ h=>h) (fun b h hl=>⟨by omega,trivial⟩))
  have hzb0:=hza
  clear hza
  replace bM:=bM.ext hx17
  replace bH:=bH.ext hx17
  have hF18:=Ext.trans hF16 hx17
  clear hzb0
  have ltbC:=Lib.hid bC.lt
  refine (ref35_Enter Gh.out.read.1 hn.out Gh.out.read.2.1 Gh.out.read.2.2).mono ?_
  rintro e w19 ⟨vt,rfl,fM,hE19⟩
  replace bM:=bM.ext hE19
  replace bH:=bH.ext hE19
  replace bC:=bC.ext hE19
  replace Gh:=Lib.hid (Fq.ext Gh.out hE19)
  replace Gc:=Lib.hid (Fq.ext Gc.out hE19)
  have hF19:=Ext.trans hF18 hE19
  rw [hen.out] at fM ⊢
  try dsimp only at fM ⊢
  obtain ⟨dsa,dss,dsr,rfl,qd⟩:=FrMon.parts fM
  clear fM
  obtain ⟨v_da,v_dac,rfl,-⟩:=(qd.read).1.form
  obtain ⟨v_dk,v_dkc,rfl,-⟩:=(qd.read).2.1.form
  obtain ⟨v_dr,v_drc,rfl,-⟩:=(qd.read).2.2.form
  try dsimp only at qd ⊢
  have Gd:=Lib.hid (Fq.mono (S':=(fun b=>b≠w16.heap.size∧True)) qd (fun b h1 _=>by have gbC:=ltbC.out;exact ⟨by omega,trivial⟩))
  clear qd ltbC
  obtain ⟨bC_0,bC_1,bC_2,bC_3,bC_4,bC_5,bC_l⟩:=bC.c6
  go_wp2_with fail
  clear bC_0 bC_1 bC_2 bC_3 bC_4 bC_5 bC_l
  have ne_bD_bM : Hid (w19.heap.size≠wS.heap.size):=Hid.mk (by have h9:=bM.lt;omega)
  have ne_bD_bH : Hid (w19.heap.size≠w2.heap.size):=Hid.mk (by have h9:=bH.lt;omega)
  have ne_bD_bC : Hid (w19.heap.size≠w16.heap.size):=Hid.mk (by have h9:=bC.lt;omega)
  have ne_bC_bD : Hid (w16.heap.size≠w19.heap.size):=Hid.mk (by have h9:=bC.lt;omega)
  have lowbD : Hid (wS.heap.size≤w19.heap.size):=Hid.mk (by have h9:=Ext.size hF19;omega)
  have bD:=Box.new w19 28 #[.slice v_da mc.mem.al.length v_dac,.int .i64 mc.mem.next,.slice v_dk mc.stks.length v_dkc,.slice v_dr mc.run.length v_drc,.int .i64 mc.tag,.int .i64 mc.call]
  have hza : (World.alloc w19 (.cells #[.slice v_da mc.mem.al.length v_dac,.int .i64 mc.mem.next,.slice v_dk mc.stks.length v_dkc,.slice v_dr mc.run.length v_drc,.int .i64 mc.tag,.int .i64 mc.call] 28)).heap.size=w19.heap.size+1:=by rw [World.size_alloc]
  have hx20 : Ext w19 (World.alloc w19 (.cells #[.slice v_da mc.mem.al.length v_dac,.int .i64 mc.mem.next,.slice v_dk mc.stks.length v_dkc,.slice v_dr mc.run.length v_drc,.int .i64 mc.tag,.int .i64 mc.call] 28)):=(Ext.refl _).alloc _
  obtain ⟨w20b,hw20⟩ : ∃ z,World.alloc w19 (.cells #[.slice v_da mc.mem.al.length v_dac,.int .i64 mc.mem.next,.slice v_dk mc.stks.length v_dkc,.slice v_dr mc.run.length v_drc,.int .i64 mc.tag,.int .i64 mc.call] 28)=z:=⟨_,rfl⟩
  rw [hw20] at bD hx20 hza ⊢
  clear hw20
  replace Gh:=Lib.hid (Fq.to (T:=fun _=>False) (S':=(fun b=>b≠w16.heap.size∧b≠w19.heap.size∧True)) Gh.out (ExtBut.of_ext hx20) (fun _ _ _ h=>h) (fun b h hl=>⟨h.1,by omega,trivial⟩))
  replace Gc:=Lib.hid (Fq.to (T:=fun _=>False) (S':=(fun b=>b≠w16.heap.size∧b≠w19.heap.size∧True)) Gc.out (ExtBut.of_ext hx20) (fun _ _ _ h=>h) (fun b h hl=>⟨h.1,by omega,trivial⟩))
  replace Gd:=Lib.hid (Fq.to (T:=fun _=>False) (S':=(fun b=>b≠w16.heap.size∧b≠w19.heap.size∧True)) Gd.out (ExtBut.of_ext hx20) (fun _ _ _ h=>h) (fun b h hl=>⟨h.1,by omega,trivial⟩))
  have hzb0:=hza
  clear hza
  replace bM:=bM.ext hx20
  replace bH:=bH.ext hx20
  replace bC:=bC.ext hx20
  have hF21:=Ext.trans hF19 hx20
  clear hzb0
  have ltbC:=Lib.hid bC.lt
  have ltbD:=Lib.hid bD.lt
  refine (ref35_Same (rd_parts Gc.out.read) (rd_parts Gd.out.read)).mono ?_
  rintro e w22 ⟨rfl,hE22⟩
  replace bM:=bM.ext hE22
  replace bH:=bH.ext hE22
  replace bC:=bC.ext hE22
  replace bD:=bD.ext hE22
  replace Gh:=Lib.hid (Fq.ext Gh.out hE22)
  replace Gc:=Lib.hid (Fq.ext Gc.out hE22)
  replace Gd:=Lib.hid (Fq.ext Gd.out hE22)
  have hF22:=Ext.trans hF21 hE22
  clear ltbC ltbD
  clear Gc
  clear Gd
  obtain ⟨⟨me,ee⟩,hle⟩ : ∃ z,leaveM m=z:=⟨_,rfl⟩
  replace hle:=Lib.hid hle
  obtain ⟨bM_0,bM_1,bM_2,bM_3,bM_4,bM_5,bM_l⟩:=bM.c6
  obtain ⟨bC_0,bC_1,bC_2,bC_3,bC_4,bC_5,bC_l⟩:=bC.c6
  obtain ⟨bD_0,bD_1,bD_2,bD_3,bD_4,bD_5,bD_l⟩:=bD.c6
  go_wp2_with fail
  clear bM_0 bM_1 bM_2 bM_3 bM_4 bM_5 bM_l bC_0 bC_1 bC_2 bC_3 bC_4 bC_5 bC_l bD_0 bD_1 bD_2 bD_3 bD_4 bD_5 bD_l
  have ltbC:=Lib.hid bC.lt
  have ltbD:=Lib.hid bD.lt
  refine (monitor_Leave (hA.out.ext hF22) hn.out (hK.out.ext hF22) (hR.out.ext hF22)).mono ?_
  rintro e w23 ⟨vt,rfl,fM,hE23⟩
  replace bM:=bM.ext hE23
  replace bH:=bH.ext hE23
  replace bC:=bC.ext hE23
  replace bD:=bD.ext hE23
  replace Gh:=Lib.hid (Fq.ext Gh.out hE23)
  have hF23:=Ext.trans hF22 hE23
  rw [hle.out] at fM ⊢
  try dsimp only at fM ⊢
  obtain ⟨esa,ess,esr,rfl,qe⟩:=FrMon.parts fM
  clear fM
  obtain ⟨v_ea,v_eac,rfl,-⟩:=(qe.read).1.form
  obtain ⟨v_ek,v_ekc,rfl,-⟩:=(qe.read).2.1.form
  obtain ⟨v_er,v_erc,rfl,-⟩:=(qe.read).2.2.form
  try dsimp only at qe ⊢
  have Ge:=Lib.hid (Fq.mono (S':=(fun b=>b≠w16.heap.size∧b≠w19.heap.size∧True)) qe (fun b h1 _=>by have gbC:=ltbC.out;have gbD:=ltbD.out;exact ⟨by omega,by omega,trivial⟩))
  clear qe ltbC ltbD
  have bC_0 : World.cell? w23 ⟨w16.heap.size,0,none⟩=some (.slice v_ca mc.mem.al.length v_cac):=bC.cell 0
  have bC_1 : World.cell? w23 ⟨w16.heap.size,1,none⟩=some (.int .i64 mc.mem.next):=bC.cell 1
  have bC_2 : World.cell? w23 ⟨w16.heap.size,2,none⟩=some (.slice v_ck mc.stks.length v_ckc):=bC.cell 2
  have bC_3 : World.cell? w23 ⟨w16.heap.size,3,none⟩=some (.slice v_cr mc.run.length v_crc):=bC.cell 3
  have bC_4 : World.cell? w23 ⟨w16.heap.size,4,none⟩=some (.int .i64 mc.tag):=bC.cell 4
  have bC_5 : World.cell? w23 ⟨w16.heap.size,5,none⟩=some (.int .i64 mc.call):=bC.cell 5
  have bC_f0 : World.frozen? w23 ⟨w16.heap.size,0,none⟩=false:=bC.frozen 0
  have bC_f1 : World.frozen? w23 ⟨w16.heap.size,1,none⟩=false:=bC.frozen 1
  have bC_f2 : World.frozen? w23 ⟨w16.heap.size,2,none⟩=false:=bC.frozen 2
  have bC_f3 : World.frozen? w23 ⟨w16.heap.size,3,none⟩=false:=bC.frozen 3
  have bC_f4 : World.frozen? w23 ⟨w16.heap.size,4,none⟩=false:=bC.frozen 4
  have bC_f5 : World.frozen? w23 ⟨w16.heap.size,5,none⟩=false:=bC.frozen 5
  have bC_l:=bC.lt
  go_upto_region 13 with fail
  clear bC_0 bC_1 bC_2 bC_3 bC_4 bC_5 bC_f0 bC_f1 bC_f2 bC_f3 bC_f4 bC_f5 bC_l
  have hS24 : ExtBut (fun b=>b=w16.heap.size∨b=w19.heap.size∨False) w23 (World.setCell (World.setCell (World.setCell (World.setCell (World.setCell (World.setCell w23 ⟨w16.heap.size,0,none⟩ (.slice v_ea me.mem.al.length v_eac)) ⟨w16.heap.size,1,none⟩ (.int .i64 me.mem.next)) ⟨w16.heap.size,2,none⟩ (.slice v_ek me.stks.length v_ekc)) ⟨w16.heap.size,3,none⟩ (.slice v_er me.run.length v_erc)) ⟨w16.heap.size,4,none⟩ (.int .i64 me.tag)) ⟨w16.heap.size,5,none⟩ (.int .i64 me.call)):=by (repeat' with_reducible first | exact ExtBut.refl _ _ | refine ExtBut.dr ?_ | refine ExtBut.sc ?_ ?_ | fail) <;> dsimp only <;> omega
  replace bM:=(Box.other (Box.other (Box.other (Box.other (Box.other (Box.other bM (p:=⟨w16.heap.size,0,none⟩) (ne_bC_bM.out) (.slice v_ea me.mem.al.length v_eac)) (p:=⟨w16.heap.size,1,none⟩) (ne_bC_bM.out) (.int .i64 me.mem.next)) (p:=⟨w16.heap.size,2,none⟩) (ne_bC_bM.out) (.slice v_ek me.stks.length v_ekc)) (p:=⟨w16.heap.size,3,none⟩) (ne_bC_bM.out) (.slice v_er me.run.length v_erc)) (p:=⟨w16.heap.size,4,none⟩) (ne_bC_bM.out) (.int .i64 me.tag)) (p:=⟨w16.heap.size,5,none⟩) (ne_bC_bM.out) (.int .i64 me.call))
  replace bH:=(Box.other (Box.other (Box.other (Box.other (Box.other (Box.other bH (p:=⟨w16.heap.size,0,none⟩) (ne_bC_bH.out) (.slice v_ea me.mem.al.length v_eac)) (p:=⟨w16.heap.size,1,none⟩) (ne_bC_bH.out) (.int .i64 me.mem.next)) (p:=⟨w16.heap.size,2,none⟩) (ne_bC_bH.out) (.slice v_ek me.stks.length v_ekc)) (p:=⟨w16.heap.size,3,none⟩) (ne_bC_bH.out) (.slice v_er me.run.length v_erc)) (p:=⟨w16.heap.size,4,none⟩) (ne_bC_bH.out) (.int .i64 me.tag)) (p:=⟨w16.heap.size,5,none⟩) (ne_bC_bH.out) (.int .i64 me.call))
  replace bC:=(Box.setL (Box.setL (Box.setL (Box.setL (Box.setL (Box.setL bC 0 (.slice v_ea me.mem.al.length v_eac)) 1 (.int .i64 me.mem.next)) 2 (.slice v_ek me.stks.length v_ekc)) 3 (.slice v_er me.run.length v_erc)) 4 (.int .i64 me.tag)) 5 (.int .i64 me.call))
  simp only [List.set_cons_zero,List.set_cons_succ] at bC
  replace bD:=(Box.other (Box.other (Box.other (Box.other (Box.other (Box.other bD (p:=⟨w16.heap.size,0,none⟩) (ne_bC_bD.out) (.slice v_ea me.mem.al.length v_eac)) (p:=⟨w16.heap.size,1,none⟩) (ne_bC_bD.out) (.int .i64 me.mem.next)) (p:=⟨w16.heap.size,2,none⟩) (ne_bC_bD.out) (.slice v_ek me.stks.length v_ekc)) (p:=⟨w16.heap.size,3,none⟩) (ne_bC_bD.out) (.slice v_er me.run.length v_erc)) (p:=⟨w16.heap.size,4,none⟩) (ne_bC_bD.out) (.int .i64 me.tag)) (p:=⟨w16.heap.size,5,none⟩) (ne_bC_bD.out) (.int .i64 me.call))
  obtain ⟨w24s,hw24⟩ : ∃ z,(World.setCell (World.setCell (World.setCell (World.setCell (World.setCell (World.setCell w23 ⟨w16.heap.size,0,none⟩ (.slice v_ea me.mem.al.length v_eac)) ⟨w16.heap.size,1,none⟩ (.int .i64 me.mem.next)) ⟨w16.heap.size,2,none⟩ (.slice v_ek me.stks.length v_ekc)) ⟨w16.heap.size,3,none⟩ (.slice v_er me.run.length v_erc)) ⟨w16.heap.size,4,none⟩ (.int .i64 me.tag)) ⟨w16.heap.size,5,none⟩ (.int .i64 me.call))=z:=⟨_,rfl⟩
  rw [hw24] at hS24 bM bH bC bD ⊢
  clear hw24
  have hF24:=ExtBut.ext hF23 hS24 (fun b h=>by rcases h with h | h | h;(rw [h];exact lowbC.out);(rw [h];exact lowbD.out);exact h.elim)
  replace Gh:=Lib.hid (Fq.but Gh.out hS24 (fun b h _ h2=>by rcases h2 with h2 | h2 | h2;exact h.1 h2;exact h.2.1 h2;exact h2))
  replace Ge:=Lib.hid (Fq.but Ge.out hS24 (fun b h _ h2=>by rcases h2 with h2 | h2 | h2;exact h.1 h2;exact h.2.1 h2;exact h2))
  clear hS24
  obtain ⟨bH_0,bH_1,bH_2,bH_3,bH_4,bH_5,bH_l⟩:=bH.c6
  go_wp2_with fail
  clear bH_0 bH_1 bH_2 bH_3 bH_4 bH_5 bH_l
  have ltbC:=Lib.hid bC.lt
  have ltbD:=Lib.hid bD.lt
  refine (ref35_Leave Gh.out.read.1 hn.out Gh.out.read.2.1 Gh.out.read.2.2).mono ?_
  rintro e w25 ⟨vt,rfl,fM,hE25⟩
  replace bM:=bM.ext hE25
  replace bH:=bH.ext hE25
  replace bC:=bC.ext hE25
  replace bD:=bD.ext hE25
  replace Gh:=Lib.hid (Fq.ext Gh.out hE25)
  replace Ge:=Lib.hid (Fq.ext Ge.out hE25)
  have hF25:=Ext.trans hF24 hE25
  rw [hle.out] at fM ⊢
  try dsimp only at fM ⊢
  obtain ⟨fsa,fss,fsr,rfl,qf⟩:=FrMon.parts fM
  clear fM
  obtain ⟨v_fa,v_fac,rfl,-⟩:=(qf.read).1.form
  obtain ⟨v_fk,v_fkc,rfl,-⟩:=(qf.read).2.1.form
  obtain ⟨v_fr,v_frc,rfl,-⟩:=(qf.read).2.2.form
  try dsimp only at qf ⊢
  have Gf:=Lib.hid (Fq.mono (S':=(fun b=>b≠w16.heap.size∧b≠w19.heap.size∧True)) qf (fun b h1 _=>by have gbC:=ltbC.out;have gbD:=ltbD.out;exact ⟨by omega,by omega,trivial⟩))
  clear qf ltbC ltbD
  have bD_0 : World.cell? w25 ⟨w19.heap.size,0,none⟩=some (.slice v_da mc.mem.al.length v_dac):=bD.cell 0
  have bD_1 : World.cell? w25 ⟨w19.heap.size,1,none⟩=some (.int .i64 mc.mem.next):=bD.cell 1
  have bD_2 : World.cell? w25 ⟨w19.heap.size,2,none⟩=some (.slice v_dk mc.stks.length v_dkc):=bD.cell 2
  have bD_3 : World.cell? w25 ⟨w19.heap.size,3,none⟩=some (.slice v_dr mc.run.length v_drc):=bD.cell 3
  have bD_4 : World.cell? w25 ⟨w19.heap.size,4,none⟩=some (.int .i64 mc.tag):=bD.cell 4
  have bD_5 : World.cell? w25 ⟨w19.heap.size,5,none⟩=some (.int .i64 mc.call):=bD.cell 5
  have bD_f0 : World.frozen? w25 ⟨w19.heap.size,0,none⟩=false:=bD.frozen 0
  have bD_f1 : World.frozen? w25 ⟨w19.heap.size,1,none⟩=false:=bD.frozen 1
  have bD_f2 : World.frozen? w25 ⟨w19.heap.size,2,none⟩=false:=bD.frozen 2
  have bD_f3 : World.frozen? w25 ⟨w19.heap.size,3,none⟩=false:=bD.frozen 3
  have bD_f4 : World.frozen? w25 ⟨w19.heap.size,4,none⟩=false:=bD.frozen 4
  have bD_f5 : World.frozen? w25 ⟨w19.heap.size,5,none⟩=false:=bD.frozen 5
  have bD_l:=bD.lt
  go_upto_region 14 with fail
  clear bD_0 bD_1 bD_2 bD_3 bD_4 bD_5 bD_f0 bD_f1 bD_f2 bD_f3 bD_f4 bD_f5 bD_l
  have hS26 : ExtBut (fun b=>b=w16.heap.size∨b=w19.heap.size∨False) w25 (World.setCell (World.setCell (World.setCell (World.setCell (World.setCell (World.setCell w25 ⟨w19.heap.size,0,none⟩ (.slice v_fa me.mem.al.length v_fac)) ⟨w19.heap.size,1,none⟩ (.int .i64 me.mem.next)) ⟨w19.heap.size,2,none⟩ (.slice v_fk me.stks.length v_fkc)) ⟨w19.heap.size,3,none⟩ (.slice v_fr me.run.length v_frc)) ⟨w19.heap.size,4,none⟩ (.int .i64 me.tag)) ⟨w19.heap.size,5,none⟩ (.int .i64 me.call)):=by (repeat' with_reducible first | exact ExtBut.refl _ _ | refine ExtBut.dr ?_ | refine ExtBut.sc ?_ ?_ | fail) <;> dsimp only <;> omega
  replace bM:=(Box.other (Box.other (Box.other (Box.other (Box.other (Box.other bM (p:=⟨w19.heap.size,0,none⟩) (ne_bD_bM.out) (.slice v_fa me.mem.al.length v_fac)) (p:=⟨w19.heap.size,1,none⟩) (ne_bD_bM.out) (.int .i64 me.mem.next)) (p:=⟨w19.heap.size,2,none⟩) (ne_bD_bM.out) (.slice v_fk me.stks.length v_fkc)) (p:=⟨w19.heap.size,3,none⟩) (ne_bD_bM.out) (.slice v_fr me.run.length v_frc)) (p:=⟨w19.heap.size,4,none⟩) (ne_bD_bM.out) (.int .i64 me.tag)) (p:=⟨w19.heap.size,5,none⟩) (ne_bD_bM.out) (.int .i64 me.call))
  replace bH:=(Box.other (Box.other (Box.other (Box.other (Box.other (Box.other bH (p:=⟨w19.heap.size,0,none⟩) (ne_bD_bH.out) (.slice v_fa me.mem.al.length v_fac)) (p:=⟨w19.heap.size,1,none⟩) (ne_bD_bH.out) (.int .i64 me.mem.next)) (p:=⟨w19.heap.size,2,none⟩) (ne_bD_bH.out) (.slice v_fk me.stks.length v_fkc)) (p:=⟨w19.heap.size,3,none⟩) (ne_bD_bH.out) (.slice v_fr me.run.length v_frc)) (p:=⟨w19.heap.size,4,none⟩) (ne_bD_bH.out) (.int .i64 me.tag)) (p:=⟨w19.heap.size,5,none⟩) (ne_bD_bH.out) (.int .i64 me.call))
  replace bC:=(Box.other (Box.other (Box.other (Box.other (Box.other (Box.other bC (p:=⟨w19.heap.size,0,none⟩) (ne_bD_bC.out) (.slice v_fa me.mem.al.length v_fac)) (p:=⟨w19.heap.size,1,none⟩) (ne_bD_bC.out) (.int .i64 me.mem.next)) (p:=⟨w19.heap.size,2,none⟩) (ne_bD_bC.out) (.slice v_fk me.stks.length v_fkc)) (p:=⟨w19.heap.size,3,none⟩) (ne_bD_bC.out) (.slice v_fr me.run.length v_frc)) (p:=⟨w19.heap.size,4,none⟩) (ne_bD_bC.out) (.int .i64 me.tag)) (p:=⟨w19.heap.size,5,none⟩) (ne_bD_bC.out) (.int .i64 me.call))
  replace bD:=(Box.setL (Box.setL (Box.setL (Box.setL (Box.setL (Box.setL bD 0 (.slice v_fa me.mem.al.length v_fac)) 1 (.int .i64 me.mem.next)) 2 (.slice v_fk me.stks.length v_fkc)) 3 (.slice v_fr me.run.length v_frc)) 4 (.int .i64 me.tag)) 5 (.int .i64 me.call))
  simp only [List.set_cons_zero,List.set_cons_succ] at bD
  obtain ⟨w26s,hw26⟩ : ∃ z,(World.setCell (World.setCell (World.setCell (World.setCell (World.setCell (World.setCell w25 ⟨w19.heap.size,0,none⟩ (.slice v_fa me.mem.al.length v_fac)) ⟨w19.heap.size,1,none⟩ (.int .i64 me.mem.next)) ⟨w19.heap.size,2,none⟩ (.slice v_fk me.stks.length v_fkc)) ⟨w19.heap.size,3,none⟩ (.slice v_fr me.run.length v_frc)) ⟨w19.heap.size,4,none⟩ (.int .i64 me.tag)) ⟨w19.heap.size,5,none⟩ (.int .i64 me.call))=z:=⟨_,rfl⟩
  rw [hw26] at hS26 bM bH bC bD ⊢
  clear hw26
  have hF26:=ExtBut.ext hF25 hS26 (fun b h=>by rcases h with h | h | h;(rw [h];exact lowbC.out);(rw [h];exact lowbD.out);exact h.elim)
  replace Gh:=Lib.hid (Fq.but Gh.out hS26 (fun b h _ h2=>by rcases h2 with h2 | h2 | h2;exact h.1 h2;exact h.2.1 h2;exact h2))
  replace Ge:=Lib.hid (Fq.but Ge.out hS26 (fun b h _ h2=>by rcases h2 with h2 | h2 | h2;exact h.1 h2;exact h.2.1 h2;exact h2))
  replace Gf:=Lib.hid (Fq.but Gf.out hS26 (fun b h _ h2=>by rcases h2 with h2 | h2 | h2;exact h.1 h2;exact h.2.1 h2;exact h2))
  clear hS26
  obtain ⟨bC_0,bC_1,bC_2,bC_3,bC_4,bC_5,bC_l⟩:=bC.c6
  obtain ⟨bD_0,bD_1,bD_2,bD_3,bD_4,bD_5,bD_l⟩:=bD.c6
  go_wp2_with fail
  clear bC_0 bC_1 bC_2 bC_3 bC_4 bC_5 bC_l bD_0 bD_1 bD_2 bD_3 bD_4 bD_5 bD_l
  have ltbC:=Lib.hid bC.lt
  have ltbD:=Lib.hid bD.lt
  refine (ref35_Same (rd_parts Ge.out.read) (rd_parts Gf.out.read)).mono ?_
  rintro e w27 ⟨rfl,hE27⟩
  replace bM:=bM.ext hE27
  replace bH:=bH.ext hE27
  replace bC:=bC.ext hE27
  replace bD:=bD.ext hE27
  replace Gh:=Lib.hid (Fq.ext Gh.out hE27)
  replace Ge:=Lib.hid (Fq.ext Ge.out hE27)
  replace Gf:=Lib.hid (Fq.ext Gf.out hE27)
  have hF27:=Ext.trans hF26 hE27
  clear ltbC ltbD
  clear Ge
  clear Gf
  clear bC
  clear bD
  replace Gh:=Lib.hid (Fq.mono (S':=fun _=>True) Gh.out (fun _ _ _=>trivial))
  obtain ⟨⟨mu,yu,eu⟩,hed⟩ : ∃ z,endM m number=z:=⟨_,rfl⟩
  replace hed:=Lib.hid hed
  obtain ⟨bM_0,bM_1,bM_2,bM_3,bM_4,bM_5,bM_l⟩:=bM.c6
  go_wp2_with fail
  clear bM_0 bM_1 bM_2 bM_3 bM_4 bM_5 bM_l
  refine (monitor_End number (hA.out.ext hF27) hn.out (hK.out.ext hF27) (hR.out.ext hF27)).mono ?_
  rintro e w28 ⟨vt,rfl,fM,hE28⟩
  replace bM:=bM.ext hE28
  replace bH:=bH.ext hE28
  replace Gh:=Lib.hid (Fq.ext Gh.out hE28)
  have hF28:=Ext.trans hF27 hE28
  rw [hed.out] at fM ⊢
  try dsimp only at fM ⊢
  obtain ⟨usa,uss,usr,rfl,qu⟩:=FrMon.parts fM
  clear fM
  obtain ⟨v_ua,v_uac,rfl,-⟩:=(qu.read).1.form
  obtain ⟨v_uk,v_ukc,rfl,-⟩:=(qu.read).2.1.form
  obtain ⟨v_ur,v_urc,rfl,-⟩:=(qu.read).2.2.form
  try dsimp only at qu ⊢
  have Gu:=Lib.hid (Fq.mono (S':=(fun b=>True)) qu (fun b h1 _=>by exact trivial))
  clear qu
  obtain ⟨bH_0,bH_1,bH_2,bH_3,bH_4,bH_5,bH_l⟩:=bH.c6
  go_wp2_with fail
  clear bH_0 bH_1 bH_2 bH_3 bH_4 bH_5 bH_l
  have bU:=Box.new w28 28 #[.slice v_ua mu.mem.al.length v_uac,.int .i64 mu.mem.next,.slice v_uk mu.stks.length v_ukc,.slice v_ur mu.run.length v_urc,.int .i64 mu.tag,.int .i64 mu.call]
  have hza : (World.alloc w28 (.cells #[.slice v_ua mu.mem.al.length v_uac,.int .i64 mu.mem.next,.slice v_uk mu.stks.length v_ukc,.slice v_ur mu.run.length v_urc,.int .i64 mu.tag,.int .i64 mu.call] 28)).heap.size=w28.heap.size+1:=by rw [World.size_alloc]
  have hx29 : Ext w28 (World.alloc w28 (.cells #[.slice v_ua mu.mem.al.length v_uac,.int .i64 mu.mem.next,.slice v_uk mu.stks.length v_ukc,.slice v_ur mu.run.length v_urc,.int .i64 mu.tag,.int .i64 mu.call] 28)):=(Ext.refl _).alloc _
  obtain ⟨w29b,hw29⟩ : ∃ z,World.alloc w28 (.cells #[.slice v_ua mu.mem.al.length v_uac,.int .i64 mu.mem.next,.slice v_uk mu.stks.length v_ukc,.slice v_ur mu.run.length v_urc,.int .i64 mu.tag,.int .i64 mu.call] 28)=z:=⟨_,rfl⟩
  rw [hw29] at bU hx29 hza ⊢
  clear hw29
  have hzb0:=hza
  clear hza
  replace bM:=bM.ext hx29
  replace bH:=bH.ext hx29
  replace Gh:=Lib.hid (Fq.ext Gh.out hx29)
  replace Gu:=Lib.hid (Fq.ext Gu.out hx29)
  have hF30:=Ext.trans hF28 hx29
  clear hzb0
  refine (ref35_End number Gh.out.read.1 hn.out Gh.out.read.2.1 Gh.out.read.2.2).mono ?_
  rintro e w31 ⟨vt,rfl,fM,hE31⟩
  replace bM:=bM.ext hE31
  replace bH:=bH.ext hE31
  replace bU:=bU.ext hE31
  replace Gh:=Lib.hid (Fq.ext Gh.out hE31)
  replace Gu:=Lib.hid (Fq.ext Gu.out hE31)
  have hF31:=Ext.trans hF30 hE31
  rw [hed.out] at fM ⊢
  try dsimp only at fM ⊢
  obtain ⟨vsa,vss,vsr,rfl,qv⟩:=FrMon.parts fM
  clear fM
  obtain ⟨v_va,v_vac,rfl,-⟩:=(qv.read).1.form
  obtain ⟨v_vk,v_vkc,rfl,-⟩:=(qv.read).2.1.form
  obtain ⟨v_vr,v_vrc,rfl,-⟩:=(qv.read).2.2.form
  try dsimp only at qv ⊢
  have Gv:=Lib.hid (Fq.mono (S':=(fun b=>True)) qv (fun b h1 _=>by exact trivial))
  clear qv
  obtain ⟨⟨my,ey⟩,hfg⟩ : ∃ z,forgetM m=z:=⟨_,rfl⟩
  replace hfg:=Lib.hid hfg
  obtain ⟨bM_0,bM_1,bM_2,bM_3,bM_4,bM_5,bM_l⟩:=bM.c6
  go_wp2_with fail
  clear bM_0 bM_1 bM_2 bM_3 bM_4 bM_5 bM_l
  have bV:=Box.new w31 28 #[.slice v_va mu.mem.al.length v_vac,.int .i64 mu.mem.next,.slice v_vk mu.stks.length v_vkc,.slice v_vr mu.run.length v_vrc,.int .i64 mu.tag,.int .i64 mu.call]
  have hza : (World.alloc w31 (.cells #[.slice v_va mu.mem.al.length v_vac,.int .i64 mu.mem.next,.slice v_vk mu.stks.length v_vkc,.slice v_vr mu.run.length v_vrc,.int .i64 mu.tag,.int .i64 mu.call] 28)).heap.size=w31.heap.size+1:=by rw [World.size_alloc]
  have hx32 : Ext w31 (World.alloc w31 (.cells #[.slice v_va mu.mem.al.length v_vac,.int .i64 mu.mem.next,.slice v_vk mu.stks.length v_vkc,.slice v_vr mu.run.length v_vrc,.int .i64 mu.tag,.int .i64 mu.call] 28)):=(Ext.refl _).alloc _
  obtain ⟨w32b,hw32⟩ : ∃ z,World.alloc w31 (.cells #[.slice v_va mu.mem.al.length v_vac,.int .i64 mu.mem.next,.slice v_vk mu.stks.length v_vkc,.slice v_vr mu.run.length v_vrc,.int .i64 mu.tag,.int .i64 mu.call] 28)=z:=⟨_,rfl⟩
  rw [hw32] at bV hx32 hza ⊢
  clear hw32
  have hzb0:=hza
  clear hza
  replace bM:=bM.ext hx32
  replace bH:=bH.ext hx32
  replace bU:=bU.ext hx32
  replace Gh:=Lib.hid (Fq.ext Gh.out hx32)
  replace Gu:=Lib.hid (Fq.ext Gu.out hx32)
  replace Gv:=Lib.hid (Fq.ext Gv.out hx32)
  have hF33:=Ext.trans hF31 hx32
  clear hzb0
  refine (monitor_Forget (hA.out.ext hF33) hn.out (hK.out.ext hF33) (hR.out.ext hF33)).mono ?_
  rintro e w34 ⟨vt,rfl,fM,hE34⟩
  replace bM:=bM.ext hE34
  replace bH:=bH.ext hE34
  replace bU:=bU.ext hE34
  replace bV:=bV.ext hE34
  replace Gh:=Lib.hid (Fq.ext Gh.out hE34)
  replace Gu:=Lib.hid (Fq.ext Gu.out hE34)
  replace Gv:=Lib.hid (Fq.ext Gv.out hE34)
  have hF34:=Ext.trans hF33 hE34
  rw [hfg.out] at fM ⊢
  try dsimp only at fM ⊢
  obtain ⟨ysa,yss,ysr,rfl,qy⟩:=FrMon.parts fM
  clear fM
  obtain ⟨v_ya,v_yac,rfl,-⟩:=(qy.read).1.form
  obtain ⟨v_yk,v_ykc,rfl,-⟩:=(qy.read).2.1.form
  obtain ⟨v_yr,v_yrc,rfl,-⟩:=(qy.read).2.2.form
  try dsimp only at qy ⊢
  have Gy:=Lib.hid (Fq.mono (S':=(fun b=>True)) qy (fun b h1 _=>by exact trivial))
  clear qy
  obtain ⟨bH_0,bH_1,bH_2,bH_3,bH_4,bH_5,bH_l⟩:=bH.c6
  go_wp2_with fail
  clear bH_0 bH_1 bH_2 bH_3 bH_4 bH_5 bH_l
  have bY:=Box.new w34 28 #[.slice v_ya my.mem.al.length v_yac,.int .i64 my.mem.next,.slice v_yk my.stks.length v_ykc,.slice v_yr my.run.length v_yrc,.int .i64 my.tag,.int .i64 my.call]
  have hza : (World.alloc w34 (.cells #[.slice v_ya my.mem.al.length v_yac,.int .i64 my.mem.next,.slice v_yk my.stks.length v_ykc,.slice v_yr my.run.length v_yrc,.int .i64 my.tag,.int .i64 my.call] 28)).heap.size=w34.heap.size+1:=by rw [World.size_alloc]
  have hx35 : Ext w34 (World.alloc w34 (.cells #[.slice v_ya my.mem.al.length v_yac,.int .i64 my.mem.next,.slice v_yk my.stks.length v_ykc,.slice v_yr my.run.length v_yrc,.int .i64 my.tag,.int .i64 my.call] 28)):=(Ext.refl _).alloc _
  obtain ⟨w35b,hw35⟩ : ∃ z,World.alloc w34 (.cells #[.slice v_ya my.mem.al.length v_yac,.int .i64 my.mem.next,.slice v_yk my.stks.length v_ykc,.slice v_yr my.run.length v_yrc,.int .i64 my.tag,.int .i64 my.call] 28)=z:=⟨_,rfl⟩
  rw [hw35] at bY hx35 hza ⊢
  clear hw35
  have hzb0:=hza
  clear hza
  replace bM:=bM.ext hx35
  replace bH:=bH.ext hx35
  replace bU:=bU.ext hx35
  replace bV:=bV.ext hx35
  replace Gh:=Lib.hid (Fq.ext Gh.out hx35)
  replace Gu:=Lib.hid (Fq.ext Gu.out hx35)
  replace Gv:=Lib.hid (Fq.ext Gv.out hx35)
  replace Gy:=Lib.hid (Fq.ext Gy.out hx35)
  have hF36:=Ext.trans hF34 hx35
  clear hzb0
  refine (ref35_Forget Gh.out.read.1 hn.out Gh.out.read.2.1 Gh.out.read.2.2).mono ?_
  rintro e w37 ⟨vt,rfl,fM,hE37⟩
  replace bM:=bM.ext hE37
  replace bH:=bH.ext hE37
  replace bU:=bU.ext hE37
  replace bV:=bV.ext hE37
  replace bY:=bY.ext hE37
  replace Gh:=Lib.hid (Fq.ext Gh.out hE37)
  replace Gu:=Lib.hid (Fq.ext Gu.out hE37)
  replace Gv:=Lib.hid (Fq.ext Gv.out hE37)
  replace Gy:=Lib.hid (Fq.ext Gy.out hE37)
  have hF37:=Ext.trans hF36 hE37
  rw [hfg.out] at fM ⊢
  try dsimp only at fM ⊢
  obtain ⟨zsa,zss,zsr,rfl,qz⟩:=FrMon.parts fM
  clear fM
  obtain ⟨v_za,v_zac,rfl,-⟩:=(qz.read).1.form
  obtain ⟨v_zk,v_zkc,rfl,-⟩:=(qz.read).2.1.form
  obtain ⟨v_zr,v_zrc,rfl,-⟩:=(qz.read).2.2.form
  try dsimp only at qz ⊢
  have Gz:=Lib.hid (Fq.mono (S':=(fun b=>True)) qz (fun b h1 _=>by exact trivial))
  clear qz
  obtain ⟨bU_0,bU_1,bU_2,bU_3,bU_4,bU_5,bU_l⟩:=bU.c6
  obtain ⟨bV_0,bV_1,bV_2,bV_3,bV_4,bV_5,bV_l⟩:=bV.c6
  go_wp2_with fail
  clear bU_0 bU_1 bU_2 bU_3 bU_4 bU_5 bU_l bV_0 bV_1 bV_2 bV_3 bV_4 bV_5 bV_l
  have bZ:=Box.new w37 28 #[.slice v_za my.mem.al.length v_zac,.int .i64 my.mem.next,.slice v_zk my.stks.length v_zkc,.slice v_zr my.run.length v_zrc,.int .i64 my.tag,.int .i64 my.call]
  have hza : (World.alloc w37 (.cells #[.slice v_za my.mem.al.length v_zac,.int .i64 my.mem.next,.slice v_zk my.stks.length v_zkc,.slice v_zr my.run.length v_zrc,.int .i64 my.tag,.int .i64 my.call] 28)).heap.size=w37.heap.size+1:=by rw [World.size_alloc]
  have hx38 : Ext w37 (World.alloc w37 (.cells #[.slice v_za my.mem.al.length v_zac,.int .i64 my.mem.next,.slice v_zk my.stks.length v_zkc,.slice v_zr my.run.length v_zrc,.int .i64 my.tag,.int .i64 my.call] 28)):=(Ext.refl _).alloc _
  obtain ⟨w38b,hw38⟩ : ∃ z,World.alloc w37 (.cells #[.slice v_za my.mem.al.length v_zac,.int .i64 my.mem.next,.slice v_zk my.stks.length v_zkc,.slice v_zr my.run.length v_zrc,.int .i64 my.tag,.int .i64 my.call] 28)=z:=⟨_,rfl⟩
  rw [hw38] at bZ hx38 hza ⊢
  clear hw38
  have hzb0:=hza
  clear hza
  replace bM:=bM.ext hx38
  replace bH:=bH.ext hx38
  replace bU:=bU.ext hx38
  replace bV:=bV.ext hx38
  replace bY:=bY.ext hx38
  replace Gh:=Lib.hid (Fq.ext Gh.out hx38)
  replace Gu:=Lib.hid (Fq.ext Gu.out hx38)
  replace Gv:=Lib.hid (Fq.ext Gv.out hx38)
  replace Gy:=Lib.hid (Fq.ext Gy.out hx38)
  replace Gz:=Lib.hid (Fq.ext Gz.out hx38)
  have hF39:=Ext.trans hF37 hx38
  clear hzb0
  refine (ref35_Same (rd_parts Gu.out.read) (rd_parts Gv.out.read)).mono ?_
  rintro e w40 ⟨rfl,hE40⟩
  replace bM:=bM.ext hE40
  replace bH:=bH.ext hE40
  replace bU:=bU.ext hE40
  replace bV:=bV.ext hE40
  replace bY:=bY.ext hE40
  replace bZ:=bZ.ext hE40
  replace Gh:=Lib.hid (Fq.ext Gh.out hE40)
  replace Gu:=Lib.hid (Fq.ext Gu.out hE40)
  replace Gv:=Lib.hid (Fq.ext Gv.out hE40)
  replace Gy:=Lib.hid (Fq.ext Gy.out hE40)
  replace Gz:=Lib.hid (Fq.ext Gz.out hE40)
  have hF40:=Ext.trans hF39 hE40
  obtain ⟨bY_0,bY_1,bY_2,bY_3,bY_4,bY_5,bY_l⟩:=bY.c6
  obtain ⟨bZ_0,bZ_1,bZ_2,bZ_3,bZ_4,bZ_5,bZ_l⟩:=bZ.c6
  go_wp2_with fail
  clear bY_0 bY_1 bY_2 bY_3 bY_4 bY_5 bY_l bZ_0 bZ_1 bZ_2 bZ_3 bZ_4 bZ_5 bZ_l
  refine (ref35_Same (rd_parts Gy.out.read) (rd_parts Gz.out.read)).mono ?_
  rintro e w41 ⟨rfl,hE41⟩
  replace bM:=bM.ext hE41
  replace bH:=bH.ext hE41
  replace bU:=bU.ext hE41
  replace bV:=bV.ext hE41
  replace bY:=bY.ext hE41
  replace bZ:=bZ.ext hE41
  replace Gh:=Lib.hid (Fq.ext Gh.out hE41)
  replace Gu:=Lib.hid (Fq.ext Gu.out hE41)
  replace Gv:=Lib.hid (Fq.ext Gv.out hE41)
  replace Gy:=Lib.hid (Fq.ext Gy.out hE41)
  replace Gz:=Lib.hid (Fq.ext Gz.out hE41)
  have hF41:=Ext.trans hF40 hE41
  obtain ⟨bM_0,bM_1,bM_2,bM_3,bM_4,bM_5,bM_l⟩:=bM.c6
  obtain ⟨bH_0,bH_1,bH_2,bH_3,bH_4,bH_5,bH_l⟩:=bH.c6
  go_wp2_with fail
  clear bM_0 bM_1 bM_2 bM_3 bM_4 bM_5 bM_l bH_0 bH_1 bH_2 bH_3 bH_4 bH_5 bH_l
  refine (ref35_Same (rd_m (hA.out.ext hF41) (hK.out.ext hF41) (hR.out.ext hF41)) (rd_parts Gh.out.read)).mono ?_
  rintro e w42 ⟨rfl,hE42⟩
  replace bM:=bM.ext hE42
  replace bH:=bH.ext hE42
  replace bU:=bU.ext hE42
  replace bV:=bV.ext hE42
  replace bY:=bY.ext hE42
  replace bZ:=bZ.ext hE42
  replace Gh:=Lib.hid (Fq.ext Gh.out hE42)
  replace Gu:=Lib.hid (Fq.ext Gu.out hE42)
  replace Gv:=Lib.hid (Fq.ext Gv.out hE42)
  replace Gy:=Lib.hid (Fq.ext Gy.out hE42)
  replace Gz:=Lib.hid (Fq.ext Gz.out hE42)
  have hF42:=Ext.trans hF41 hE42
  go_wp2
  go_ret
  exact ⟨rfl,hF42⟩
set_option maxRecDepth 100000 in
theorem monitorLives_lifted (os : Os) (started : os.Started) (H : Type) (enc : TypeId × Value→H) :
  ReturnsInHanded {} Try.checked os 3 .any (Rows.monitorLivesSpec.pre6 enc Try.prog Try.f3 Rows.monitorLivesRow.domain false) (Rows.monitorLivesSpec.post enc Try.prog Try.f3 false true false false):=by
 refine returnsInHanded_of_change (C:=Try.checked) Tryown started (by kernel_rfl) Try.func3
  (ChangeSpec.witness6 (enc:=enc) (C:=Try.checked) false ⟨#[],#[.agg #[.slice none 0 0,.int .i64 0,.slice none 0 0,.slice none 0 0,.int .i64 0,.int .i64 0],.int .i64 0,.int .i64 0],[]⟩ 8 (by kernel_rfl) (by kernel_rfl) (by kernel_rfl) (by kernel_rfl)) ?_
 intro W base args ds gs before hval0 hW _ _
 have hval : ∀ (j : Nat) t v,Try.f3.params[j]? = some t→args[j]? = some v→Value.okWide Try.prog W .any base t v:=hval0
 have hW':=hW
 obtain ⟨p,q,hA0,hV,rfl,hfz,hnd⟩:=hW
 have hA : DataW.TrodAll enc Try.prog W 0 (fun _=>true) true Try.f3.params.toList args.toList ds p:=hA0
 rw [Try.params3] at hA hval
 obtain ⟨v0,vs0,d0,ds0,p0,q0,hargs,rfl,rfl,h0,r0⟩:=trodAll_cons hA
 obtain ⟨v1,vs1,d1,ds1,p1,q1,rfl,rfl,rfl,h1,r1⟩:=trodAll_cons r0
 obtain ⟨v2,vs2,d2,ds2,p2,q2,rfl,rfl,rfl,h2,r2⟩:=trodAll_cons r1
 obtain ⟨rfl,rfl,rfl⟩:=trodAll_nil r2
 obtain rfl : args=#[v0,v1,v2]:=by cases args;simp_all
 obtain ⟨x0,k0,wf0⟩:=open_mon (hval 0 28 v0 rfl rfl) h0
 obtain ⟨x1,rfl,rfl,rfl,wf1⟩:=open_int Try.underlying3 (hval 1 3 v1 rfl rfl) h1
 obtain ⟨x2,rfl,rfl,rfl,wf2⟩:=open_int Try.underlying3 (hval 2 3 v2 rfl rfl) h2
 refine (monitorLives_walk x1 x2 k0 wf0.1).mono fun e W' ⟨he,hb⟩ => ?_
 subst he
 exact ⟨_,rfl,post_law TrylaidOut (tb:=4) rfl Try.underlying4 (by kernel_rfl) rfl (fun ds hd=>match ds,hd with | [a0,a1,a2],_=>rfl) hW' hb⟩
theorem monitorLives_holds : Rows.MonitorLivesSaid :=
 OpenClaim.holds_of_wide 3 Try.f3 rfl rfl rfl rfl rfl rfl rfl ⟨rfl,rfl,rfl,rfl,rfl⟩ rfl rfl rfl rfl rfl (by kernel_rfl) Try.func3 (by kernel_rfl)
  (of_decide_eq_true (by kernel_rfl)) (by unfold Func.isWrapper;first | (rw [if_pos (by decide +kernel)];kernel_rfl) | (rw [if_neg (by decide +kernel)];exact ⟨rfl,rfl⟩))
  (fun os started H enc _=>monitorLives_lifted os started H enc)
end Go.Proofs.Ytnplphcnagooeaa
