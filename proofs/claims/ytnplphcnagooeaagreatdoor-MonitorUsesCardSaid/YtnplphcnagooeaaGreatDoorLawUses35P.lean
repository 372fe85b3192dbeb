/- MonitorUses: Load, Store and Retag of layer 35 return what the reference returns, and leave the monitor as it is. No condition. (printed by gen/law35b.py) -/
import Derived.Test.YtnplphcnagooeaaGreatDoorQ10
import Derived.Test.YtnplphcnagooeaaGreatDoorQ16
import Derived.Test.YtnplphcnagooeaaGreatDoorQ17
import Derived.Test.YtnplphcnagooeaaGreatDoorQ21
import Derived.Test.YtnplphcnagooeaaGreatDoorQ22
import Derived.Test.YtnplphcnagooeaaGreatDoorQ23
import Derived.Test.YtnplphcnagooeaaGreatDoorQ02
import Derived.Test.YtnplphcnagooeaaGreatDoorQ09
namespace Go.Proofs.YtnplphcnagooeaaGreatDoor
set_option maxRecDepth 100000
open Go.ChangeShapes Go.WideShapes Go.ChangeAt Go.RowKit
set_option maxRecDepth 100000 in
set_option maxHeartbeats 12800000 in
theorem monitorUses_walk {m : Mon} {vm vl : Value} {l : List Cell} {wS : World} (hp : Perms wS) {kind : Int} (hkb : u8B kind) (p : Ptr) (n call : Int) (hm : RdMon wS vm m) (hn : i64B m.mem.next) (hl : Cls wS vl l) :
  Calls Tryz.prog 3 #[vm,p.val,.int .i64 n,vl,.int .u8 kind,.int .i64 call] wS fun e w'=>e = .returned (.bool true)∧Ext wS w':=by
 obtain ⟨pa,po,pt⟩:=p
 unfold Ptr.val
 dsimp only
 obtain ⟨sa,ss,sr,rfl,hA,hK,hR⟩:=hm
 obtain ⟨aa,ac,rfl,hac,hacm,-⟩:=hA.form
 obtain ⟨ka,kc,rfl,hkc,hkcm,-⟩:=hK.form
 obtain ⟨ra,rc,rfl,hrc,hrcm,-⟩:=hR.form
 unfold maxLen at hacm hkcm hrcm
 have hE0 : Ext wS (World.alloc (World.alloc wS (.cells #[.slice aa m.mem.al.length ac,.int .i64 m.mem.next,.slice ka m.stks.length kc,.slice ra m.run.length rc,.int .i64 m.tag,.int .i64 m.call] 28)) (.cells #[.int .i64 pa,.int .i64 po,.int .i64 pt] 30)):=by repeat (first | exact Ext.refl _ | refine Ext.alloc ?_ _)
 have bM : Box (World.alloc (World.alloc wS (.cells #[.slice aa m.mem.al.length ac,.int .i64 m.mem.next,.slice ka m.stks.length kc,.slice ra m.run.length rc,.int .i64 m.tag,.int .i64 m.call] 28)) (.cells #[.int .i64 pa,.int .i64 po,.int .i64 pt] 30)) (wS.heap.size) 28 #[.slice aa m.mem.al.length ac,.int .i64 m.mem.next,.slice ka m.stks.length kc,.slice ra m.run.length rc,.int .i64 m.tag,.int .i64 m.call]:=(by
  have h:=Box.new wS 28 #[.slice aa m.mem.al.length ac,.int .i64 m.mem.next,.slice ka m.stks.length kc,.slice ra m.run.length rc,.int .i64 m.tag,.int .i64 m.call]
  replace h:=Box.ext h ((Ext.refl _).alloc (.cells #[.int .i64 pa,.int .i64 po,.int .i64 pt] 30))
  exact h)
 have bP : Box (World.alloc (World.alloc wS (.cells #[.slice aa m.mem.al.length ac,.int .i64 m.mem.next,.slice ka m.stks.length kc,.slice ra m.run.length rc,.int .i64 m.tag,.int .i64 m.call] 28)) (.cells #[.int .i64 pa,.int .i64 po,.int .i64 pt] 30)) (wS.heap.size+1) 30 #[.int .i64 pa,.int .i64 po,.int .i64 pt]:=(by
  have h:=Box.new (World.alloc wS (.cells #[.slice aa m.mem.al.length ac,.int .i64 m.mem.next,.slice ka m.stks.length kc,.slice ra m.run.length rc,.int .i64 m.tag,.int .i64 m.call] 28)) 30 #[.int .i64 pa,.int .i64 po,.int .i64 pt]
  simp only [World.size_alloc] at h
  exact h)
 obtain ⟨w0,hw0⟩ : ∃ z,(World.alloc (World.alloc wS (.cells #[.slice aa m.mem.al.length ac,.int .i64 m.mem.next,.slice ka m.stks.length kc,.slice ra m.run.length rc,.int .i64 m.tag,.int .i64 m.call] 28)) (.cells #[.int .i64 pa,.int .i64 po,.int .i64 pt] 30))=z:=⟨_,rfl⟩
 rw [hw0] at hE0 bM bP
 replace hA:=Lib.hid hA;replace hK:=Lib.hid hK;replace hR:=Lib.hid hR;replace hn:=Lib.hid hn
 obtain ⟨lla,llc,rfl,hlc,hlm,-⟩:=hl.form
 unfold maxLen at hlm
 replace hl:=Lib.hid hl;replace hp:=Lib.hid hp;replace hkb:=Lib.hid hkb
 go_enter Tryz.func3,Tryz.ntmps3
 obtain ⟨bM_0,bM_1,bM_2,bM_3,bM_4,bM_5,bM_l⟩:=bM.c6
 go_wp2_with fail
 try rw [hw0]
 clear hw0
 clear bM_0 bM_1 bM_2 bM_3 bM_4 bM_5 bM_l
 refine (ref35_Great (hA.out.ext hE0) (hK.out.ext hE0) (hR.out.ext hE0)).mono ?_
 rintro e w1 ⟨bg,rfl,hng,hE1⟩
 replace bM:=bM.ext hE1
 replace bP:=bP.ext hE1
 have hF1:=Ext.trans hE0 hE1
 cases bg
 rotate_left
 ·skip
  obtain ⟨bM_0,bM_1,bM_2,bM_3,bM_4,bM_5,bM_l⟩:=bM.c6
  go_wp2
  go_ret
  exact ⟨rfl,hF1⟩
 have hcl:=Lib.hid (notGreat.small (hng rfl))
 clear hng
 by_cases h5 : 5 < l.length
 ·skip
  have q5 : decide (5 < l.length)=true:=decide_eq_true h5;have q6 : decide ((5 : Int) < (l.length : Int))=true:=decide_eq_true (by omega)
  clear h5
  obtain ⟨bM_0,bM_1,bM_2,bM_3,bM_4,bM_5,bM_l⟩:=bM.c6
  go_wp2
  go_ret
  exact ⟨rfl,hF1⟩
 have q5 : decide (5 < l.length)=false:=decide_eq_false h5;have q6 : decide ((5 : Int) < (l.length : Int))=false:=decide_eq_false (by omega)
 clear h5
 obtain ⟨bM_0,bM_1,bM_2,bM_3,bM_4,bM_5,bM_l⟩:=bM.c6
 obtain ⟨bP_0,bP_1,bP_2,bP_l⟩:=bP.c3
 go_wp2_with fail
 clear bM_0 bM_1 bM_2 bM_3 bM_4 bM_5 bM_l bP_0 bP_1 bP_2 bP_l
 refine ((ref35_TwinG (hA.out.ext hF1) (hK.out.ext hF1) (hR.out.ext hF1) hcl.out.1 hcl.out.2.1 hcl.out.2.2).mono fun _ _ h=>RetTw.mon h).mono ?_
 rintro e w2 ⟨vt,rfl,fM,hE2⟩
 replace bM:=bM.ext hE2
 replace bP:=bP.ext hE2
 have hF2:=Ext.trans hF1 hE2
 obtain ⟨hsa,hss,hsr,rfl,qh⟩:=FrMon.parts fM
 clear fM
 obtain ⟨v_ha,v_hac,rfl,-⟩:=(qh.read).1.form
 obtain ⟨v_hk,v_hkc,rfl,-⟩:=(qh.read).2.1.form
 obtain ⟨v_hr,v_hrc,rfl,-⟩:=(qh.read).2.2.form
 try dsimp only at qh ⊢
 have Gh:=Lib.hid (Fq.mono (S':=(fun b=>True)) qh (fun b h1 _=>by exact trivial))
 clear qh
 clear q5 q6
 obtain ⟨⟨ma,ll,un,ea⟩,hlo⟩ : ∃ z,loadM m ⟨pa,po,pt⟩ n=z:=⟨_,rfl⟩
 replace hlo:=Lib.hid hlo
 obtain ⟨bM_0,bM_1,bM_2,bM_3,bM_4,bM_5,bM_l⟩:=bM.c6
 obtain ⟨bP_0,bP_1,bP_2,bP_l⟩:=bP.c3
 go_wp2_with fail
 clear bM_0 bM_1 bM_2 bM_3 bM_4 bM_5 bM_l bP_0 bP_1 bP_2 bP_l
 have bH:=Box.new w2 28 #[.slice v_ha m.mem.al.length v_hac,.int .i64 m.mem.next,.slice v_hk m.stks.length v_hkc,.slice v_hr m.run.length v_hrc,.int .i64 m.tag,.int .i64 m.call]
 have hza : (World.alloc w2 (.cells #[.slice v_ha m.mem.al.length v_hac,.int .i64 m.mem.next,.slice v_hk m.stks.length v_hkc,.slice v_hr m.run.length v_hrc,.int .i64 m.tag,.int .i64 m.call] 28)).heap.size=w2.heap.size+1:=by rw [World.size_alloc]
 have hx3 : Ext w2 (World.alloc w2 (.cells #[.slice v_ha m.mem.al.length v_hac,.int .i64 m.mem.next,.slice v_hk m.stks.length v_hkc,.slice v_hr m.run.length v_hrc,.int .i64 m.tag,.int .i64 m.call] 28)):=(Ext.refl _).alloc _
 obtain ⟨w3b,hw3⟩ : ∃ z,World.alloc w2 (.cells #[.slice v_ha m.mem.al.length v_hac,.int .i64 m.mem.next,.slice v_hk m.stks.length v_hkc,.slice v_hr m.run.length v_hrc,.int .i64 m.tag,.int .i64 m.call] 28)=z:=⟨_,rfl⟩
 rw [hw3] at bH hx3 hza ⊢
 clear hw3
 have hzb0:=hza
 clear hza
 replace bM:=bM.ext hx3
 replace bP:=bP.ext hx3
 replace Gh:=Lib.hid (Fq.ext Gh.out hx3)
 have hF4:=Ext.trans hF2 hx3
 clear hzb0
 refine (monitor_Load pa po pt n (hA.out.ext hF4) hn.out (hK.out.ext hF4) (hR.out.ext hF4)).mono ?_
 rintro e w5 ⟨vt,vl,rfl,fM,fL,hE5⟩
 replace bM:=bM.ext hE5
 replace bP:=bP.ext hE5
 replace bH:=bH.ext hE5
 replace Gh:=Lib.hid (Fq.ext Gh.out hE5)
 have hF5:=Ext.trans hF4 hE5
 rw [hlo.out] at fM fL ⊢
 try dsimp only at fM fL ⊢
 obtain ⟨asa,ass,asr,rfl,qa⟩:=FrMon.parts fM
 clear fM
 obtain ⟨v_aa,v_aac,rfl,-⟩:=(qa.read).1.form
 obtain ⟨v_ak,v_akc,rfl,-⟩:=(qa.read).2.1.form
 obtain ⟨v_ar,v_arc,rfl,-⟩:=(qa.read).2.2.form
 try dsimp only at qa ⊢
 obtain ⟨lax,lac,rfl,-⟩:=fL.read.form
 have Ga:=Lib.hid (Fq.mono (S':=(fun b=>True)) qa (fun b h1 _=>by exact trivial))
 clear qa
 have Gla:=Lib.hid (Fq.mono (S':=(fun b=>True)) fL (fun b h1 _=>trivial))
 clear fL
 obtain ⟨bP_0,bP_1,bP_2,bP_l⟩:=bP.c3
 obtain ⟨bH_0,bH_1,bH_2,bH_3,bH_4,bH_5,bH_l⟩:=bH.c6
 go_wp2_with fail
 clear bP_0 bP_1 bP_2 bP_l bH_0 bH_1 bH_2 bH_3 bH_4 bH_5 bH_l
 have bA:=Box.new w5 28 #[.slice v_aa ma.mem.al.length v_aac,.int .i64 ma.mem.next,.slice v_ak ma.stks.length v_akc,.slice v_ar ma.run.length v_arc,.int .i64 ma.tag,.int .i64 ma.call]
 have hza : (World.alloc w5 (.cells #[.slice v_aa ma.mem.al.length v_aac,.int .i64 ma.mem.next,.slice v_ak ma.stks.length v_akc,.slice v_ar ma.run.length v_arc,.int .i64 ma.tag,.int .i64 ma.call] 28)).heap.size=w5.heap.size+1:=by rw [World.size_alloc]
 have hx6 : Ext w5 (World.alloc w5 (.cells #[.slice v_aa ma.mem.al.length v_aac,.int .i64 ma.mem.next,.slice v_ak ma.stks.length v_akc,.slice v_ar ma.run.length v_arc,.int .i64 ma.tag,.int .i64 ma.call] 28)):=(Ext.refl _).alloc _
 obtain ⟨w6b,hw6⟩ : ∃ z,World.alloc w5 (.cells #[.slice v_aa ma.mem.al.length v_aac,.int .i64 ma.mem.next,.slice v_ak ma.stks.length v_akc,.slice v_ar ma.run.length v_arc,.int .i64 ma.tag,.int .i64 ma.call] 28)=z:=⟨_,rfl⟩
 rw [hw6] at bA hx6 hza ⊢
 clear hw6
 have hzb0:=hza
 clear hza
 replace bM:=bM.ext hx6
 replace bP:=bP.ext hx6
 replace bH:=bH.ext hx6
 replace Gh:=Lib.hid (Fq.ext Gh.out hx6)
 replace Ga:=Lib.hid (Fq.ext Ga.out hx6)
 replace Gla:=Lib.hid (Fq.ext Gla.out hx6)
 have hF7:=Ext.trans hF5 hx6
 clear hzb0
 refine (ref35_Load pa po pt n Gh.out.read.1 hn.out Gh.out.read.2.1 Gh.out.read.2.2).mono ?_
 rintro e w8 ⟨vt,vl,rfl,fM,fL,hE8⟩
 replace bM:=bM.ext hE8
 replace bP:=bP.ext hE8
 replace bH:=bH.ext hE8
 replace bA:=bA.ext hE8
 replace Gh:=Lib.hid (Fq.ext Gh.out hE8)
 replace Ga:=Lib.hid (Fq.ext Ga.out hE8)
 replace Gla:=Lib.hid (Fq.ext Gla.out hE8)
 have hF8:=Ext.trans hF7 hE8
 rw [hlo.out] at fM fL ⊢
 try dsimp only at fM fL ⊢
 obtain ⟨bsa,bss,bsr,rfl,qb⟩:=FrMon.parts fM
 clear fM
 obtain ⟨v_ba,v_bac,rfl,-⟩:=(qb.read).1.form
 obtain ⟨v_bk,v_bkc,rfl,-⟩:=(qb.read).2.1.form
 obtain ⟨v_br,v_brc,rfl,-⟩:=(qb.read).2.2.form
 try dsimp only at qb ⊢
 obtain ⟨lbx,lbc,rfl,-⟩:=fL.read.form
 have Gb:=Lib.hid (Fq.mono (S':=(fun b=>True)) qb (fun b h1 _=>by exact trivial))
 clear qb
 have Glb:=Lib.hid (Fq.mono (S':=(fun b=>True)) fL (fun b h1 _=>trivial))
 clear fL
 obtain ⟨⟨mc,uc,ec⟩,hst⟩ : ∃ z,storeM m ⟨pa,po,pt⟩ l=z:=⟨_,rfl⟩
 replace hst:=Lib.hid hst
 obtain ⟨bM_0,bM_1,bM_2,bM_3,bM_4,bM_5,bM_l⟩:=bM.c6
 obtain ⟨bP_0,bP_1,bP_2,bP_l⟩:=bP.c3
 go_wp2_with fail
 clear bM_0 bM_1 bM_2 bM_3 bM_4 bM_5 bM_l bP_0 bP_1 bP_2 bP_l
 have bB:=Box.new w8 28 #[.slice v_ba ma.mem.al.length v_bac,.int .i64 ma.mem.next,.slice v_bk ma.stks.length v_bkc,.slice v_br ma.run.length v_brc,.int .i64 ma.tag,.int .i64 ma.call]
 have hza : (World.alloc w8 (.cells #[.slice v_ba ma.mem.al.length v_bac,.int .i64 ma.mem.next,.slice v_bk ma.stks.length v_bkc,.slice v_br ma.run.length v_brc,.int .i64 ma.tag,.int .i64 ma.call] 28)).heap.size=w8.heap.size+1:=by rw [World.size_alloc]
 have hx9 : Ext w8 (World.alloc w8 (.cells #[.slice v_ba ma.mem.al.length v_bac,.int .i64 ma.mem.next,.slice v_bk ma.stks.length v_bkc,.slice v_br ma.run.length v_brc,.int .i64 ma.tag,.int .i64 ma.call] 28)):=(Ext.refl _).alloc _
 obtain ⟨w9b,hw9⟩ : ∃ z,World.alloc w8 (.cells #[.slice v_ba ma.mem.al.length v_bac,.int .i64 ma.mem.next,.slice v_bk ma.stks.length v_bkc,.slice v_br ma.run.length v_brc,.int .i64 ma.tag,.int .i64 ma.call] 28)=z:=⟨_,rfl⟩
 rw [hw9] at bB hx9 hza ⊢
 clear hw9
 have hzb0:=hza
 clear hza
 replace bM:=bM.ext hx9
 replace bP:=bP.ext hx9
 replace bH:=bH.ext hx9
 replace bA:=bA.ext hx9
 replace Gh:=Lib.hid (Fq.ext Gh.out hx9)
 replace Ga:=Lib.hid (Fq.ext Ga.out hx9)
 replace Gla:=Lib.hid (Fq.ext Gla.out hx9)
 replace Gb:=Lib.hid (Fq.ext Gb.out hx9)
 replace Glb:=Lib.hid (Fq.ext Glb.out hx9)
 have hF10:=Ext.trans hF8 hx9
 clear hzb0
 refine (monitor_Store pa po pt (hA.out.ext hF10) hn.out (hK.out.ext hF10) (hR.out.ext hF10) (hl.out.ext hF10)).mono ?_
 rintro e w11 ⟨vt,rfl,fM,hE11⟩
 replace bM:=bM.ext hE11
 replace bP:=bP.ext hE11
 replace bH:=bH.ext hE11
 replace bA:=bA.ext hE11
 replace bB:=bB.ext hE11
 replace Gh:=Lib.hid (Fq.ext Gh.out hE11)
 replace Ga:=Lib.hid (Fq.ext Ga.out hE11)
 replace Gla:=Lib.hid (Fq.ext Gla.out hE11)
 replace Gb:=Lib.hid (Fq.ext Gb.out hE11)
 replace Glb:=Lib.hid (Fq.ext Glb.out hE11)
 have hF11:=Ext.trans hF10 hE11
 rw [hst.out] at fM ⊢
 try dsimp only at fM ⊢
 obtain ⟨csa,css,csr,rfl,qc⟩:=FrMon.parts fM
 clear fM
 obtain ⟨v_ca,v_cac,rfl,-⟩:=(qc.read).1.form
 obtain ⟨v_ck,v_ckc,rfl,-⟩:=(qc.read).2.1.form
 obtain ⟨v_cr,v_crc,rfl,-⟩:=(qc.read).2.2.form
 try dsimp only at qc ⊢
 have Gc:=Lib.hid (Fq.mono (S':=(fun b=>True)) qc (fun b h1 _=>by exact trivial))
 clear qc
 obtain ⟨bP_0,bP_1,bP_2,bP_l⟩:=bP.c3
 obtain ⟨bH_0,bH_1,bH_2,bH_3,bH_4,bH_5,bH_l⟩:=bH.c6
 go_wp2_with fail
 clear bP_0 bP_1 bP_2 bP_l bH_0 bH_1 bH_2 bH_3 bH_4 bH_5 bH_l
 have bC:=Box.new w11 28 #[.slice v_ca mc.mem.al.length v_cac,.int .i64 mc.mem.next,.slice v_ck mc.stks.length v_ckc,.slice v_cr mc.run.length v_crc,.int .i64 mc.tag,.int .i64 mc.call]
 have hza : (World.alloc w11 (.cells #[.slice v_ca mc.mem.al.length v_cac,.int .i64 mc.mem.next,.slice v_ck mc.stks.length v_ckc,.slice v_cr mc.run.length v_crc,.int .i64 mc.tag,.int .i64 mc.call] 28)).heap.size=w11.heap.size+1:=by rw [World.size_alloc]
 have hx12 : Ext w11 (World.alloc w11 (.cells #[.slice v_ca mc.mem.al.length v_cac,.int .i64 mc.mem.next,.slice v_ck mc.stks.length v_ckc,.slice v_cr mc.run.length v_crc,.int .i64 mc.tag,.int .i64 mc.call] 28)):=(Ext.refl _).alloc _
 obtain ⟨w12b,hw12⟩ : ∃ z,World.alloc w11 (.cells #[.slice v_ca mc.mem.al.length v_cac,.int .i64 mc.mem.next,.slice v_ck mc.stks.length v_ckc,.slice v_cr mc.run.length v_crc,.int .i64 mc.tag,.int .i64 mc.call] 28)=z:=⟨_,rfl⟩
 rw [hw12] at bC hx12 hza ⊢
 clear hw12
 have hzb0:=hza
 clear hza
 replace bM:=bM.ext hx12
 replace bP:=bP.ext hx12
 replace bH:=bH.ext hx12
 replace bA:=bA.ext hx12
 replace bB:=bB.ext hx12
 replace Gh:=Lib.hid (Fq.ext Gh.out hx12)
 replace Ga:=Lib.hid (Fq.ext Ga.out hx12)
 replace Gla:=Lib.hid (Fq.ext Gla.out hx12)
 replace Gb:=Lib.hid (Fq.ext Gb.out hx12)
 replace Glb:=Lib.hid (Fq.ext Glb.out hx12)
 replace Gc:=Lib.hid (Fq.ext Gc.out hx12)
 have hF13:=Ext.trans hF11 hx12
 clear hzb0
 refine (ref35_Store pa po pt Gh.out.read.1 hn.out Gh.out.read.2.1 Gh.out.read.2.2 (hl.out.ext hF13)).mono ?_
 rintro e w14 ⟨vt,rfl,fM,hE14⟩
 replace bM:=bM.ext hE14
 replace bP:=bP.ext hE14
 replace bH:=bH.ext hE14
 replace bA:=bA.ext hE14
 replace bB:=bB.ext hE14
 replace bC:=bC.ext hE14
 replace Gh:=Lib.hid (Fq.ext Gh.out hE14)
 replace Ga:=Lib.hid (Fq.ext Ga.out hE14)
 replace Gla:=Lib.hid (Fq.ext Gla.out hE14)
 replace Gb:=Lib.hid (Fq.ext Gb.out hE14)
 replace Glb:=Lib.hid (Fq.ext Glb.out hE14)
 replace Gc:=Lib.hid (Fq.ext Gc.out hE14)
 have hF14:=Ext.trans hF13 hE14
 rw [hst.out] at fM ⊢
 try dsimp only at fM ⊢
 obtain ⟨dsa,dss,dsr,rfl,qd⟩:=FrMon.parts fM
 clear fM
 obtain ⟨v_da,v_dac,rfl,-⟩:=(qd.read).1.form
 obtain ⟨v_dk,v_dkc,rfl,-⟩:=(qd.read).2.1.form
 obtain ⟨v_dr,v_drc,rfl,-⟩:=(qd.read).2.2.form
 try dsimp only at qd ⊢
 have Gd:=Lib.hid (Fq.mono (S':=(fun b=>True)) qd (fun b h1 _=>by exact trivial))
 clear qd
 obtain ⟨⟨mq,pq,uq,eq⟩,hre⟩ : ∃ z,retagM m ⟨pa,po,pt⟩ n kind call=z:=⟨_,rfl⟩
 obtain ⟨pq1,pq2,pq3⟩:=pq
 replace hre:=Lib.hid hre
 obtain ⟨bM_0,bM_1,bM_2,bM_3,bM_4,bM_5,bM_l⟩:=bM.c6
 obtain ⟨bP_0,bP_1,bP_2,bP_l⟩:=bP.c3
 go_wp2_with fail
 clear bM_0 bM_1 bM_2 bM_3 bM_4 bM_5 bM_l bP_0 bP_1 bP_2 bP_l
 have bD:=Box.new w14 28 #[.slice v_da mc.mem.al.length v_dac,.int .i64 mc.mem.next,.slice v_dk mc.stks.length v_dkc,.slice v_dr mc.run.length v_drc,.int .i64 mc.tag,.int .i64 mc.call]
 have hza : (World.alloc w14 (.cells #[.slice v_da mc.mem.al.length v_dac,.int .i64 mc.mem.next,.slice v_dk mc.stks.length v_dkc,.slice v_dr mc.run.length v_drc,.int .i64 mc.tag,.int .i64 mc.call] 28)).heap.size=w14.heap.size+1:=by rw [World.size_alloc]
 have hx15 : Ext w14 (World.alloc w14 (.cells #[.slice v_da mc.mem.al.length v_dac,.int .i64 mc.mem.next,.slice v_dk mc.stks.length v_dkc,.slice v_dr mc.run.length v_drc,.int .i64 mc.tag,.int .i64 mc.call] 28)):=(Ext.refl _).alloc _
 obtain ⟨w15b,hw15⟩ : ∃ z,World.alloc w14 (.cells #[.slice v_da mc.mem.al.length v_dac,.int .i64 mc.mem.next,.slice v_dk mc.stks.length v_dkc,.slice v_dr mc.run.length v_drc,.int .i64 mc.tag,.int .i64 mc.call] 28)=z:=⟨_,rfl⟩
 rw [hw15] at bD hx15 hza ⊢
 clear hw15
 have hzb0:=hza
 clear hza
 replace bM:=bM.ext hx15
 replace bP:=bP.ext hx15
 replace bH:=bH.ext hx15
 replace bA:=bA.ext hx15
 replace bB:=bB.ext hx15
 replace bC:=bC.ext hx15
 replace Gh:=Lib.hid (Fq.ext Gh.out hx15)
 replace Ga:=Lib.hid (Fq.ext Ga.out hx15)
 replace Gla:=Lib.hid (Fq.ext Gla.out hx15)
 replace Gb:=Lib.hid (Fq.ext Gb.out hx15)
 replace Glb:=Lib.hid (Fq.ext Glb.out hx15)
 replace Gc:=Lib.hid (Fq.ext Gc.out hx15)
 replace Gd:=Lib.hid (Fq.ext Gd.out hx15)
 have hF16:=Ext.trans hF14 hx15
 clear hzb0
 refine (monitor_Retag pa po pt n call (hp.out.ext hF16) hkb.out (hA.out.ext hF16) hn.out (hK.out.ext hF16) (hR.out.ext hF16)).mono ?_
 rintro e w17 ⟨vt,rfl,fM,hE17⟩
 replace bM:=bM.ext hE17
 replace bP:=bP.ext hE17
 replace bH:=bH.ext hE17
 replace bA:=bA.ext hE17
 replace bB:=bB.ext hE17
 replace bC:=bC.ext hE17
 replace bD:=bD.ext hE17
 replace Gh:=Lib.hid (Fq.ext Gh.out hE17)
 replace Ga:=Lib.hid (Fq.ext Ga.out hE17)
 replace Gla:=Lib.hid (Fq.ext Gla.out hE17)
 replace Gb:=Lib.hid (Fq.ext Gb.out hE17)
 replace Glb:=Lib.hid (Fq.ext Glb.out hE17)
 replace Gc:=Lib.hid (Fq.ext Gc.out hE17)
 replace Gd:=Lib.hid (Fq.ext Gd.out hE17)
 have hF17:=Ext.trans hF16 hE17
 rw [hre.out] at fM ⊢
 try dsimp only [Ptr.val] at fM ⊢
 obtain ⟨qsa,qss,qsr,rfl,qq⟩:=FrMon.parts fM
 clear fM
 obtain ⟨v_qa,v_qac,rfl,-⟩:=(qq.read).1.form
 obtain ⟨v_qk,v_qkc,rfl,-⟩:=(qq.read).2.1.form
 obtain ⟨v_qr,v_qrc,rfl,-⟩:=(qq.read).2.2.form
 try dsimp only at qq ⊢
 have Gq:=Lib.hid (Fq.mono (S':=(fun b=>True)) qq (fun b h1 _=>by exact trivial))
 clear qq
 obtain ⟨bM_0,bM_1,bM_2,bM_3,bM_4,bM_5,bM_l⟩:=bM.c6
 obtain ⟨bP_0,bP_1,bP_2,bP_l⟩:=bP.c3
 obtain ⟨bH_0,bH_1,bH_2,bH_3,bH_4,bH_5,bH_l⟩:=bH.c6
 go_wp2_with fail
 clear bM_0 bM_1 bM_2 bM_3 bM_4 bM_5 bM_l bP_0 bP_1 bP_2 bP_l bH_0 bH_1 bH_2 bH_3 bH_4 bH_5 bH_l
 have bQ:=Box.new w17 28 #[.slice v_qa mq.mem.al.length v_qac,.int .i64 mq.mem.next,.slice v_qk mq.stks.length v_qkc,.slice v_qr mq.run.length v_qrc,.int .i64 mq.tag,.int .i64 mq.call]
 have hza : (World.alloc w17 (.cells #[.slice v_qa mq.mem.al.length v_qac,.int .i64 mq.mem.next,.slice v_qk mq.stks.length v_qkc,.slice v_qr mq.run.length v_qrc,.int .i64 mq.tag,.int .i64 mq.call] 28)).heap.size=w17.heap.size+1:=by rw [World.size_alloc]
 have hx18 : Ext w17 (World.alloc w17 (.cells #[.slice v_qa mq.mem.al.length v_qac,.int .i64 mq.mem.next,.slice v_qk mq.stks.length v_qkc,.slice v_qr mq.run.length v_qrc,.int .i64 mq.tag,.int .i64 mq.call] 28)):=(Ext.refl _).alloc _
 obtain ⟨w18b,hw18⟩ : ∃ z,World.alloc w17 (.cells #[.slice v_qa mq.mem.al.length v_qac,.int .i64 mq.mem.next,.slice v_qk mq.stks.length v_qkc,.slice v_qr mq.run.length v_qrc,.int .i64 mq.tag,.int .i64 mq.call] 28)=z:=⟨_,rfl⟩
 rw [hw18] at bQ hx18 hza ⊢
 clear hw18
 have hzb0:=hza
 clear hza
 replace bM:=bM.ext hx18
 replace bP:=bP.ext hx18
 replace bH:=bH.ext hx18
 replace bA:=bA.ext hx18
 replace bB:=bB.ext hx18
 replace bC:=bC.ext hx18
 replace bD:=bD.ext hx18
 replace Gh:=Lib.hid (Fq.ext Gh.out hx18)
 replace Ga:=Lib.hid (Fq.ext Ga.out hx18)
 replace Gla:=Lib.hid (Fq.ext Gla.out hx18)
 replace Gb:=Lib.hid (Fq.ext Gb.out hx18)
 replace Glb:=Lib.hid (Fq.ext Glb.out hx18)
 replace Gc:=Lib.hid (Fq.ext Gc.out hx18)
 replace Gd:=Lib.hid (Fq.ext Gd.out hx18)
 replace Gq:=Lib.hid (Fq.ext Gq.out hx18)
 have hF19:=Ext.trans hF17 hx18
 have bQp:=Box.new w18b 30 #[.int .i64 pq1,.int .i64 pq2,.int .i64 pq3]
 rw [hzb0] at bQp
 have hza : (World.alloc w18b (.cells #[.int .i64 pq1,.int .i64 pq2,.int .i64 pq3] 30)).heap.size=w17.heap.size+2:=by rw [World.size_alloc,hzb0]
 have hx20 : Ext w18b (World.alloc w18b (.cells #[.int .i64 pq1,.int .i64 pq2,.int .i64 pq3] 30)):=(Ext.refl _).alloc _
 obtain ⟨w20b,hw20⟩ : ∃ z,World.alloc w18b (.cells #[.int .i64 pq1,.int .i64 pq2,.int .i64 pq3] 30)=z:=⟨_,rfl⟩
 rw [hw20] at bQp hx20 hza ⊢
 clear hw20
 clear hzb0
 have hzb1:=hza
 clear hza
 replace bM:=bM.ext hx20
 replace bP:=bP.ext hx20
 replace bH:=bH.ext hx20
 replace bA:=bA.ext hx20
 replace bB:=bB.ext hx20
 replace bC:=bC.ext hx20
 replace bD:=bD.ext hx20
 replace bQ:=bQ.ext hx20
 replace Gh:=Lib.hid (Fq.ext Gh.out hx20)
 replace Ga:=Lib.hid (Fq.ext Ga.out hx20)
 replace Gla:=Lib.hid (Fq.ext Gla.out hx20)
 replace Gb:=Lib.hid (Fq.ext Gb.out hx20)
 replace Glb:=Lib.hid (Fq.ext Glb.out hx20)
 replace Gc:=Lib.hid (Fq.ext Gc.out hx20)
 replace Gd:=Lib.hid (Fq.ext Gd.out hx20)
 replace Gq:=Lib.hid (Fq.ext Gq.out hx20)
 have hF21:=Ext.trans hF19 hx20
 clear hzb1
 refine (ref35_Retag pa po pt n call hkb.out Gh.out.read.1 hn.out Gh.out.read.2.1 Gh.out.read.2.2).mono ?_
 rintro e w22 ⟨vt,rfl,fM,hE22⟩
 replace bM:=bM.ext hE22
 replace bP:=bP.ext hE22
 replace bH:=bH.ext hE22
 replace bA:=bA.ext hE22
 replace bB:=bB.ext hE22
 replace bC:=bC.ext hE22
 replace bD:=bD.ext hE22
 replace bQ:=bQ.ext hE22
 replace bQp:=bQp.ext hE22
 replace Gh:=Lib.hid (Fq.ext Gh.out hE22)
 replace Ga:=Lib.hid (Fq.ext Ga.out hE22)
 replace Gla:=Lib.hid (Fq.ext Gla.out hE22)
 replace Gb:=Lib.hid (Fq.ext Gb.out hE22)
 replace Glb:=Lib.hid (Fq.ext Glb.out hE22)
 replace Gc:=Lib.hid (Fq.ext Gc.out hE22)
 replace Gd:=Lib.hid (Fq.ext Gd.out hE22)
 replace Gq:=Lib.hid (Fq.ext Gq.out hE22)
 have hF22:=Ext.trans hF21 hE22
 rw [hre.out] at fM ⊢
 try dsimp only [Ptr.val] at fM ⊢
 obtain ⟨tsa,tss,tsr,rfl,qt⟩:=FrMon.parts fM
 clear fM
 obtain ⟨v_ta,v_tac,rfl,-⟩:=(qt.read).1.form
 obtain ⟨v_tk,v_tkc,rfl,-⟩:=(qt.read).2.1.form
 obtain ⟨v_tr,v_trc,rfl,-⟩:=(qt.read).2.2.form
 try dsimp only at qt ⊢
 have Gt:=Lib.hid (Fq.mono (S':=(fun b=>True)) qt (fun b h1 _=>by exact trivial))
 clear qt
 obtain ⟨bA_0,bA_1,bA_2,bA_3,bA_4,bA_5,bA_l⟩:=bA.c6
 obtain ⟨bB_0,bB_1,bB_2,bB_3,bB_4,bB_5,bB_l⟩:=bB.c6
 go_wp2_with fail
 clear bA_0 bA_1 bA_2 bA_3 bA_4 bA_5 bA_l bB_0 bB_1 bB_2 bB_3 bB_4 bB_5 bB_l
 have bT:=Box.new w22 28 #[.slice v_ta mq.mem.al.length v_tac,.int .i64 mq.mem.next,.slice v_tk mq.stks.length v_tkc,.slice v_tr mq.run.length v_trc,.int .i64 mq.tag,.int .i64 mq.call]
 have hza : (World.alloc w22 (.cells #[.slice v_ta mq.mem.al.length v_tac,.int .i64 mq.mem.next,.slice v_tk mq.stks.length v_tkc,.slice v_tr mq.run.length v_trc,.int .i64 mq.tag,.int .i64 mq.call] 28)).heap.size=w22.heap.size+1:=by rw [World.size_alloc]
 have hx23 : Ext w22 (World.alloc w22 (.cells #[.slice v_ta mq.mem.al.length v_tac,.int .i64 mq.mem.next,.slice v_tk mq.stks.length v_tkc,.slice v_tr mq.run.length v_trc,.int .i64 mq.tag,.int .i64 mq.call] 28)):=(Ext.refl _).alloc _
 obtain ⟨w23b,hw23⟩ : ∃ z,World.alloc w22 (.cells #[.slice v_ta mq.mem.al.length v_tac,.int .i64 mq.mem.next,.slice v_tk mq.stks.length v_tkc,.slice v_tr mq.run.length v_trc,.int .i64 mq.tag,.int .i64 mq.call] 28)=z:=⟨_,rfl⟩
 rw [hw23] at bT hx23 hza ⊢
 clear hw23
 have hzb0:=hza
 clear hza
 replace bM:=bM.ext hx23
 replace bP:=bP.ext hx23
 replace bH:=bH.ext hx23
 replace bA:=bA.ext hx23
 replace bB:=bB.ext hx23
 replace bC:=bC.ext hx23
 replace bD:=bD.ext hx23
 replace bQ:=bQ.ext hx23
 replace bQp:=bQp.ext hx23
 replace Gh:=Lib.hid (Fq.ext Gh.out hx23)
 replace Ga:=Lib.hid (Fq.ext Ga.out hx23)
 replace Gla:=Lib.hid (Fq.ext Gla.out hx23)
 replace Gb:=Lib.hid (Fq.ext Gb.out hx23)
 replace Glb:=Lib.hid (Fq.ext Glb.out hx23)
 replace Gc:=Lib.hid (Fq.ext Gc.out hx23)
 replace Gd:=Lib.hid (Fq.ext Gd.out hx23)
 replace Gq:=Lib.hid (Fq.ext Gq.out hx23)
 replace Gt:=Lib.hid (Fq.ext Gt.out hx23)
 have hF24:=Ext.trans hF22 hx23
 have bTp:=Box.new w23b 30 #[.int .i64 pq1,.int .i64 pq2,.int .i64 pq3]
 rw [hzb0] at bTp
 have hza : (World.alloc w23b (.cells #[.int .i64 pq1,.int .i64 pq2,.int .i64 pq3] 30)).heap.size=w22.heap.size+2:=by rw [World.size_alloc,hzb0]
 have hx25 : Ext w23b (World.alloc w23b (.cells #[.int .i64 pq1,.int .i64 pq2,.int .i64 pq3] 30)):=(Ext.refl _).alloc _
 obtain ⟨w25b,hw25⟩ : ∃ z,World.alloc w23b (.cells #[.int .i64 pq1,.int .i64 pq2,.int .i64 pq3] 30)=z:=⟨_,rfl⟩
 rw [hw25] at bTp hx25 hza ⊢
 clear hw25
 clear hzb0
 have hzb1:=hza
 clear hza
 replace bM:=bM.ext hx25
 replace bP:=bP.ext hx25
 replace bH:=bH.ext hx25
 replace bA:=bA.ext hx25
 replace bB:=bB.ext hx25
 replace bC:=bC.ext hx25
 replace bD:=bD.ext hx25
 replace bQ:=bQ.ext hx25
 replace bQp:=bQp.ext hx25
 replace bT:=bT.ext hx25
 replace Gh:=Lib.hid (Fq.ext Gh.out hx25)
 replace Ga:=Lib.hid (Fq.ext Ga.out hx25)
 replace Gla:=Lib.hid (Fq.ext Gla.out hx25)
 replace Gb:=Lib.hid (Fq.ext Gb.out hx25)
 replace Glb:=Lib.hid (Fq.ext Glb.out hx25)
 replace Gc:=Lib.hid (Fq.ext Gc.out hx25)
 replace Gd:=Lib.hid (Fq.ext Gd.out hx25)
 replace Gq:=Lib.hid (Fq.ext Gq.out hx25)
 replace Gt:=Lib.hid (Fq.ext Gt.out hx25)
 have hF26:=Ext.trans hF24 hx25
 clear hzb1
 refine (ref35_Same (rd_parts Ga.out.read) (rd_parts Gb.out.read)).mono ?_
 rintro e w27 ⟨rfl,hE27⟩
 replace bM:=bM.ext hE27
 replace bP:=bP.ext hE27
 replace bH:=bH.ext hE27
 replace bA:=bA.ext hE27
 replace bB:=bB.ext hE27
 replace bC:=bC.ext hE27
 replace bD:=bD.ext hE27
 replace bQ:=bQ.ext hE27
 replace bQp:=bQp.ext hE27
 replace bT:=bT.ext hE27
 replace bTp:=bTp.ext hE27
 replace Gh:=Lib.hid (Fq.ext Gh.out hE27)
 replace Ga:=Lib.hid (Fq.ext Ga.out hE27)
 replace Gla:=Lib.hid (Fq.ext Gla.out hE27)
 replace Gb:=Lib.hid (Fq.ext Gb.out hE27)
 replace Glb:=Lib.hid (Fq.ext Glb.out hE27)
 replace Gc:=Lib.hid (Fq.ext Gc.out hE27)
 replace Gd:=Lib.hid (Fq.ext Gd.out hE27)
 replace Gq:=Lib.hid (Fq.ext Gq.out hE27)
 replace Gt:=Lib.hid (Fq.ext Gt.out hE27)
 have hF27:=Ext.trans hF26 hE27
 clear Ga
 clear Gb
 clear bA
 clear bB
 go_wp2_with fail
 refine (ref27_SameCells_yes Gla.out.read Glb.out.read).mono ?_
 rintro e w28 ⟨rfl,hE28⟩
 replace bM:=bM.ext hE28
 replace bP:=bP.ext hE28
 replace bH:=bH.ext hE28
 replace bC:=bC.ext hE28
 replace bD:=bD.ext hE28
 replace bQ:=bQ.ext hE28
 replace bQp:=bQp.ext hE28
 replace bT:=bT.ext hE28
 replace bTp:=bTp.ext hE28
 replace Gh:=Lib.hid (Fq.ext Gh.out hE28)
 replace Gla:=Lib.hid (Fq.ext Gla.out hE28)
 replace Glb:=Lib.hid (Fq.ext Glb.out hE28)
 replace Gc:=Lib.hid (Fq.ext Gc.out hE28)
 replace Gd:=Lib.hid (Fq.ext Gd.out hE28)
 replace Gq:=Lib.hid (Fq.ext Gq.out hE28)
 replace Gt:=Lib.hid (Fq.ext Gt.out hE28)
 have hF28:=Ext.trans hF27 hE28
 clear Gla
 clear Glb
 obtain ⟨bC_0,bC_1,bC_2,bC_3,bC_4,bC_5,bC_l⟩:=bC.c6
 obtain ⟨bD_0,bD_1,bD_2,bD_3,bD_4,bD_5,bD_l⟩:=bD.c6
 go_wp2_with fail
 clear bC_0 bC_1 bC_2 bC_3 bC_4 bC_5 bC_l bD_0 bD_1 bD_2 bD_3 bD_4 bD_5 bD_l
 refine (ref35_Same (rd_parts Gc.out.read) (rd_parts Gd.out.read)).mono ?_
 rintro e w29 ⟨rfl,hE29⟩
 replace bM:=bM.ext hE29
 replace bP:=bP.ext hE29
 replace bH:=bH.ext hE29
 replace bC:=bC.ext hE29
 replace bD:=bD.ext hE29
 replace bQ:=bQ.ext hE29
 replace bQp:=bQp.ext hE29
 replace bT:=bT.ext hE29
 replace bTp:=bTp.ext hE29
 replace Gh:=Lib.hid (Fq.ext Gh.out hE29)
 replace Gc:=Lib.hid (Fq.ext Gc.out hE29)
 replace Gd:=Lib.hid (Fq.ext Gd.out hE29)
 replace Gq:=Lib.hid (Fq.ext Gq.out hE29)
 replace Gt:=Lib.hid (Fq.ext Gt.out hE29)
 have hF29:=Ext.trans hF28 hE29
 clear Gc
 clear Gd
 clear bC
 clear bD
 obtain ⟨bQ_0,bQ_1,bQ_2,bQ_3,bQ_4,bQ_5,bQ_l⟩:=bQ.c6
 obtain ⟨bT_0,bT_1,bT_2,bT_3,bT_4,bT_5,bT_l⟩:=bT.c6
 go_wp2_with fail
 clear bQ_0 bQ_1 bQ_2 bQ_3 bQ_4 bQ_5 bQ_l bT_0 bT_1 bT_2 bT_3 bT_4 bT_5 bT_l
 refine (ref35_Same (rd_parts Gq.out.read) (rd_parts Gt.out.read)).mono ?_
 rintro e w30 ⟨rfl,hE30⟩
 replace bM:=bM.ext hE30
 replace bP:=bP.ext hE30
 replace bH:=bH.ext hE30
 replace bQ:=bQ.ext hE30
 replace bQp:=bQp.ext hE30
 replace bT:=bT.ext hE30
 replace bTp:=bTp.ext hE30
 replace Gh:=Lib.hid (Fq.ext Gh.out hE30)
 replace Gq:=Lib.hid (Fq.ext Gq.out hE30)
 replace Gt:=Lib.hid (Fq.ext Gt.out hE30)
 have hF30:=Ext.trans hF29 hE30
 clear Gq
 clear Gt
 clear bQ
 clear bT
 obtain ⟨bM_0,bM_1,bM_2,bM_3,bM_4,bM_5,bM_l⟩:=bM.c6
 obtain ⟨bH_0,bH_1,bH_2,bH_3,bH_4,bH_5,bH_l⟩:=bH.c6
 obtain ⟨bQp_0,bQp_1,bQp_2,bQp_l⟩:=bQp.c3
 obtain ⟨bTp_0,bTp_1,bTp_2,bTp_l⟩:=bTp.c3
 go_wp2_with fail
 clear bM_0 bM_1 bM_2 bM_3 bM_4 bM_5 bM_l bH_0 bH_1 bH_2 bH_3 bH_4 bH_5 bH_l bQp_0 bQp_1 bQp_2 bQp_l bTp_0 bTp_1 bTp_2 bTp_l
 refine (ref35_Same (rd_m (hA.out.ext hF30) (hK.out.ext hF30) (hR.out.ext hF30)) (rd_parts Gh.out.read)).mono ?_
 rintro e w31 ⟨rfl,hE31⟩
 replace bM:=bM.ext hE31
 replace bP:=bP.ext hE31
 replace bH:=bH.ext hE31
 replace bQp:=bQp.ext hE31
 replace bTp:=bTp.ext hE31
 replace Gh:=Lib.hid (Fq.ext Gh.out hE31)
 have hF31:=Ext.trans hF30 hE31
 go_wp2
 go_ret
 exact ⟨rfl,hF31⟩
set_option maxRecDepth 100000 in
theorem monitorUses_contract (H : Type) (enc : TypeId × Value→H) (W : World) (base : Nat) (args : Array Value) (ds gs : List (DataW H)) (before : List MemPlace)
  (hval0 : ∀ (j : Nat) t v,Tryz.f3.params[j]? = some t→args[j]? = some v→Value.okWide Tryz.prog W .any base t v)
  (hW : DataW.Whole enc Tryz.prog Tryz.f3.params.toList Rows.monitorUsesSpec.vars false W args.toList ds gs before) (hL : laidMetH Tryz.prog Rows.monitorUsesRow.laid W) :
  Calls Tryz.prog 3 args W fun e W' => ∃ v,e = .returned v∧Rows.monitorUsesSpec.post enc Tryz.prog Tryz.f3 false true false false W args v W':=by
 have hval : ∀ (j : Nat) t v,Tryz.f3.params[j]? = some t→args[j]? = some v→Value.okWide Tryz.prog W .any base t v:=hval0
 have hW':=hW
 obtain ⟨p,q,hA0,hV,rfl,hfz,hnd⟩:=hW
 have hA : DataW.TrodAll enc Tryz.prog W 0 (fun _=>true) true Tryz.f3.params.toList args.toList ds p:=hA0
 rw [Tryz.params3] at hA hval
 obtain ⟨v0,vs0,d0,ds0,p0,q0,hargs,rfl,rfl,h0,r0⟩:=trodAll_cons hA
 obtain ⟨v1,vs1,d1,ds1,p1,q1,rfl,rfl,rfl,h1,r1⟩:=trodAll_cons r0
 obtain ⟨v2,vs2,d2,ds2,p2,q2,rfl,rfl,rfl,h2,r2⟩:=trodAll_cons r1
 obtain ⟨v3,vs3,d3,ds3,p3,q3,rfl,rfl,rfl,h3,r3⟩:=trodAll_cons r2
 obtain ⟨v4,vs4,d4,ds4,p4,q4,rfl,rfl,rfl,h4,r4⟩:=trodAll_cons r3
 obtain ⟨v5,vs5,d5,ds5,p5,q5,rfl,rfl,rfl,h5,r5⟩:=trodAll_cons r4
 obtain ⟨rfl,rfl,rfl⟩:=trodAll_nil r5
 obtain rfl : args=#[v0,v1,v2,v3,v4,v5]:=by cases args;simp_all
 obtain ⟨x0,k0,wf0⟩:=open_mon (hval 0 28 v0 rfl rfl) h0
 obtain ⟨x1,rfl,wf1⟩:=open_ptrv (hval 1 30 v1 rfl rfl) h1
 obtain ⟨x2,rfl,rfl,rfl,wf2⟩:=open_int Tryz.underlying3 (hval 2 3 v2 rfl rfl) h2
 obtain ⟨x3,k3,wf3⟩:=open_cells Tryz.underlying31 (hval 3 31 v3 rfl rfl) h3
 obtain ⟨x4,rfl,rfl,rfl,wf4⟩:=open_int Tryz.underlying5 (hval 4 5 v4 rfl rfl) h4
 obtain ⟨x5,rfl,rfl,rfl,wf5⟩:=open_int Tryz.underlying3 (hval 5 3 v5 rfl rfl) h5
 refine (monitorUses_walk (perms_of_laid hL) (u8B_of wf4) x1 x2 x5 k0 wf0.1 k3).mono fun e W' ⟨he,hb⟩ => ?_
 subst he
 exact ⟨_,rfl,post_law TryzlaidOut (tb:=4) rfl Tryz.underlying4 (by kernel_rfl) rfl (fun ds hd=>match ds,hd with | [a0,a1,a2,a3,a4,a5],_=>rfl) hW' hb⟩
theorem monitorUses_met (os : Os) : laidMet Tryz.prog Rows.monitorUsesRow.laid ((doorWorld os).forCall (fun _ _=>0) ⟨#[],#[.agg #[.slice none 0 0,.int .i64 0,.slice none 0 0,.slice none 0 0,.int .i64 0,.int .i64 0],.agg #[.int .i64 0,.int .i64 0,.int .i64 0],.int .i64 0,.slice none 0 0,.int .u8 0,.int .i64 0],[]⟩).memory :=
 laidMet_of_run' 8 (by kernel_rfl) (by kernel_rfl)
theorem monitorUses_reads (os : Os) {H : Type} (enc : TypeId × Value→H) : ∃ places,DataW.whole enc Tryz.prog ((doorWorld os).forCall (fun _ _=>0) ⟨#[],#[.agg #[.slice none 0 0,.int .i64 0,.slice none 0 0,.slice none 0 0,.int .i64 0,.int .i64 0],.agg #[.int .i64 0,.int .i64 0,.int .i64 0],.int .i64 0,.slice none 0 0,.int .u8 0,.int .i64 0],[]⟩).memory Tryz.f3.params.toList Rows.monitorUsesSpec.vars false (#[.agg #[.slice none 0 0,.int .i64 0,.slice none 0 0,.slice none 0 0,.int .i64 0,.int .i64 0],.agg #[.int .i64 0,.int .i64 0,.int .i64 0],.int .i64 0,.slice none 0 0,.int .u8 0,.int .i64 0] : Array Value).toList 8=some ([.agg [.agg [.nil,.lit (.int .i64 0)],.nil,.nil,.lit (.int .i64 0),.lit (.int .i64 0)],.agg [.lit (.int .i64 0),.lit (.int .i64 0),.lit (.int .i64 0)],.lit (.int .i64 0),.nil,.lit (.int .u8 0),.lit (.int .i64 0)],[],places) :=
 ⟨[],by kernel_rfl⟩
set_option maxRecDepth 100000 in
theorem monitorUses_lifted (os : Os) (started : os.Started) (H : Type) (enc : TypeId × Value→H) (F : Stop.Interp) :
  ReturnsInHanded {} Tryz.checked os 3 .any ((OpenSpec.ofChange Rows.monitorUsesSpec).preRow enc Tryz.prog Tryz.f3 Rows.monitorUsesRow.domain false Rows.monitorUsesRow.laid) (((OpenSpec.ofChange Rows.monitorUsesSpec).at F).post enc Tryz.prog Tryz.f3 false true false false):=by
 obtain ⟨places,hx⟩:=monitorUses_reads os enc
 refine returnsInHanded_of_row (C:=Tryz.checked) (s:=OpenSpec.ofChange Rows.monitorUsesSpec) Tryzown started (by kernel_rfl) Tryz.func3
  (witness_row_at (enc:=enc) (C:=Tryz.checked) false (doorWorld os) #[.agg #[.slice none 0 0,.int .i64 0,.slice none 0 0,.slice none 0 0,.int .i64 0,.int .i64 0],.agg #[.int .i64 0,.int .i64 0,.int .i64 0],.int .i64 0,.slice none 0 0,.int .u8 0,.int .i64 0] rfl (by kernel_rfl) (by kernel_rfl) (by kernel_rfl)
   (OpenSpec.preRow_of_cond 8 hx (by kernel_rfl) (fun k hk=>by cases hk) (by kernel_rfl) (monitorUses_met os))) ?_
 intro W base args ds gs before hval hW _ _ _ hL _ _
 exact monitorUses_contract H enc W base args ds gs before hval hW hL
theorem monitorUses_said : Rows.MonitorUsesSaid :=
 OpenClaim.holds_of_cond 3 Tryz.f3 rfl rfl rfl rfl rfl rfl rfl ⟨rfl,rfl,rfl,rfl,rfl⟩ rfl rfl rfl rfl rfl (by kernel_rfl) Tryz.func3 (by kernel_rfl)
  (of_decide_eq_true (by kernel_rfl)) (by unfold Func.isWrapper;first | (rw [if_pos (by decide +kernel)];kernel_rfl) | (rw [if_neg (by decide +kernel)];exact ⟨rfl,rfl⟩))
  (fun os started H enc _ F=>by rw [OpenClaim.pre_eq_preRow];exact monitorUses_lifted os started H enc F)
theorem monitorUses_plain (f : FuncId) (fn : Func) (hf : Tryz.pinned.checked.prog.funcNamed "pawnshop/pawnshoplaw35.MonitorUses" = some f) (hfn : Tryz.pinned.checked.prog.funcs[f]? = some fn) :
  false=Tryz.pinned.checked.prog.looks [] ∧ ∀ (j : Nat) t,fn.params[j]? = some t→Tryz.pinned.checked.prog.wantsStandIn t=false:=by
 obtain rfl : f = 3 := Option.some.inj ((show Tryz.prog.funcNamed "pawnshop/pawnshoplaw35.MonitorUses" = some 3 by kernel_rfl).symm.trans hf) |>.symm
 obtain rfl : fn=Tryz.f3:=(Option.some.inj (Tryz.func3.symm.trans hfn)).symm
 refine ⟨by kernel_rfl,fun j t ht => ?_⟩
 have hm : t ∈ Tryz.f3.params.toList:=by simpa using Array.mem_of_getElem? ht
 have hall : (Tryz.f3.params.toList.all fun u => !Tryz.prog.wantsStandIn u)=true:=by kernel_rfl
 exact (show Tryz.prog.wantsStandIn t=false by simpa using List.all_eq_true.1 hall t hm)
theorem monitorUses_card : Rows.MonitorUsesCardSaid :=
 Claim7.holds_tied_plain_at .later [] _ _ _ _ monitorUses_said (fun _ h=>by cases h) (by kernel_rfl) (fun _ h=>by cases h) monitorUses_row_tie rfl ⟨rfl,rfl⟩ (by kernel_rfl) rfl monitorUses_plain (by kernel_rfl)
end Go.Proofs.YtnplphcnagooeaaGreatDoor
