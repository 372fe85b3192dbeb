/- MonitorFresh: a new pointer may be used at once; its tag was never used; what is returned is valid. No condition. (printed by gen/law35d.py) -/
import Derived.Test.YtnplphcnagooeaaDoorQ17
import Derived.Test.YtnplphcnagooeaaDoorQ18
import Derived.Test.YtnplphcnagooeaaDoorQ19
import Derived.Test.YtnplphcnagooeaaDoorQ03
import Derived.Test.YtnplphcnagooeaaDoorQ10
import Derived.Test.YtnplphcnagooeaaDoorQ02
import Derived.Test.YtnplphcnagooeaaDoorQ08
import Derived.Deep.DeepCutAuto
namespace Go.Proofs.YtnplphcnagooeaaDoor
set_option maxRecDepth 100000
open Go.ChangeShapes Go.WideShapes Go.ChangeAt Go.RowKit
theorem retagM_no {m x : Mon} {p r : Ptr} {n kind call why e : Int} (h : retagM m p n kind call=(x,r,why,e)) (hne : e≠0∨why≠0) : r=Ptr.zero:=by
 unfold retagM at h
 split at h
 ·split at h
  ·split at h
   ·split at h
    ·simp only [Prod.mk.injEq] at h;exact h.2.1.symm
    ·split at h
     ·simp only [Prod.mk.injEq] at h;exact h.2.1.symm
     ·split at h
      ·simp only [Prod.mk.injEq] at h;exact h.2.1.symm
      ·split at h
       ·simp only [Prod.mk.injEq] at h
        rcases hne with hne | hne
        ·exact absurd h.2.2.2.symm hne
        ·exact absurd h.2.2.1.symm hne
       ·simp only [Prod.mk.injEq] at h;exact h.2.1.symm
   ·simp only [Prod.mk.injEq] at h;exact h.2.1.symm
  ·simp only [Prod.mk.injEq] at h;exact h.2.1.symm
 ·simp only [Prod.mk.injEq] at h;exact h.2.1.symm
set_option maxRecDepth 100000 in
set_option maxHeartbeats 12800000 in
theorem monitorFresh_walk {m : Mon} {vm : Value} {wS : World} (hp : Perms wS) {kind : Int} (hkb : u8B kind) (p : Ptr) (n size : Int) (hm : RdMon wS vm m) (hn : i64B m.mem.next) :
  Calls Tryd.prog 4 #[vm,p.val,.int .i64 n,.int .u8 kind,.int .i64 size] wS fun e w'=>e = .returned (.bool true)∧Ext wS w':=by
 obtain ⟨pa,po,pt⟩:=p
 unfold Ptr.val
 dsimp only
 obtain ⟨sa,ss,sr,rfl,hA,hK,hR⟩:=hm
 obtain ⟨aa,ac,rfl,hac,hacm,-⟩:=hA.form
 obtain ⟨ka,kc,rfl,hkc,hkcm,-⟩:=hK.form
 obtain ⟨ra,rc,rfl,hrc,hrcm,-⟩:=hR.form
 unfold maxLen at hacm hkcm hrcm
 have hE0 : Ext wS (World.alloc (World.alloc wS (.cells #[.slice aa m.mem.al.length ac,.int .i64 m.mem.next,.slice ka m.stks.length kc,.slice ra m.run.length rc,.int .i64 m.tag,.int .i64 m.call] 35)) (.cells #[.int .i64 pa,.int .i64 po,.int .i64 pt] 26)):=by repeat (first | exact Ext.refl _ | refine Ext.alloc ?_ _)
 have bM : Box (World.alloc (World.alloc wS (.cells #[.slice aa m.mem.al.length ac,.int .i64 m.mem.next,.slice ka m.stks.length kc,.slice ra m.run.length rc,.int .i64 m.tag,.int .i64 m.call] 35)) (.cells #[.int .i64 pa,.int .i64 po,.int .i64 pt] 26)) (wS.heap.size) 35 #[.slice aa m.mem.al.length ac,.int .i64 m.mem.next,.slice ka m.stks.length kc,.slice ra m.run.length rc,.int .i64 m.tag,.int .i64 m.call]:=(by
  have h:=Box.new wS 35 #[.slice aa m.mem.al.length ac,.int .i64 m.mem.next,.slice ka m.stks.length kc,.slice ra m.run.length rc,.int .i64 m.tag,.int .i64 m.call]
  replace h:=Box.ext h ((Ext.refl _).alloc (.cells #[.int .i64 pa,.int .i64 po,.int .i64 pt] 26))
  exact h)
 have bP : Box (World.alloc (World.alloc wS (.cells #[.slice aa m.mem.al.length ac,.int .i64 m.mem.next,.slice ka m.stks.length kc,.slice ra m.run.length rc,.int .i64 m.tag,.int .i64 m.call] 35)) (.cells #[.int .i64 pa,.int .i64 po,.int .i64 pt] 26)) (wS.heap.size+1) 26 #[.int .i64 pa,.int .i64 po,.int .i64 pt]:=(by
  have h:=Box.new (World.alloc wS (.cells #[.slice aa m.mem.al.length ac,.int .i64 m.mem.next,.slice ka m.stks.length kc,.slice ra m.run.length rc,.int .i64 m.tag,.int .i64 m.call] 35)) 26 #[.int .i64 pa,.int .i64 po,.int .i64 pt]
  simp only [World.size_alloc] at h
  exact h)
 obtain ⟨w0,hw0⟩ : ∃ z,(World.alloc (World.alloc wS (.cells #[.slice aa m.mem.al.length ac,.int .i64 m.mem.next,.slice ka m.stks.length kc,.slice ra m.run.length rc,.int .i64 m.tag,.int .i64 m.call] 35)) (.cells #[.int .i64 pa,.int .i64 po,.int .i64 pt] 26))=z:=⟨_,rfl⟩
 rw [hw0] at hE0 bM bP
 replace hA:=Lib.hid hA;replace hK:=Lib.hid hK;replace hR:=Lib.hid hR;replace hn:=Lib.hid hn
 replace hp:=Lib.hid hp;replace hkb:=Lib.hid hkb
 go_enter Tryd.func4,Tryd.ntmps4
 go_wp2_with fail
 try rw [hw0]
 clear hw0
 refine (law35_alive (hp.out.ext hE0)).mono ?_
 rintro e w1 ⟨rfl,hE1⟩
 replace bM:=bM.ext hE1
 replace bP:=bP.ext hE1
 have hF1:=Ext.trans hE0 hE1
 obtain ⟨bM_0,bM_1,bM_2,bM_3,bM_4,bM_5,bM_l⟩:=bM.c6
 go_wp2_with fail
 clear bM_0 bM_1 bM_2 bM_3 bM_4 bM_5 bM_l
 refine (ref35_Great (hA.out.ext hF1) (hK.out.ext hF1) (hR.out.ext hF1)).mono ?_
 rintro e w2 ⟨bg,rfl,hng,hE2⟩
 replace bM:=bM.ext hE2
 replace bP:=bP.ext hE2
 have hF2:=Ext.trans hF1 hE2
 clear hng
 cases bg
 rotate_left
 ·skip
  obtain ⟨bM_0,bM_1,bM_2,bM_3,bM_4,bM_5,bM_l⟩:=bM.c6
  go_wp2
  go_ret
  exact ⟨rfl,hF2⟩
 obtain ⟨bM_0,bM_1,bM_2,bM_3,bM_4,bM_5,bM_l⟩:=bM.c6
 go_wp2_with fail
 clear bM_0 bM_1 bM_2 bM_3 bM_4 bM_5 bM_l
 refine (ref35_Check (hA.out.ext hF2) hn.out (hK.out.ext hF2) (hR.out.ext hF2)).mono ?_
 rintro e w3 ⟨rfl,hE3⟩
 replace bM:=bM.ext hE3
 replace bP:=bP.ext hE3
 have hF3:=Ext.trans hF2 hE3
 cases hok : okMon m
 ·skip
  rw [monErr_not hok]
  clear hok
  obtain ⟨bM_0,bM_1,bM_2,bM_3,bM_4,bM_5,bM_l⟩:=bM.c6
  go_wp2
  go_ret
  exact ⟨rfl,hF3⟩
 rw [monErr_of hok]
 have hMok:=MonOk.of hok;have htg:=hMok.tag;have hokh:=Lib.hid hok;clear hok hMok;replace htg:=Lib.hid htg
 obtain ⟨⟨ma,pa9,ea⟩,hal⟩ : ∃ z,allocM m size=z:=⟨_,rfl⟩
 obtain ⟨a1,a2,a3⟩:=pa9
 replace hal:=Lib.hid hal
 obtain ⟨bM_0,bM_1,bM_2,bM_3,bM_4,bM_5,bM_l⟩:=bM.c6
 go_wp2_with fail
 clear bM_0 bM_1 bM_2 bM_3 bM_4 bM_5 bM_l
 refine (monitor_Alloc size (hA.out.ext hF3) hn.out (hK.out.ext hF3) (hR.out.ext hF3)).mono ?_
 rintro e w4 ⟨vt,rfl,fM,hE4⟩
 replace bM:=bM.ext hE4
 replace bP:=bP.ext hE4
 have hF4:=Ext.trans hF3 hE4
 rw [hal.out] at fM ⊢
 try dsimp only [Ptr.val] at fM ⊢
 obtain ⟨asa,ass,asr,rfl,qa⟩:=FrMon.parts fM
 clear fM
 obtain ⟨v_aa,v_aac,rfl,-⟩:=(qa.read).1.form
 obtain ⟨v_ak,v_akc,rfl,-⟩:=(qa.read).2.1.form
 obtain ⟨v_ar,v_arc,rfl,-⟩:=(qa.read).2.2.form
 try dsimp only at qa ⊢
 have Ga:=Lib.hid (Fq.mono (S':=(fun b=>True)) qa (fun b h1 _=>by exact trivial))
 clear qa
 go_upto_if 53 with fail
 have bA:=Box.new w4 35 #[.slice v_aa ma.mem.al.length v_aac,.int .i64 ma.mem.next,.slice v_ak ma.stks.length v_akc,.slice v_ar ma.run.length v_arc,.int .i64 ma.tag,.int .i64 ma.call]
 have hza : (World.alloc w4 (.cells #[.slice v_aa ma.mem.al.length v_aac,.int .i64 ma.mem.next,.slice v_ak ma.stks.length v_akc,.slice v_ar ma.run.length v_arc,.int .i64 ma.tag,.int .i64 ma.call] 35)).heap.size=w4.heap.size+1:=by rw [World.size_alloc]
 have hx5 : Ext w4 (World.alloc w4 (.cells #[.slice v_aa ma.mem.al.length v_aac,.int .i64 ma.mem.next,.slice v_ak ma.stks.length v_akc,.slice v_ar ma.run.length v_arc,.int .i64 ma.tag,.int .i64 ma.call] 35)):=(Ext.refl _).alloc _
 obtain ⟨w5b,hw5⟩ : ∃ z,World.alloc w4 (.cells #[.slice v_aa ma.mem.al.length v_aac,.int .i64 ma.mem.next,.slice v_ak ma.stks.length v_akc,.slice v_ar ma.run.length v_arc,.int .i64 ma.tag,.int .i64 ma.call] 35)=z:=⟨_,rfl⟩
 rw [hw5] at bA hx5 hza ⊢
 clear hw5
 have hzb0:=hza
 clear hza
 replace bM:=bM.ext hx5
 replace bP:=bP.ext hx5
 replace Ga:=Lib.hid (Fq.ext Ga.out hx5)
 have hF6:=Ext.trans hF4 hx5
 have bPa:=Box.new w5b 26 #[.int .i64 a1,.int .i64 a2,.int .i64 a3]
 rw [hzb0] at bPa
 have hza : (World.alloc w5b (.cells #[.int .i64 a1,.int .i64 a2,.int .i64 a3] 26)).heap.size=w4.heap.size+2:=by rw [World.size_alloc,hzb0]
 have hx7 : Ext w5b (World.alloc w5b (.cells #[.int .i64 a1,.int .i64 a2,.int .i64 a3] 26)):=(Ext.refl _).alloc _
 obtain ⟨w7b,hw7⟩ : ∃ z,World.alloc w5b (.cells #[.int .i64 a1,.int .i64 a2,.int .i64 a3] 26)=z:=⟨_,rfl⟩
 rw [hw7] at bPa hx7 hza ⊢
 clear hw7
 clear hzb0
 have hzb1:=hza
 clear hza
 replace bM:=bM.ext hx7
 replace bP:=bP.ext hx7
 replace bA:=bA.ext hx7
 replace Ga:=Lib.hid (Fq.ext Ga.out hx7)
 have hF8:=Ext.trans hF6 hx7
 clear hzb1
 go_cut [12,13,14,15,16,17] from 45 to 101 (fun _ _ _ _ _ _ wx=>Ext w7b wx)
 case first =>
  by_cases he : ea=0
  rotate_left
  ·skip
   have q1 : (ea == 0)=false:=beq_eq_false_iff_ne.2 he
   clear he
   go_wp2_with fail
   go_meet
   exact Ext.refl _
  subst he
  obtain ⟨-,-,-,htl,-,-,hq,hma,hmaok,-⟩:=allocM_inv hal.out
  obtain ⟨hnone,mb,x7,hsb,hlb⟩:=alloc_fresh hal.out
  simp only [Ptr.mk.injEq] at hq
  obtain ⟨rfl,rfl,rfl⟩:=hq
  have hmt : ma.tag=m.tag+1:=by rw [hma]
  have hle : decide (ma.tag≤m.tag)=false:=decide_eq_false (by omega)
  have hres9:=Lib.hid hsb
  have hmbok:=Lib.hid (storeM_inv hsb).2.2.1
  have hix:=Lib.hid (idxM_none hnone)
  clear hmt hma hnone hsb htl
  replace hmaok:=Lib.hid hmaok;replace hlb:=Lib.hid hlb
  have hE9x:=Ext.refl w7b
  have rr:=Lib.hid Ga.out.read
  go_upto_region 6 with fail
  have cbA_0 : World.cell? w7b ⟨w4.heap.size,0,none⟩=some (.slice v_aa ma.mem.al.length v_aac):=bA.cell 0
  have cbA_1 : World.cell? w7b ⟨w4.heap.size,1,none⟩=some (.int .i64 ma.mem.next):=bA.cell 1
  have cbA_2 : World.cell? w7b ⟨w4.heap.size,2,none⟩=some (.slice v_ak ma.stks.length v_akc):=bA.cell 2
  have cbA_3 : World.cell? w7b ⟨w4.heap.size,3,none⟩=some (.slice v_ar ma.run.length v_arc):=bA.cell 3
  have cbA_4 : World.cell? w7b ⟨w4.heap.size,4,none⟩=some (.int .i64 ma.tag):=bA.cell 4
  have cbA_5 : World.cell? w7b ⟨w4.heap.size,5,none⟩=some (.int .i64 ma.call):=bA.cell 5
  have cbPa_0 : World.cell? w7b ⟨w4.heap.size+1,0,none⟩=some (.int .i64 m.mem.next):=bPa.cell 0
  have cbPa_1 : World.cell? w7b ⟨w4.heap.size+1,1,none⟩=some (.int .i64 0):=bPa.cell 1
  have cbPa_2 : World.cell? w7b ⟨w4.heap.size+1,2,none⟩=some (.int .i64 m.tag):=bPa.cell 2
  refine wp_region_st (R:=RX w7b.drew.heap.size [9] (XM w7b.drew.heap.size [9] mb #[])) RX.refl (fun _ _ _=>RX.trans XM_st) [PrS.eq _ (.agg #[.slice v_aa ma.mem.al.length v_aac,.int .i64 ma.mem.next,.slice v_ak ma.stks.length v_akc,.slice v_ar ma.run.length v_arc,.int .i64 ma.tag,.int .i64 ma.call]),PrS.eq _ (.agg #[.int .i64 m.mem.next,.int .i64 0,.int .i64 m.tag]),PrS.eq _ (.agg #[.int .u8 1,.int .i64 7,.int .i64 0,.int .i64 0,.int .i64 0]),(PrFS w7b.drew.heap.size [9] (XM w7b.drew.heap.size [9] mb #[]) (fun a9 : Option Addr × Nat => .slice a9.1 1 a9.2) (fun a9 w=>Cls w (.slice a9.1 1 a9.2) [⟨1,7,0,0,0⟩])),(PrFS w7b.drew.heap.size [9] (XM w7b.drew.heap.size [9] mb #[]) (fun a9 : A3 => .tuple #[.agg #[.slice a9.a1 mb.mem.al.length a9.c1,.int .i64 mb.mem.next,.slice a9.a2 mb.stks.length a9.c2,.slice a9.a3 mb.run.length a9.c3,.int .i64 mb.tag,.int .i64 mb.call],.int .u8 0,.int .i64 0]) (RdA mb)),(PrFS w7b.drew.heap.size [9] (XM w7b.drew.heap.size [9] mb #[]) (fun a9 : A3 => .tuple #[.agg #[.slice a9.a1 mb.mem.al.length a9.c1,.int .i64 mb.mem.next,.slice a9.a2 mb.stks.length a9.c2,.slice a9.a3 mb.run.length a9.c3,.int .i64 mb.tag,.int .i64 mb.call],.int .u8 0,.int .i64 0]) (RdA mb)),(PrFS w7b.drew.heap.size [9] (XM w7b.drew.heap.size [9] mb #[]) (fun a9 : A3 => .agg #[.slice a9.a1 mb.mem.al.length a9.c1,.int .i64 mb.mem.next,.slice a9.a2 mb.stks.length a9.c2,.slice a9.a3 mb.run.length a9.c3,.int .i64 mb.tag,.int .i64 mb.call]) (RdA mb)),PrS.eq _ (.int .u8 0),PrS.eq _ (.int .i64 0),(PrBx w7b.drew.heap.size [9] (XM w7b.drew.heap.size [9] mb #[]) 35 6),(PrSt w7b.drew.heap.size [9] (XM w7b.drew.heap.size [9] mb #[]) XM_st 35),PrS.eq _ (.int .u8 0),PrS.eq _ (.int .i64 0)] (by kernel_rfl) (by kernel_rfl) ?_ ?_
  ·refine ⟨?_,?_,?_,?_,?_,?_,?_,?_,?_,?_,?_,?_,?_,trivial⟩
   ·intro β a w hβ hE hd ho
    refine .inl ⟨rfl,?_⟩
    intro Kq hKq
    have hF : Ext w7b w:=Ext.trans ((Ext.refl _).drew) (hE.to_ext (Nat.le_refl _))
    have e12 : a.eval (.tmp 12) = .pointer (some ⟨w4.heap.size,0,none⟩):=ho 12 (by kernel_rfl)
    rw [eval_tmp] at e12
    have cbA_0w:=Ext.cell hF cbA_0
    have cbA_1w:=Ext.cell hF cbA_1
    have cbA_2w:=Ext.cell hF cbA_2
    have cbA_3w:=Ext.cell hF cbA_3
    have cbA_4w:=Ext.cell hF cbA_4
    have cbA_5w:=Ext.cell hF cbA_5
    clear cbA_0 cbA_1 cbA_2 cbA_3 cbA_4 cbA_5 cbPa_0 cbPa_1 cbPa_2
    clear hd ho
    replace hKq:=Lib.hid hKq;replace hE:=Lib.hid hE;replace hβ:=Lib.hid hβ
    go_simp
    exact hKq.out _ _ rfl (RX.ext hβ.out (by decide) (Ext.refl _))
   ·intro β a w hβ hE hd ho
    refine .inl ⟨rfl,?_⟩
    intro Kq hKq
    have hF : Ext w7b w:=Ext.trans ((Ext.refl _).drew) (hE.to_ext (Nat.le_refl _))
    have e13 : a.eval (.tmp 13) = .pointer (some ⟨w4.heap.size+1,0,none⟩):=ho 13 (by kernel_rfl)
    rw [eval_tmp] at e13
    have cbPa_0w:=Ext.cell hF cbPa_0
    have cbPa_1w:=Ext.cell hF cbPa_1
    have cbPa_2w:=Ext.cell hF cbPa_2
    clear cbA_0 cbA_1 cbA_2 cbA_3 cbA_4 cbA_5 cbPa_0 cbPa_1 cbPa_2
    clear hd ho
    replace hKq:=Lib.hid hKq;replace hE:=Lib.hid hE;replace hβ:=Lib.hid hβ
    go_simp
    exact hKq.out _ _ rfl (RX.ext hβ.out (by decide) (Ext.refl _))
   ·intro β a w hβ hE hd ho
    refine .inl ⟨rfl,?_⟩
    intro Kq hKq
    have hF : Ext w7b w:=Ext.trans ((Ext.refl _).drew) (hE.to_ext (Nat.le_refl _))
    clear cbA_0 cbA_1 cbA_2 cbA_3 cbA_4 cbA_5 cbPa_0 cbPa_1 cbPa_2
    clear hd ho
    replace hKq:=Lib.hid hKq;replace hE:=Lib.hid hE;replace hβ:=Lib.hid hβ
    go_simp
    refine (law35_num 7 w).mono ?_
    rintro e wz ⟨rfl,hZ⟩
    dsimp only [Cell.val]
    go_simp
    exact hKq.out _ _ rfl (RX.ext hβ.out (by decide) hZ)
   ·intro β a w hβ hE hd ho
    refine .inl ⟨rfl,?_⟩
    intro Kq hKq
    have hF : Ext w7b w:=Ext.trans ((Ext.refl _).drew) (hE.to_ext (Nat.le_refl _))
    have e57 : a.eval (.tmp 57) = .agg #[.int .u8 1,.int .i64 7,.int .i64 0,.int .i64 0,.int .i64 0]:=(hd 2 (by kernel_rfl)).1
    rw [eval_tmp] at e57
    clear cbA_0 cbA_1 cbA_2 cbA_3 cbA_4 cbA_5 cbPa_0 cbPa_1 cbPa_2
    clear hd ho
    replace hKq:=Lib.hid hKq;replace hE:=Lib.hid hE;replace hβ:=Lib.hid hβ
    go_simp
    exact hKq.out _ _ ⟨(some ⟨_,0,none⟩,1),rfl,FSb.new hE.out (by decide) hF.size (Cls.litF w #[.int .u8 1,.int .i64 7,.int .i64 0,.int .i64 0,.int .i64 0] [⟨1,7,0,0,0⟩] 1 rfl (by simp [maxLen]) rfl)⟩ (RX.ext hβ.out (by decide) ((Ext.refl _).alloc _))
   ·intro β a w hβ hE hd ho
    refine .inl ⟨rfl,?_⟩
    intro Kq hKq
    have hF : Ext w7b w:=Ext.trans ((Ext.refl _).drew) (hE.to_ext (Nat.le_refl _))
    have e55 : a.eval (.tmp 55) = .agg #[.slice v_aa ma.mem.al.length v_aac,.int .i64 ma.mem.next,.slice v_ak ma.stks.length v_akc,.slice v_ar ma.run.length v_arc,.int .i64 ma.tag,.int .i64 ma.call]:=(hd 0 (by kernel_rfl)).1
    rw [eval_tmp] at e55
    have e56 : a.eval (.tmp 56) = .agg #[.int .i64 m.mem.next,.int .i64 0,.int .i64 m.tag]:=(hd 1 (by kernel_rfl)).1
    rw [eval_tmp] at e56
    obtain ⟨⟨y1_58,y2_58⟩,e58,g58⟩ : ∃ a9 : Option Addr × Nat,a.eval (.tmp 58) = .slice a9.1 1 a9.2∧FSb w7b.drew.heap.size [9] (β,w) (fun w=>Cls w (.slice a9.1 1 a9.2) [⟨1,7,0,0,0⟩]):=(hd 3 (by kernel_rfl)).1
    dsimp only at e58 g58
    rw [eval_tmp] at e58
    replace g58:=Lib.hid g58
    clear cbA_0 cbA_1 cbA_2 cbA_3 cbA_4 cbA_5 cbPa_0 cbPa_1 cbPa_2
    clear hd ho
    replace hKq:=Lib.hid hKq;replace hE:=Lib.hid hE;replace hβ:=Lib.hid hβ
    go_simp
    refine (monitor_Store m.mem.next 0 m.tag (rr.out.1.ext hF) (i64_of_ok hmaok.out) (rr.out.2.1.ext hF) (rr.out.2.2.ext hF) g58.out.read).mono ?_
    rintro e wz ⟨vt,rfl,fM,hZ⟩
    rw [hres9.out] at fM ⊢
    obtain ⟨⟨z1,z2,z3,z4,z5,z6⟩,rfl,q9⟩:=FrMon.a3 fM
    clear fM
    dsimp only at q9 ⊢
    go_simp
    exact hKq.out _ _ ⟨⟨z1,z2,z3,z4,z5,z6⟩,rfl,FSb.new hE.out (by decide) hF.size q9⟩ (RX.ext hβ.out (by decide) hZ)
   ·intro β a w hβ hE hd ho
    refine .inl ⟨rfl,?_⟩
    intro Kq hKq
    have hF : Ext w7b w:=Ext.trans ((Ext.refl _).drew) (hE.to_ext (Nat.le_refl _))
    obtain ⟨⟨y1_59,y2_59,y3_59,y4_59,y5_59,y6_59⟩,e59,g59⟩ : ∃ a9 : A3,a.eval (.tmp 59) = .tuple #[.agg #[.slice a9.a1 mb.mem.al.length a9.c1,.int .i64 mb.mem.next,.slice a9.a2 mb.stks.length a9.c2,.slice a9.a3 mb.run.length a9.c3,.int .i64 mb.tag,.int .i64 mb.call],.int .u8 0,.int .i64 0]∧FSb w7b.drew.heap.size [9] (β,w) (RdA mb a9):=(hd 4 (by kernel_rfl)).1
    dsimp only at e59
    rw [eval_tmp] at e59
    replace g59:=Lib.hid g59
    clear cbA_0 cbA_1 cbA_2 cbA_3 cbA_4 cbA_5 cbPa_0 cbPa_1 cbPa_2
    clear hd ho
    replace hKq:=Lib.hid hKq;replace hE:=Lib.hid hE;replace hβ:=Lib.hid hβ
    go_simp
    exact hKq.out _ _ ⟨_,rfl,FSb.mono g59.out (RX0.ext hβ.out (by decide) (Ext.refl _))⟩ (RX.ext hβ.out (by decide) (Ext.refl _))
   ·intro β a w hβ hE hd ho
    refine .inl ⟨rfl,?_⟩
    intro Kq hKq
    have hF : Ext w7b w:=Ext.trans ((Ext.refl _).drew) (hE.to_ext (Nat.le_refl _))
    obtain ⟨⟨y1_54,y2_54,y3_54,y4_54,y5_54,y6_54⟩,e54,g54⟩ : ∃ a9 : A3,a.eval (.tmp 54) = .tuple #[.agg #[.slice a9.a1 mb.mem.al.length a9.c1,.int .i64 mb.mem.next,.slice a9.a2 mb.stks.length a9.c2,.slice a9.a3 mb.run.length a9.c3,.int .i64 mb.tag,.int .i64 mb.call],.int .u8 0,.int .i64 0]∧FSb w7b.drew.heap.size [9] (β,w) (RdA mb a9):=(hd 5 (by kernel_rfl)).1
    dsimp only at e54
    rw [eval_tmp] at e54
    replace g54:=Lib.hid g54
    clear cbA_0 cbA_1 cbA_2 cbA_3 cbA_4 cbA_5 cbPa_0 cbPa_1 cbPa_2
    clear hd ho
    replace hKq:=Lib.hid hKq;replace hE:=Lib.hid hE;replace hβ:=Lib.hid hβ
    go_simp
    exact hKq.out _ _ ⟨_,rfl,FSb.mono g54.out (RX0.ext hβ.out (by decide) (Ext.refl _))⟩ (RX.ext hβ.out (by decide) (Ext.refl _))
   ·intro β a w hβ hE hd ho
    refine .inl ⟨rfl,?_⟩
    intro Kq hKq
    have hF : Ext w7b w:=Ext.trans ((Ext.refl _).drew) (hE.to_ext (Nat.le_refl _))
    obtain ⟨⟨y1_54,y2_54,y3_54,y4_54,y5_54,y6_54⟩,e54,g54⟩ : ∃ a9 : A3,a.eval (.tmp 54) = .tuple #[.agg #[.slice a9.a1 mb.mem.al.length a9.c1,.int .i64 mb.mem.next,.slice a9.a2 mb.stks.length a9.c2,.slice a9.a3 mb.run.length a9.c3,.int .i64 mb.tag,.int .i64 mb.call],.int .u8 0,.int .i64 0]∧FSb w7b.drew.heap.size [9] (β,w) (RdA mb a9):=(hd 5 (by kernel_rfl)).1
    dsimp only at e54
    rw [eval_tmp] at e54
    replace g54:=Lib.hid g54
    clear cbA_0 cbA_1 cbA_2 cbA_3 cbA_4 cbA_5 cbPa_0 cbPa_1 cbPa_2
    clear hd ho
    replace hKq:=Lib.hid hKq;replace hE:=Lib.hid hE;replace hβ:=Lib.hid hβ
    go_simp
    exact hKq.out _ _ rfl (RX.ext hβ.out (by decide) (Ext.refl _))
   ·intro β a w hβ hE hd ho
    refine .inl ⟨rfl,?_⟩
    intro Kq hKq
    have hF : Ext w7b w:=Ext.trans ((Ext.refl _).drew) (hE.to_ext (Nat.le_refl _))
    obtain ⟨⟨y1_54,y2_54,y3_54,y4_54,y5_54,y6_54⟩,e54,g54⟩ : ∃ a9 : A3,a.eval (.tmp 54) = .tuple #[.agg #[.slice a9.a1 mb.mem.al.length a9.c1,.int .i64 mb.mem.next,.slice a9.a2 mb.stks.length a9.c2,.slice a9.a3 mb.run.length a9.c3,.int .i64 mb.tag,.int .i64 mb.call],.int .u8 0,.int .i64 0]∧FSb w7b.drew.heap.size [9] (β,w) (RdA mb a9):=(hd 5 (by kernel_rfl)).1
    dsimp only at e54
    rw [eval_tmp] at e54
    replace g54:=Lib.hid g54
    clear cbA_0 cbA_1 cbA_2 cbA_3 cbA_4 cbA_5 cbPa_0 cbPa_1 cbPa_2
    clear hd ho
    replace hKq:=Lib.hid hKq;replace hE:=Lib.hid hE;replace hβ:=Lib.hid hβ
    go_simp
    exact hKq.out _ _ rfl (RX.ext hβ.out (by decide) (Ext.refl _))
   ·intro β a w hβ hE hd ho
    refine .inl ⟨rfl,?_⟩
    intro Kq hKq
    have hF : Ext w7b w:=Ext.trans ((Ext.refl _).drew) (hE.to_ext (Nat.le_refl _))
    clear cbA_0 cbA_1 cbA_2 cbA_3 cbA_4 cbA_5 cbPa_0 cbPa_1 cbPa_2
    clear hd ho
    replace hKq:=Lib.hid hKq;replace hE:=Lib.hid hE;replace hβ:=Lib.hid hβ
    go_simp
    exact hKq.out _ _ ⟨_,rfl,hF.size,#[.slice none 0 0,.int .i64 0,.slice none 0 0,.slice none 0 0,.int .i64 0,.int .i64 0],rfl,Box.new _ _ _⟩ (RX.made hβ.out ((Ext.refl _).alloc _) (fun x e=>by cases e;exact ⟨Nat.le_refl _,by simp⟩))
   ·intro β a w hβ hE hd ho
    refine .inl ⟨rfl,?_⟩
    intro Kq hKq
    have hF : Ext w7b w:=Ext.trans ((Ext.refl _).drew) (hE.to_ext (Nat.le_refl _))
    obtain ⟨bq,eq,hNb,vs0,hv0,hbx⟩ : ∃ b,a.eval (.tmp 15) = .pointer (some ⟨b,0,none⟩)∧w7b.drew.heap.size≤b∧BoxT 35 6 w b:=(hd 9 (by kernel_rfl)).1
    have eqb : β 9=some (.pointer (some ⟨bq,0,none⟩)):=(hd 9 (by kernel_rfl)).2.trans (congrArg some eq)
    have eq0:=eq
    rw [eval_tmp] at eq
    obtain ⟨u0,u1,u2,u3,u4,u5,rfl⟩ : ∃ u0 u1 u2 u3 u4 u5,vs0=#[u0,u1,u2,u3,u4,u5]:=by match vs0,hv0 with | ⟨[u0,u1,u2,u3,u4,u5]⟩,_=>exact ⟨u0,u1,u2,u3,u4,u5,rfl⟩
    have bc0 : World.cell? w ⟨bq,0,none⟩=some u0:=hbx.cell 0
    have bf0:=hbx.frozen 0
    have bc1 : World.cell? w ⟨bq,1,none⟩=some u1:=hbx.cell 1
    have bf1:=hbx.frozen 1
    have bc2 : World.cell? w ⟨bq,2,none⟩=some u2:=hbx.cell 2
    have bf2:=hbx.frozen 2
    have bc3 : World.cell? w ⟨bq,3,none⟩=some u3:=hbx.cell 3
    have bf3:=hbx.frozen 3
    have bc4 : World.cell? w ⟨bq,4,none⟩=some u4:=hbx.cell 4
    have bf4:=hbx.frozen 4
    have bc5 : World.cell? w ⟨bq,5,none⟩=some u5:=hbx.cell 5
    have bf5:=hbx.frozen 5
    have hbl:=hbx.lt
    replace hbx:=Lib.hid hbx;replace eq0:=Lib.hid eq0;replace eqb:=Lib.hid eqb
    obtain ⟨⟨y1_60,y2_60,y3_60,y4_60,y5_60,y6_60⟩,e60,g60⟩ : ∃ a9 : A3,a.eval (.tmp 60) = .agg #[.slice a9.a1 mb.mem.al.length a9.c1,.int .i64 mb.mem.next,.slice a9.a2 mb.stks.length a9.c2,.slice a9.a3 mb.run.length a9.c3,.int .i64 mb.tag,.int .i64 mb.call]∧FSb w7b.drew.heap.size [9] (β,w) (RdA mb a9):=(hd 6 (by kernel_rfl)).1
    dsimp only at e60
    rw [eval_tmp] at e60
    replace g60:=Lib.hid g60
    clear cbA_0 cbA_1 cbA_2 cbA_3 cbA_4 cbA_5 cbPa_0 cbPa_1 cbPa_2
    clear hd ho
    replace hKq:=Lib.hid hKq;replace hE:=Lib.hid hE;replace hβ:=Lib.hid hβ
    go_simp
    have hBx : Box (World.setCell (World.setCell (World.setCell (World.setCell (World.setCell (World.setCell w ⟨bq,0,none⟩ (.slice y1_60 mb.mem.al.length y2_60)) ⟨bq,1,none⟩ (.int .i64 mb.mem.next)) ⟨bq,2,none⟩ (.slice y3_60 mb.stks.length y4_60)) ⟨bq,3,none⟩ (.slice y5_60 mb.run.length y6_60)) ⟨bq,4,none⟩ (.int .i64 mb.tag)) ⟨bq,5,none⟩ (.int .i64 mb.call)) bq 35 #[.slice y1_60 mb.mem.al.length y2_60,.int .i64 mb.mem.next,.slice y3_60 mb.stks.length y4_60,.slice y5_60 mb.run.length y6_60,.int .i64 mb.tag,.int .i64 mb.call]:=(Box.set (Box.set (Box.set (Box.set (Box.set (Box.set hbx.out 0 (.slice y1_60 mb.mem.al.length y2_60)) 1 (.int .i64 mb.mem.next)) 2 (.slice y3_60 mb.stks.length y4_60)) 3 (.slice y5_60 mb.run.length y6_60)) 4 (.int .i64 mb.tag)) 5 (.int .i64 mb.call))
    have hXR:=RX.store (X:=XM w7b.drew.heap.size [9] mb #[]) (i:=10) (v:=a.eval (.tmp 15)) hβ.out (by decide) (j:=9) (by decide) eqb.out hNb (ExtBut.trans (ExtBut.trans (ExtBut.trans (ExtBut.trans (ExtBut.trans (ExtBut.setCell w ⟨bq,0,none⟩ (.slice y1_60 mb.mem.al.length y2_60)) (ExtBut.setCell (World.setCell w ⟨bq,0,none⟩ (.slice y1_60 mb.mem.al.length y2_60)) ⟨bq,1,none⟩ (.int .i64 mb.mem.next))) (ExtBut.setCell (World.setCell (World.setCell w ⟨bq,0,none⟩ (.slice y1_60 mb.mem.al.length y2_60)) ⟨bq,1,none⟩ (.int .i64 mb.mem.next)) ⟨bq,2,none⟩ (.slice y3_60 mb.stks.length y4_60))) (ExtBut.setCell (World.setCell (World.setCell (World.setCell w ⟨bq,0,none⟩ (.slice y1_60 mb.mem.al.length y2_60)) ⟨bq,1,none⟩ (.int .i64 mb.mem.next)) ⟨bq,2,none⟩ (.slice y3_60 mb.stks.length y4_60)) ⟨bq,3,none⟩ (.slice y5_60 mb.run.length y6_60))) (ExtBut.setCell (World.setCell (World.setCell (World.setCell (World.setCell w ⟨bq,0,none⟩ (.slice y1_60 mb.mem.al.length y2_60)) ⟨bq,1,none⟩ (.int .i64 mb.mem.next)) ⟨bq,2,none⟩ (.slice y3_60 mb.stks.length y4_60)) ⟨bq,3,none⟩ (.slice y5_60 mb.run.length y6_60)) ⟨bq,4,none⟩ (.int .i64 mb.tag))) (ExtBut.setCell (World.setCell (World.setCell (World.setCell (World.setCell (World.setCell w ⟨bq,0,none⟩ (.slice y1_60 mb.mem.al.length y2_60)) ⟨bq,1,none⟩ (.int .i64 mb.mem.next)) ⟨bq,2,none⟩ (.slice y3_60 mb.stks.length y4_60)) ⟨bq,3,none⟩ (.slice y5_60 mb.run.length y6_60)) ⟨bq,4,none⟩ (.int .i64 mb.tag)) ⟨bq,5,none⟩ (.int .i64 mb.call))) hbx.out hBx rfl (fun hR0=>⟨fun _=>⟨⟨y1_60,y2_60,y3_60,y4_60,y5_60,y6_60⟩,rfl,FSb.mono g60.out hR0⟩,fun h=>by cases h⟩)
    exact hKq.out undef (World.setCell (World.setCell (World.setCell (World.setCell (World.setCell (World.setCell w ⟨bq,0,none⟩ (.slice y1_60 mb.mem.al.length y2_60)) ⟨bq,1,none⟩ (.int .i64 mb.mem.next)) ⟨bq,2,none⟩ (.slice y3_60 mb.stks.length y4_60)) ⟨bq,3,none⟩ (.slice y5_60 mb.run.length y6_60)) ⟨bq,4,none⟩ (.int .i64 mb.tag)) ⟨bq,5,none⟩ (.int .i64 mb.call)) ⟨bq,_,eq0.out,hNb,hBx,hXR.1⟩ hXR.2
   ·intro β a w hβ hE hd ho
    refine .inl ⟨rfl,?_⟩
    intro Kq hKq
    have hF : Ext w7b w:=Ext.trans ((Ext.refl _).drew) (hE.to_ext (Nat.le_refl _))
    have e61 : a.eval (.tmp 61) = .int .u8 0:=(hd 7 (by kernel_rfl)).1
    rw [eval_tmp] at e61
    clear cbA_0 cbA_1 cbA_2 cbA_3 cbA_4 cbA_5 cbPa_0 cbPa_1 cbPa_2
    clear hd ho
    replace hKq:=Lib.hid hKq;replace hE:=Lib.hid hE;replace hβ:=Lib.hid hβ
    go_simp
    exact hKq.out _ _ rfl (RX.ext hβ.out (by decide) (Ext.refl _))
   ·intro β a w hβ hE hd ho
    refine .inl ⟨rfl,?_⟩
    intro Kq hKq
    have hF : Ext w7b w:=Ext.trans ((Ext.refl _).drew) (hE.to_ext (Nat.le_refl _))
    have e62 : a.eval (.tmp 62) = .int .i64 0:=(hd 8 (by kernel_rfl)).1
    rw [eval_tmp] at e62
    clear cbA_0 cbA_1 cbA_2 cbA_3 cbA_4 cbA_5 cbPa_0 cbPa_1 cbPa_2
    clear hd ho
    replace hKq:=Lib.hid hKq;replace hE:=Lib.hid hE;replace hβ:=Lib.hid hβ
    go_simp
    exact hKq.out _ _ rfl (RX.ext hβ.out (by decide) (Ext.refl _))
  ·intro vals β Ac wq hAc hE hv hsv hbv
   have hF : Ext w7b wq:=Ext.trans ((Ext.refl _).drew) (hE.to_ext (Nat.le_refl _))
   obtain ⟨bB_a,vs9,eb,-,bB,hXX⟩:=hv 10 (by decide)
   obtain ⟨⟨v_ba,v_bac,v_bk,v_bkc,v_br,v_brc⟩,rfl,hq9⟩:=hXX.1 rfl
   dsimp only at bB
   have e1 : vals 9 = .pointer (some ⟨bB_a,0,none⟩):=((hsv 9).trans (hsv 10).symm).trans eb
   have e2 : vals 11 = .int .u8 0:=hv 11 (by decide)
   have e3 : vals 12 = .int .i64 0:=hv 12 (by decide)
   have qb : Fq (fun b=>True) wq (fun w=>RdA mb ⟨v_ba,v_bac,v_bk,v_bkc,v_br,v_brc⟩ w):=Fq.mono hq9 (fun b h1 hl=>trivial)
   clear hv hsv hbv hE eb hXX hq9 cbA_0 cbA_1 cbA_2 cbA_3 cbA_4 cbA_5 cbPa_0 cbPa_1 cbPa_2
   subst hAc
   simp only [putAll]
   go_simp
   try rw [e1,e2,e3]
   clear e1 e2 e3
   obtain ⟨w9q,hwq⟩ : ∃ z,wq=z:=⟨_,rfl⟩
   rw [hwq] at hF qb bB ⊢
   clear hwq
   replace bM:=bM.ext hF
   replace bP:=bP.ext hF
   replace bA:=bA.ext hF
   replace bPa:=bPa.ext hF
   replace Ga:=Lib.hid (Fq.ext Ga.out hF)
   have hF10:=Ext.trans hE9x hF
   have Gb:=Lib.hid qb;clear qb
   clear rr hres9
   obtain ⟨bA_0,bA_1,bA_2,bA_3,bA_4,bA_5,bA_l⟩:=bA.c6
   go_wp2_with fail
   clear bA_0 bA_1 bA_2 bA_3 bA_4 bA_5 bA_l
   refine (mon_Check' Ga.out.read.1 (i64_of_ok hmaok.out) Ga.out.read.2.1 Ga.out.read.2.2).mono ?_
   rintro e w11 ⟨rfl,hE11⟩
   replace bM:=bM.ext hE11
   replace bP:=bP.ext hE11
   replace bA:=bA.ext hE11
   replace bPa:=bPa.ext hE11
   replace bB:=bB.ext hE11
   replace Ga:=Lib.hid (Fq.ext Ga.out hE11)
   replace Gb:=Lib.hid (Fq.ext Gb.out hE11)
   have hF11:=Ext.trans hF10 hE11
   rw [monErr_of hmaok.out]
   obtain ⟨bM_0,bM_1,bM_2,bM_3,bM_4,bM_5,bM_l⟩:=bM.c6
   obtain ⟨bA_0,bA_1,bA_2,bA_3,bA_4,bA_5,bA_l⟩:=bA.c6
   obtain ⟨bPa_0,bPa_1,bPa_2,bPa_l⟩:=bPa.c3
   obtain ⟨bB_0,bB_1,bB_2,bB_3,bB_4,bB_5,bB_l⟩:=bB.c6
   go_wp2_with fail
   clear bM_0 bM_1 bM_2 bM_3 bM_4 bM_5 bM_l bA_0 bA_1 bA_2 bA_3 bA_4 bA_5 bA_l bPa_0 bPa_1 bPa_2 bPa_l bB_0 bB_1 bB_2 bB_3 bB_4 bB_5 bB_l
   refine (law35_loads m.mem.next 0 m.tag 7 x7 Gb.out.read.1 (i64_of_ok hmbok.out) Gb.out.read.2.1 Gb.out.read.2.2 hlb.out).mono ?_
   rintro e w12 ⟨rfl,hE12⟩
   replace bM:=bM.ext hE12
   replace bP:=bP.ext hE12
   replace bA:=bA.ext hE12
   replace bPa:=bPa.ext hE12
   replace bB:=bB.ext hE12
   replace Ga:=Lib.hid (Fq.ext Ga.out hE12)
   replace Gb:=Lib.hid (Fq.ext Gb.out hE12)
   have hF12:=Ext.trans hF11 hE12
   obtain ⟨bM_0,bM_1,bM_2,bM_3,bM_4,bM_5,bM_l⟩:=bM.c6
   obtain ⟨bPa_0,bPa_1,bPa_2,bPa_l⟩:=bPa.c3
   go_wp2_with fail
   clear bM_0 bM_1 bM_2 bM_3 bM_4 bM_5 bM_l bPa_0 bPa_1 bPa_2 bPa_l
   refine (ref26_At m.mem.next (hA.out.ext (hF8.trans hF12))).mono ?_
   rintro e w13 ⟨rfl,hE13⟩
   replace bM:=bM.ext hE13
   replace bP:=bP.ext hE13
   replace bA:=bA.ext hE13
   replace bPa:=bPa.ext hE13
   replace bB:=bB.ext hE13
   replace Ga:=Lib.hid (Fq.ext Ga.out hE13)
   replace Gb:=Lib.hid (Fq.ext Gb.out hE13)
   have hF13:=Ext.trans hF12 hE13
   rw [hix.out]
   go_wp2_with fail
   go_meet
   exact hF13
 case rest =>
  obtain ⟨wz,hwz⟩ : ∃ z,wc=z:=⟨_,rfl⟩
  rw [hwz] at hcut ⊢
  clear hwz
  clear Ga
  clear bA
  clear bPa
  replace bM:=bM.ext hcut
  replace bP:=bP.ext hcut
  have hF9:=Ext.trans hF8 hcut
  obtain ⟨⟨mc,pc9,uc,ec⟩,hre⟩ : ∃ z,retagM m ⟨pa,po,pt⟩ n kind 0=z:=⟨_,rfl⟩
  obtain ⟨c1,c2,c3⟩:=pc9
  replace hre:=Lib.hid hre
  obtain ⟨bM_0,bM_1,bM_2,bM_3,bM_4,bM_5,bM_l⟩:=bM.c6
  obtain ⟨bP_0,bP_1,bP_2,bP_l⟩:=bP.c3
  go_wp2_with fail
  clear bM_0 bM_1 bM_2 bM_3 bM_4 bM_5 bM_l bP_0 bP_1 bP_2 bP_l
  refine (monitor_Retag pa po pt n 0 (hp.out.ext hF9) hkb.out (hA.out.ext hF9) hn.out (hK.out.ext hF9) (hR.out.ext hF9)).mono ?_
  rintro e w10 ⟨vt,rfl,fM,hE10⟩
  replace bM:=bM.ext hE10
  replace bP:=bP.ext hE10
  have hF10:=Ext.trans hF9 hE10
  rw [hre.out] at fM ⊢
  try dsimp only [Ptr.val] at fM ⊢
  obtain ⟨csa,css,csr,rfl,qc⟩:=FrMon.parts fM
  clear fM
  obtain ⟨v_ca,v_cac,rfl,-⟩:=(qc.read).1.form
  obtain ⟨v_ck,v_ckc,rfl,-⟩:=(qc.read).2.1.form
  obtain ⟨v_cr,v_crc,rfl,-⟩:=(qc.read).2.2.form
  try dsimp only at qc ⊢
  have Gc:=Lib.hid (Fq.mono (S':=(fun b=>True)) qc (fun b h1 _=>by exact trivial))
  clear qc
  go_upto_region 10 with fail
  have bC:=Box.new w10 35 #[.slice v_ca mc.mem.al.length v_cac,.int .i64 mc.mem.next,.slice v_ck mc.stks.length v_ckc,.slice v_cr mc.run.length v_crc,.int .i64 mc.tag,.int .i64 mc.call]
  have hza : (World.alloc w10 (.cells #[.slice v_ca mc.mem.al.length v_cac,.int .i64 mc.mem.next,.slice v_ck mc.stks.length v_ckc,.slice v_cr mc.run.length v_crc,.int .i64 mc.tag,.int .i64 mc.call] 35)).heap.size=w10.heap.size+1:=by rw [World.size_alloc]
  have hx11 : Ext w10 (World.alloc w10 (.cells #[.slice v_ca mc.mem.al.length v_cac,.int .i64 mc.mem.next,.slice v_ck mc.stks.length v_ckc,.slice v_cr mc.run.length v_crc,.int .i64 mc.tag,.int .i64 mc.call] 35)):=(Ext.refl _).alloc _
  obtain ⟨w11b,hw11⟩ : ∃ z,World.alloc w10 (.cells #[.slice v_ca mc.mem.al.length v_cac,.int .i64 mc.mem.next,.slice v_ck mc.stks.length v_ckc,.slice v_cr mc.run.length v_crc,.int .i64 mc.tag,.int .i64 mc.call] 35)=z:=⟨_,rfl⟩
  rw [hw11] at bC hx11 hza ⊢
  clear hw11
  have hzb0:=hza
  clear hza
  replace bM:=bM.ext hx11
  replace bP:=bP.ext hx11
  replace Gc:=Lib.hid (Fq.ext Gc.out hx11)
  have hF12:=Ext.trans hF10 hx11
  have bQ:=Box.new w11b 26 #[.int .i64 c1,.int .i64 c2,.int .i64 c3]
  rw [hzb0] at bQ
  have hza : (World.alloc w11b (.cells #[.int .i64 c1,.int .i64 c2,.int .i64 c3] 26)).heap.size=w10.heap.size+2:=by rw [World.size_alloc,hzb0]
  have hx13 : Ext w11b (World.alloc w11b (.cells #[.int .i64 c1,.int .i64 c2,.int .i64 c3] 26)):=(Ext.refl _).alloc _
  obtain ⟨w13b,hw13⟩ : ∃ z,World.alloc w11b (.cells #[.int .i64 c1,.int .i64 c2,.int .i64 c3] 26)=z:=⟨_,rfl⟩
  rw [hw13] at bQ hx13 hza ⊢
  clear hw13
  clear hzb0
  have hzb1:=hza
  clear hza
  replace bM:=bM.ext hx13
  replace bP:=bP.ext hx13
  replace bC:=bC.ext hx13
  replace Gc:=Lib.hid (Fq.ext Gc.out hx13)
  have hF14:=Ext.trans hF12 hx13
  clear hzb1
  by_cases hne : ec=0
  rotate_left
  ·skip
   have hz9:=retagM_no hre.out (.inl hne)
   simp only [Ptr.zero,Ptr.mk.injEq] at hz9
   obtain ⟨rfl,rfl,rfl⟩:=hz9
   have q1 : (ec != 0)=true:=by simpa using hne
   clear hne
   obtain ⟨bQ_0,bQ_1,bQ_2,bQ_l⟩:=bQ.c3
   go_wp2
   go_ret
   exact ⟨rfl,hF14⟩
  subst hne
  by_cases hne : uc=0
  rotate_left
  ·skip
   have hz9:=retagM_no hre.out (.inr hne)
   simp only [Ptr.zero,Ptr.mk.injEq] at hz9
   obtain ⟨rfl,rfl,rfl⟩:=hz9
   have q1 : (uc != 0)=true:=by simpa using hne
   clear hne
   obtain ⟨bQ_0,bQ_1,bQ_2,bQ_l⟩:=bQ.c3
   go_wp2
   go_ret
   exact ⟨rfl,hF14⟩
  subst hne
  obtain ⟨-,hkind,hcok,hq,hct,-,-,-,htl,hn1,hn2,-⟩:=retagM_inv hre.out rfl
  obtain ⟨⟨y9,l9,v9,hl9,hv9⟩,hst9⟩:=retag_fresh hre.out
  simp only [Ptr.mk.injEq] at hq
  obtain ⟨hq1,hq2,hq3⟩:=hq
  subst c1 c2 c3
  have hle : decide (mc.tag≤m.tag)=false:=decide_eq_false (by omega)
  have hke : kindErr kind=0:=by simp [kindErr,hkind]
  clear hct htl hkind
  replace hcok:=Lib.hid hcok;replace hl9:=Lib.hid hl9;replace hv9:=Lib.hid hv9;replace hst9:=Lib.hid hst9;replace hke:=Lib.hid hke;replace hn1:=Lib.hid hn1;replace hn2:=Lib.hid hn2
  obtain ⟨bC_0,bC_1,bC_2,bC_3,bC_4,bC_5,bC_l⟩:=bC.c6
  go_wp2_with fail
  clear bC_0 bC_1 bC_2 bC_3 bC_4 bC_5 bC_l
  refine (mon_Check' Gc.out.read.1 (i64_of_ok hcok.out) Gc.out.read.2.1 Gc.out.read.2.2).mono ?_
  rintro e w15 ⟨rfl,hE15⟩
  replace bM:=bM.ext hE15
  replace bP:=bP.ext hE15
  replace bC:=bC.ext hE15
  replace bQ:=bQ.ext hE15
  replace Gc:=Lib.hid (Fq.ext Gc.out hE15)
  have hF15:=Ext.trans hF14 hE15
  rw [monErr_of hcok.out]
  obtain ⟨bC_0,bC_1,bC_2,bC_3,bC_4,bC_5,bC_l⟩:=bC.c6
  go_wp2_with fail
  clear bC_0 bC_1 bC_2 bC_3 bC_4 bC_5 bC_l
  refine (ref35_Check Gc.out.read.1 (i64_of_ok hcok.out) Gc.out.read.2.1 Gc.out.read.2.2).mono ?_
  rintro e w16 ⟨rfl,hE16⟩
  replace bM:=bM.ext hE16
  replace bP:=bP.ext hE16
  replace bC:=bC.ext hE16
  replace bQ:=bQ.ext hE16
  replace Gc:=Lib.hid (Fq.ext Gc.out hE16)
  have hF16:=Ext.trans hF15 hE16
  rw [monErr_of hcok.out]
  obtain ⟨bM_0,bM_1,bM_2,bM_3,bM_4,bM_5,bM_l⟩:=bM.c6
  obtain ⟨bP_0,bP_1,bP_2,bP_l⟩:=bP.c3
  obtain ⟨bC_0,bC_1,bC_2,bC_3,bC_4,bC_5,bC_l⟩:=bC.c6
  obtain ⟨bQ_0,bQ_1,bQ_2,bQ_l⟩:=bQ.c3
  go_wp2_with fail
  clear bM_0 bM_1 bM_2 bM_3 bM_4 bM_5 bM_l bP_0 bP_1 bP_2 bP_l bC_0 bC_1 bC_2 bC_3 bC_4 bC_5 bC_l bQ_0 bQ_1 bQ_2 bQ_l
  refine (monitor_Load pa po m.tag n Gc.out.read.1 (i64_of_ok hcok.out) Gc.out.read.2.1 Gc.out.read.2.2).mono ?_
  rintro e w17 ⟨vt,vl,rfl,fM,fL,hE17⟩
  replace bM:=bM.ext hE17
  replace bP:=bP.ext hE17
  replace bC:=bC.ext hE17
  replace bQ:=bQ.ext hE17
  replace Gc:=Lib.hid (Fq.ext Gc.out hE17)
  have hF17:=Ext.trans hF16 hE17
  rw [hl9.out] at fM fL ⊢
  dsimp only at fM fL ⊢
  obtain ⟨dsa,dss,dsr,rfl,qd⟩:=FrMon.parts fM
  clear fM
  obtain ⟨v_da,v_dac,rfl,-⟩:=(qd.read).1.form
  obtain ⟨v_dk,v_dkc,rfl,-⟩:=(qd.read).2.1.form
  obtain ⟨v_dr,v_drc,rfl,-⟩:=(qd.read).2.2.form
  try dsimp only at qd ⊢
  obtain ⟨ldx,ldc,rfl,-⟩:=fL.read.form
  clear fL
  have Gd:=Lib.hid (Fq.mono (S':=(fun b=>True)) qd (fun b h1 _=>by exact trivial))
  clear qd
  go_upto_region 15 with fail
  have bD:=Box.new w17 35 #[.slice v_da y9.mem.al.length v_dac,.int .i64 y9.mem.next,.slice v_dk y9.stks.length v_dkc,.slice v_dr y9.run.length v_drc,.int .i64 y9.tag,.int .i64 y9.call]
  have hza : (World.alloc w17 (.cells #[.slice v_da y9.mem.al.length v_dac,.int .i64 y9.mem.next,.slice v_dk y9.stks.length v_dkc,.slice v_dr y9.run.length v_drc,.int .i64 y9.tag,.int .i64 y9.call] 35)).heap.size=w17.heap.size+1:=by rw [World.size_alloc]
  have hx18 : Ext w17 (World.alloc w17 (.cells #[.slice v_da y9.mem.al.length v_dac,.int .i64 y9.mem.next,.slice v_dk y9.stks.length v_dkc,.slice v_dr y9.run.length v_drc,.int .i64 y9.tag,.int .i64 y9.call] 35)):=(Ext.refl _).alloc _
  obtain ⟨w18b,hw18⟩ : ∃ z,World.alloc w17 (.cells #[.slice v_da y9.mem.al.length v_dac,.int .i64 y9.mem.next,.slice v_dk y9.stks.length v_dkc,.slice v_dr y9.run.length v_drc,.int .i64 y9.tag,.int .i64 y9.call] 35)=z:=⟨_,rfl⟩
  rw [hw18] at bD hx18 hza ⊢
  clear hw18
  have hzb0:=hza
  clear hza
  replace bM:=bM.ext hx18
  replace bP:=bP.ext hx18
  replace bC:=bC.ext hx18
  replace bQ:=bQ.ext hx18
  replace Gc:=Lib.hid (Fq.ext Gc.out hx18)
  replace Gd:=Lib.hid (Fq.ext Gd.out hx18)
  have hF19:=Ext.trans hF17 hx18
  clear hzb0
  clear Gd
  clear bD
  clear hle
  go_cut [178] from 169 to 178 (fun s178 wx=>s178 = .bool false∧wx=w18b)
  case first =>
   have hv8:=hv9.out
   rcases hv8 with rfl | rfl
   ·go_wp2_with fail
    go_meet
    exact ⟨rfl,rfl⟩
   ·go_wp2_with fail
    go_meet
    exact ⟨rfl,rfl⟩
  case rest =>
   obtain ⟨rfl,hwc⟩:=hcut
   rw [hwc]
   clear hwc
   go_wp2_with fail
   refine (grant_Writes _ hkb.out).mono ?_
   rintro e w20 ⟨rfl,hE20⟩
   replace bM:=bM.ext hE20
   replace bP:=bP.ext hE20
   replace bC:=bC.ext hE20
   replace bQ:=bQ.ext hE20
   replace Gc:=Lib.hid (Fq.ext Gc.out hE20)
   have hF20:=Ext.trans hF19 hE20
   rw [hke.out]
   by_cases hk1 : kind=1
   ·skip
    have q1 : (kind == 1)=true:=by rw [hk1];rfl
    have q2 : writesOf kind=false:=by rw [hk1];rfl
    clear hk1
    go_wp2
    go_ret
    exact ⟨rfl,hF20⟩
   have q1 : (kind == 1)=false:=beq_eq_false_iff_ne.2 hk1
   replace hk1:=Lib.hid hk1
   go_wp2_with fail
   refine (law35_num 1 _).mono ?_
   rintro e w21 ⟨rfl,hE21⟩
   replace bM:=bM.ext hE21
   replace bP:=bP.ext hE21
   replace bC:=bC.ext hE21
   replace bQ:=bQ.ext hE21
   replace Gc:=Lib.hid (Fq.ext Gc.out hE21)
   have hF21:=Ext.trans hF20 hE21
   dsimp only [Cell.val]
   go_wp2_with fail
   refine (law35_num 2 _).mono ?_
   rintro e w22 ⟨rfl,hE22⟩
   replace bM:=bM.ext hE22
   replace bP:=bP.ext hE22
   replace bC:=bC.ext hE22
   replace bQ:=bQ.ext hE22
   replace Gc:=Lib.hid (Fq.ext Gc.out hE22)
   have hF22:=Ext.trans hF21 hE22
   dsimp only [Cell.val]
   go_upto_region 21 with fail
   have bL:=Box.new w22 28 #[.int .u8 1,.int .i64 1,.int .i64 0,.int .i64 0,.int .i64 0,.int .u8 1,.int .i64 2,.int .i64 0,.int .i64 0,.int .i64 0]
   have hza : (World.alloc w22 (.cells #[.int .u8 1,.int .i64 1,.int .i64 0,.int .i64 0,.int .i64 0,.int .u8 1,.int .i64 2,.int .i64 0,.int .i64 0,.int .i64 0] 28)).heap.size=w22.heap.size+1:=by rw [World.size_alloc]
   have hx23 : Ext w22 (World.alloc w22 (.cells #[.int .u8 1,.int .i64 1,.int .i64 0,.int .i64 0,.int .i64 0,.int .u8 1,.int .i64 2,.int .i64 0,.int .i64 0,.int .i64 0] 28)):=(Ext.refl _).alloc _
   obtain ⟨w23b,hw23⟩ : ∃ z,World.alloc w22 (.cells #[.int .u8 1,.int .i64 1,.int .i64 0,.int .i64 0,.int .i64 0,.int .u8 1,.int .i64 2,.int .i64 0,.int .i64 0,.int .i64 0] 28)=z:=⟨_,rfl⟩
   rw [hw23] at bL hx23 hza ⊢
   clear hw23
   have hzb0:=hza
   clear hza
   replace bM:=bM.ext hx23
   replace bP:=bP.ext hx23
   replace bC:=bC.ext hx23
   replace bQ:=bQ.ext hx23
   replace Gc:=Lib.hid (Fq.ext Gc.out hx23)
   have hF24:=Ext.trans hF22 hx23
   clear hzb0
   have hL2 : Cls w23b (.slice (some ⟨w22.heap.size,0,none⟩) 2 2) [⟨1,1,0,0,0⟩,⟨1,2,0,0,0⟩]:=(Box.own (k:=5) (n:=2) bL (by simp [maxLen]) rfl).sl
   have hL1 : Cls w23b (.slice (some ⟨w22.heap.size,0,none⟩) 1 2) [⟨1,1,0,0,0⟩]:=Cls.cut hL2 0 1 (by decide)
   clear bL
   have hn3 : n=1∨n=2:=by have:=hn1.out;have:=hn2.out;omega
   clear hn1 hn2
   rcases hn3 with rfl | rfl
   ·skip
    obtain ⟨md,hmd⟩:=hst9.out hk1.out [⟨1,1,0,0,0⟩] rfl (by decide)
    have hmdok:=Lib.hid (storeM_inv hmd).2.2.1;have hres9:=Lib.hid hmd;clear hmd
    have hLc:=Lib.hid hL1;clear hL1 hL2
    have rr:=Lib.hid Gc.out.read
    go_upto_region 23 with fail
    have cbC_0 : World.cell? w23b ⟨w10.heap.size,0,none⟩=some (.slice v_ca mc.mem.al.length v_cac):=bC.cell 0
    have cbC_1 : World.cell? w23b ⟨w10.heap.size,1,none⟩=some (.int .i64 mc.mem.next):=bC.cell 1
    have cbC_2 : World.cell? w23b ⟨w10.heap.size,2,none⟩=some (.slice v_ck mc.stks.length v_ckc):=bC.cell 2
    have cbC_3 : World.cell? w23b ⟨w10.heap.size,3,none⟩=some (.slice v_cr mc.run.length v_crc):=bC.cell 3
    have cbC_4 : World.cell? w23b ⟨w10.heap.size,4,none⟩=some (.int .i64 mc.tag):=bC.cell 4
    have cbC_5 : World.cell? w23b ⟨w10.heap.size,5,none⟩=some (.int .i64 mc.call):=bC.cell 5
    have cbQ_0 : World.cell? w23b ⟨w10.heap.size+1,0,none⟩=some (.int .i64 pa):=bQ.cell 0
    have cbQ_1 : World.cell? w23b ⟨w10.heap.size+1,1,none⟩=some (.int .i64 po):=bQ.cell 1
    have cbQ_2 : World.cell? w23b ⟨w10.heap.size+1,2,none⟩=some (.int .i64 m.tag):=bQ.cell 2
    refine wp_region_st (R:=RX w23b.drew.heap.size [10] (XM w23b.drew.heap.size [10] md #[])) RX.refl (fun _ _ _=>RX.trans XM_st) [PrS.eq _ (.agg #[.slice v_ca mc.mem.al.length v_cac,.int .i64 mc.mem.next,.slice v_ck mc.stks.length v_ckc,.slice v_cr mc.run.length v_crc,.int .i64 mc.tag,.int .i64 mc.call]),PrS.eq _ (.agg #[.int .i64 pa,.int .i64 po,.int .i64 m.tag]),PrS.eq _ (.slice (some ⟨w22.heap.size,0,none⟩) 2 2),PrS.eq _ (.int .i64 1),PrS.eq _ (.slice (some ⟨w22.heap.size,0,none⟩) 1 2),(PrFS w23b.drew.heap.size [10] (XM w23b.drew.heap.size [10] md #[]) (fun a9 : A3 => .tuple #[.agg #[.slice a9.a1 md.mem.al.length a9.c1,.int .i64 md.mem.next,.slice a9.a2 md.stks.length a9.c2,.slice a9.a3 md.run.length a9.c3,.int .i64 md.tag,.int .i64 md.call],.int .u8 0,.int .i64 0]) (RdA md)),(PrFS w23b.drew.heap.size [10] (XM w23b.drew.heap.size [10] md #[]) (fun a9 : A3 => .tuple #[.agg #[.slice a9.a1 md.mem.al.length a9.c1,.int .i64 md.mem.next,.slice a9.a2 md.stks.length a9.c2,.slice a9.a3 md.run.length a9.c3,.int .i64 md.tag,.int .i64 md.call],.int .u8 0,.int .i64 0]) (RdA md)),(PrFS w23b.drew.heap.size [10] (XM w23b.drew.heap.size [10] md #[]) (fun a9 : A3 => .agg #[.slice a9.a1 md.mem.al.length a9.c1,.int .i64 md.mem.next,.slice a9.a2 md.stks.length a9.c2,.slice a9.a3 md.run.length a9.c3,.int .i64 md.tag,.int .i64 md.call]) (RdA md)),PrS.eq _ (.int .u8 0),PrS.eq _ (.int .i64 0),(PrBx w23b.drew.heap.size [10] (XM w23b.drew.heap.size [10] md #[]) 35 6),(PrSt w23b.drew.heap.size [10] (XM w23b.drew.heap.size [10] md #[]) XM_st 35),PrS.eq _ (.int .u8 0),PrS.eq _ (.int .i64 0)] (by kernel_rfl) (by kernel_rfl) ?_ ?_
    ·refine ⟨?_,?_,?_,?_,?_,?_,?_,?_,?_,?_,?_,?_,?_,?_,trivial⟩
     ·intro β a w hβ hE hd ho
      refine .inl ⟨rfl,?_⟩
      intro Kq hKq
      have hF : Ext w23b w:=Ext.trans ((Ext.refl _).drew) (hE.to_ext (Nat.le_refl _))
      have e18 : a.eval (.tmp 18) = .pointer (some ⟨w10.heap.size,0,none⟩):=ho 18 (by kernel_rfl)
      rw [eval_tmp] at e18
      have cbC_0w:=Ext.cell hF cbC_0
      have cbC_1w:=Ext.cell hF cbC_1
      have cbC_2w:=Ext.cell hF cbC_2
      have cbC_3w:=Ext.cell hF cbC_3
      have cbC_4w:=Ext.cell hF cbC_4
      have cbC_5w:=Ext.cell hF cbC_5
      clear cbC_0 cbC_1 cbC_2 cbC_3 cbC_4 cbC_5 cbQ_0 cbQ_1 cbQ_2
      clear hd ho
      replace hKq:=Lib.hid hKq;replace hE:=Lib.hid hE;replace hβ:=Lib.hid hβ
      go_simp
      exact hKq.out _ _ rfl (RX.ext hβ.out (by decide) (Ext.refl _))
     ·intro β a w hβ hE hd ho
      refine .inl ⟨rfl,?_⟩
      intro Kq hKq
      have hF : Ext w23b w:=Ext.trans ((Ext.refl _).drew) (hE.to_ext (Nat.le_refl _))
      have e19 : a.eval (.tmp 19) = .pointer (some ⟨w10.heap.size+1,0,none⟩):=ho 19 (by kernel_rfl)
      rw [eval_tmp] at e19
      have cbQ_0w:=Ext.cell hF cbQ_0
      have cbQ_1w:=Ext.cell hF cbQ_1
      have cbQ_2w:=Ext.cell hF cbQ_2
      clear cbC_0 cbC_1 cbC_2 cbC_3 cbC_4 cbC_5 cbQ_0 cbQ_1 cbQ_2
      clear hd ho
      replace hKq:=Lib.hid hKq;replace hE:=Lib.hid hE;replace hβ:=Lib.hid hβ
      go_simp
      exact hKq.out _ _ rfl (RX.ext hβ.out (by decide) (Ext.refl _))
     ·intro β a w hβ hE hd ho
      refine .inl ⟨rfl,?_⟩
      intro Kq hKq
      have hF : Ext w23b w:=Ext.trans ((Ext.refl _).drew) (hE.to_ext (Nat.le_refl _))
      have e28 : a.eval (.tmp 28) = .slice (some ⟨w22.heap.size,0,none⟩) 2 2:=ho 28 (by kernel_rfl)
      rw [eval_tmp] at e28
      clear cbC_0 cbC_1 cbC_2 cbC_3 cbC_4 cbC_5 cbQ_0 cbQ_1 cbQ_2
      clear hd ho
      replace hKq:=Lib.hid hKq;replace hE:=Lib.hid hE;replace hβ:=Lib.hid hβ
      go_simp
      exact hKq.out _ _ rfl (RX.ext hβ.out (by decide) (Ext.refl _))
     ·intro β a w hβ hE hd ho
      refine .inl ⟨rfl,?_⟩
      intro Kq hKq
      have hF : Ext w23b w:=Ext.trans ((Ext.refl _).drew) (hE.to_ext (Nat.le_refl _))
      have e2 : a.eval (.tmp 2) = .int .i64 1:=ho 2 (by kernel_rfl)
      rw [eval_tmp] at e2
      clear cbC_0 cbC_1 cbC_2 cbC_3 cbC_4 cbC_5 cbQ_0 cbQ_1 cbQ_2
      clear hd ho
      replace hKq:=Lib.hid hKq;replace hE:=Lib.hid hE;replace hβ:=Lib.hid hβ
      go_simp
      exact hKq.out _ _ rfl (RX.ext hβ.out (by decide) (Ext.refl _))
     ·intro β a w hβ hE hd ho
      refine .inl ⟨rfl,?_⟩
      intro Kq hKq
      have hF : Ext w23b w:=Ext.trans ((Ext.refl _).drew) (hE.to_ext (Nat.le_refl _))
      have e207 : a.eval (.tmp 207) = .slice (some ⟨w22.heap.size,0,none⟩) 2 2:=(hd 2 (by kernel_rfl)).1
      rw [eval_tmp] at e207
      have e208 : a.eval (.tmp 208) = .int .i64 1:=(hd 3 (by kernel_rfl)).1
      rw [eval_tmp] at e208
      clear cbC_0 cbC_1 cbC_2 cbC_3 cbC_4 cbC_5 cbQ_0 cbQ_1 cbQ_2
      clear hd ho
      replace hKq:=Lib.hid hKq;replace hE:=Lib.hid hE;replace hβ:=Lib.hid hβ
      go_simp
      exact hKq.out _ _ rfl (RX.ext hβ.out (by decide) (Ext.refl _))
     ·intro β a w hβ hE hd ho
      refine .inl ⟨rfl,?_⟩
      intro Kq hKq
      have hF : Ext w23b w:=Ext.trans ((Ext.refl _).drew) (hE.to_ext (Nat.le_refl _))
      have e205 : a.eval (.tmp 205) = .agg #[.slice v_ca mc.mem.al.length v_cac,.int .i64 mc.mem.next,.slice v_ck mc.stks.length v_ckc,.slice v_cr mc.run.length v_crc,.int .i64 mc.tag,.int .i64 mc.call]:=(hd 0 (by kernel_rfl)).1
      rw [eval_tmp] at e205
      have e206 : a.eval (.tmp 206) = .agg #[.int .i64 pa,.int .i64 po,.int .i64 m.tag]:=(hd 1 (by kernel_rfl)).1
      rw [eval_tmp] at e206
      have e209 : a.eval (.tmp 209) = .slice (some ⟨w22.heap.size,0,none⟩) 1 2:=(hd 4 (by kernel_rfl)).1
      rw [eval_tmp] at e209
      clear cbC_0 cbC_1 cbC_2 cbC_3 cbC_4 cbC_5 cbQ_0 cbQ_1 cbQ_2
      clear hd ho
      replace hKq:=Lib.hid hKq;replace hE:=Lib.hid hE;replace hβ:=Lib.hid hβ
      go_simp
      refine (monitor_Store pa po m.tag (rr.out.1.ext hF) (i64_of_ok hcok.out) (rr.out.2.1.ext hF) (rr.out.2.2.ext hF) (hLc.out.ext hF)).mono ?_
      rintro e wz ⟨vt,rfl,fM,hZ⟩
      rw [hres9.out] at fM ⊢
      obtain ⟨⟨z1,z2,z3,z4,z5,z6⟩,rfl,q9⟩:=FrMon.a3 fM
      clear fM
      dsimp only at q9 ⊢
      go_simp
      exact hKq.out _ _ ⟨⟨z1,z2,z3,z4,z5,z6⟩,rfl,FSb.new hE.out (by decide) hF.size q9⟩ (RX.ext hβ.out (by decide) hZ)
     ·intro β a w hβ hE hd ho
      refine .inl ⟨rfl,?_⟩
      intro Kq hKq
      have hF : Ext w23b w:=Ext.trans ((Ext.refl _).drew) (hE.to_ext (Nat.le_refl _))
      obtain ⟨⟨y1_210,y2_210,y3_210,y4_210,y5_210,y6_210⟩,e210,g210⟩ : ∃ a9 : A3,a.eval (.tmp 210) = .tuple #[.agg #[.slice a9.a1 md.mem.al.length a9.c1,.int .i64 md.mem.next,.slice a9.a2 md.stks.length a9.c2,.slice a9.a3 md.run.length a9.c3,.int .i64 md.tag,.int .i64 md.call],.int .u8 0,.int .i64 0]∧FSb w23b.drew.heap.size [10] (β,w) (RdA md a9):=(hd 5 (by kernel_rfl)).1
      dsimp only at e210
      rw [eval_tmp] at e210
      replace g210:=Lib.hid g210
      clear cbC_0 cbC_1 cbC_2 cbC_3 cbC_4 cbC_5 cbQ_0 cbQ_1 cbQ_2
      clear hd ho
      replace hKq:=Lib.hid hKq;replace hE:=Lib.hid hE;replace hβ:=Lib.hid hβ
      go_simp
      exact hKq.out _ _ ⟨_,rfl,FSb.mono g210.out (RX0.ext hβ.out (by decide) (Ext.refl _))⟩ (RX.ext hβ.out (by decide) (Ext.refl _))
     ·intro β a w hβ hE hd ho
      refine .inl ⟨rfl,?_⟩
      intro Kq hKq
      have hF : Ext w23b w:=Ext.trans ((Ext.refl _).drew) (hE.to_ext (Nat.le_refl _))
      obtain ⟨⟨y1_204,y2_204,y3_204,y4_204,y5_204,y6_204⟩,e204,g204⟩ : ∃ a9 : A3,a.eval (.tmp 204) = .tuple #[.agg #[.slice a9.a1 md.mem.al.length a9.c1,.int .i64 md.mem.next,.slice a9.a2 md.stks.length a9.c2,.slice a9.a3 md.run.length a9.c3,.int .i64 md.tag,.int .i64 md.call],.int .u8 0,.int .i64 0]∧FSb w23b.drew.heap.size [10] (β,w) (RdA md a9):=(hd 6 (by kernel_rfl)).1
      dsimp only at e204
      rw [eval_tmp] at e204
      replace g204:=Lib.hid g204
      clear cbC_0 cbC_1 cbC_2 cbC_3 cbC_4 cbC_5 cbQ_0 cbQ_1 cbQ_2
      clear hd ho
      replace hKq:=Lib.hid hKq;replace hE:=Lib.hid hE;replace hβ:=Lib.hid hβ
      go_simp
      exact hKq.out _ _ ⟨_,rfl,FSb.mono g204.out (RX0.ext hβ.out (by decide) (Ext.refl _))⟩ (RX.ext hβ.out (by decide) (Ext.refl _))
     ·intro β a w hβ hE hd ho
      refine .inl ⟨rfl,?_⟩
      intro Kq hKq
      have hF : Ext w23b w:=Ext.trans ((Ext.refl _).drew) (hE.to_ext (Nat.le_refl _))
      obtain ⟨⟨y1_204,y2_204,y3_204,y4_204,y5_204,y6_204⟩,e204,g204⟩ : ∃ a9 : A3,a.eval (.tmp 204) = .tuple #[.agg #[.slice a9.a1 md.mem.al.length a9.c1,.int .i64 md.mem.next,.slice a9.a2 md.stks.length a9.c2,.slice a9.a3 md.run.length a9.c3,.int .i64 md.tag,.int .i64 md.call],.int .u8 0,.int .i64 0]∧FSb w23b.drew.heap.size [10] (β,w) (RdA md a9):=(hd 6 (by kernel_rfl)).1
      dsimp only at e204
      rw [eval_tmp] at e204
      replace g204:=Lib.hid g204
      clear cbC_0 cbC_1 cbC_2 cbC_3 cbC_4 cbC_5 cbQ_0 cbQ_1 cbQ_2
      clear hd ho
      replace hKq:=Lib.hid hKq;replace hE:=Lib.hid hE;replace hβ:=Lib.hid hβ
      go_simp
      exact hKq.out _ _ rfl (RX.ext hβ.out (by decide) (Ext.refl _))
     ·intro β a w hβ hE hd ho
      refine .inl ⟨rfl,?_⟩
      intro Kq hKq
      have hF : Ext w23b w:=Ext.trans ((Ext.refl _).drew) (hE.to_ext (Nat.le_refl _))
      obtain ⟨⟨y1_204,y2_204,y3_204,y4_204,y5_204,y6_204⟩,e204,g204⟩ : ∃ a9 : A3,a.eval (.tmp 204) = .tuple #[.agg #[.slice a9.a1 md.mem.al.length a9.c1,.int .i64 md.mem.next,.slice a9.a2 md.stks.length a9.c2,.slice a9.a3 md.run.length a9.c3,.int .i64 md.tag,.int .i64 md.call],.int .u8 0,.int .i64 0]∧FSb w23b.drew.heap.size [10] (β,w) (RdA md a9):=(hd 6 (by kernel_rfl)).1
      dsimp only at e204
      rw [eval_tmp] at e204
      replace g204:=Lib.hid g204
      clear cbC_0 cbC_1 cbC_2 cbC_3 cbC_4 cbC_5 cbQ_0 cbQ_1 cbQ_2
      clear hd ho
      replace hKq:=Lib.hid hKq;replace hE:=Lib.hid hE;replace hβ:=Lib.hid hβ
      go_simp
      exact hKq.out _ _ rfl (RX.ext hβ.out (by decide) (Ext.refl _))
     ·intro β a w hβ hE hd ho
      refine .inl ⟨rfl,?_⟩
      intro Kq hKq
      have hF : Ext w23b w:=Ext.trans ((Ext.refl _).drew) (hE.to_ext (Nat.le_refl _))
      clear cbC_0 cbC_1 cbC_2 cbC_3 cbC_4 cbC_5 cbQ_0 cbQ_1 cbQ_2
      clear hd ho
      replace hKq:=Lib.hid hKq;replace hE:=Lib.hid hE;replace hβ:=Lib.hid hβ
      go_simp
      exact hKq.out _ _ ⟨_,rfl,hF.size,#[.slice none 0 0,.int .i64 0,.slice none 0 0,.slice none 0 0,.int .i64 0,.int .i64 0],rfl,Box.new _ _ _⟩ (RX.made hβ.out ((Ext.refl _).alloc _) (fun x e=>by cases e;exact ⟨Nat.le_refl _,by simp⟩))
     ·intro β a w hβ hE hd ho
      refine .inl ⟨rfl,?_⟩
      intro Kq hKq
      have hF : Ext w23b w:=Ext.trans ((Ext.refl _).drew) (hE.to_ext (Nat.le_refl _))
      obtain ⟨bq,eq,hNb,vs0,hv0,hbx⟩ : ∃ b,a.eval (.tmp 29) = .pointer (some ⟨b,0,none⟩)∧w23b.drew.heap.size≤b∧BoxT 35 6 w b:=(hd 10 (by kernel_rfl)).1
      have eqb : β 10=some (.pointer (some ⟨bq,0,none⟩)):=(hd 10 (by kernel_rfl)).2.trans (congrArg some eq)
      have eq0:=eq
      rw [eval_tmp] at eq
      obtain ⟨u0,u1,u2,u3,u4,u5,rfl⟩ : ∃ u0 u1 u2 u3 u4 u5,vs0=#[u0,u1,u2,u3,u4,u5]:=by match vs0,hv0 with | ⟨[u0,u1,u2,u3,u4,u5]⟩,_=>exact ⟨u0,u1,u2,u3,u4,u5,rfl⟩
      have bc0 : World.cell? w ⟨bq,0,none⟩=some u0:=hbx.cell 0
      have bf0:=hbx.frozen 0
      have bc1 : World.cell? w ⟨bq,1,none⟩=some u1:=hbx.cell 1
      have bf1:=hbx.frozen 1
      have bc2 : World.cell? w ⟨bq,2,none⟩=some u2:=hbx.cell 2
      have bf2:=hbx.frozen 2
      have bc3 : World.cell? w ⟨bq,3,none⟩=some u3:=hbx.cell 3
      have bf3:=hbx.frozen 3
      have bc4 : World.cell? w ⟨bq,4,none⟩=some u4:=hbx.cell 4
      have bf4:=hbx.frozen 4
      have bc5 : World.cell? w ⟨bq,5,none⟩=some u5:=hbx.cell 5
      have bf5:=hbx.frozen 5
      have hbl:=hbx.lt
      replace hbx:=Lib.hid hbx;replace eq0:=Lib.hid eq0;replace eqb:=Lib.hid eqb
      obtain ⟨⟨y1_211,y2_211,y3_211,y4_211,y5_211,y6_211⟩,e211,g211⟩ : ∃ a9 : A3,a.eval (.tmp 211) = .agg #[.slice a9.a1 md.mem.al.length a9.c1,.int .i64 md.mem.next,.slice a9.a2 md.stks.length a9.c2,.slice a9.a3 md.run.length a9.c3,.int .i64 md.tag,.int .i64 md.call]∧FSb w23b.drew.heap.size [10] (β,w) (RdA md a9):=(hd 7 (by kernel_rfl)).1
      dsimp only at e211
      rw [eval_tmp] at e211
      replace g211:=Lib.hid g211
      clear cbC_0 cbC_1 cbC_2 cbC_3 cbC_4 cbC_5 cbQ_0 cbQ_1 cbQ_2
      clear hd ho
      replace hKq:=Lib.hid hKq;replace hE:=Lib.hid hE;replace hβ:=Lib.hid hβ
      go_simp
      have hBx : Box (World.setCell (World.setCell (World.setCell (World.setCell (World.setCell (World.setCell w ⟨bq,0,none⟩ (.slice y1_211 md.mem.al.length y2_211)) ⟨bq,1,none⟩ (.int .i64 md.mem.next)) ⟨bq,2,none⟩ (.slice y3_211 md.stks.length y4_211)) ⟨bq,3,none⟩ (.slice y5_211 md.run.length y6_211)) ⟨bq,4,none⟩ (.int .i64 md.tag)) ⟨bq,5,none⟩ (.int .i64 md.call)) bq 35 #[.slice y1_211 md.mem.al.length y2_211,.int .i64 md.mem.next,.slice y3_211 md.stks.length y4_211,.slice y5_211 md.run.length y6_211,.int .i64 md.tag,.int .i64 md.call]:=(Box.set (Box.set (Box.set (Box.set (Box.set (Box.set hbx.out 0 (.slice y1_211 md.mem.al.length y2_211)) 1 (.int .i64 md.mem.next)) 2 (.slice y3_211 md.stks.length y4_211)) 3 (.slice y5_211 md.run.length y6_211)) 4 (.int .i64 md.tag)) 5 (.int .i64 md.call))
      have hXR:=RX.store (X:=XM w23b.drew.heap.size [10] md #[]) (i:=11) (v:=a.eval (.tmp 29)) hβ.out (by decide) (j:=10) (by decide) eqb.out hNb (ExtBut.trans (ExtBut.trans (ExtBut.trans (ExtBut.trans (ExtBut.trans (ExtBut.setCell w ⟨bq,0,none⟩ (.slice y1_211 md.mem.al.length y2_211)) (ExtBut.setCell (World.setCell w ⟨bq,0,none⟩ (.slice y1_211 md.mem.al.length y2_211)) ⟨bq,1,none⟩ (.int .i64 md.mem.next))) (ExtBut.setCell (World.setCell (World.setCell w ⟨bq,0,none⟩ (.slice y1_211 md.mem.al.length y2_211)) ⟨bq,1,none⟩ (.int .i64 md.mem.next)) ⟨bq,2,none⟩ (.slice y3_211 md.stks.length y4_211))) (ExtBut.setCell (World.setCell (World.setCell (World.setCell w ⟨bq,0,none⟩ (.slice y1_211 md.mem.al.length y2_211)) ⟨bq,1,none⟩ (.int .i64 md.mem.next)) ⟨bq,2,none⟩ (.slice y3_211 md.stks.length y4_211)) ⟨bq,3,none⟩ (.slice y5_211 md.run.length y6_211))) (ExtBut.setCell (World.setCell (World.setCell (World.setCell (World.setCell w ⟨bq,0,none⟩ (.slice y1_211 md.mem.al.length y2_211)) ⟨bq,1,none⟩ (.int .i64 md.mem.next)) ⟨bq,2,none⟩ (.slice y3_211 md.stks.length y4_211)) ⟨bq,3,none⟩ (.slice y5_211 md.run.length y6_211)) ⟨bq,4,none⟩ (.int .i64 md.tag))) (ExtBut.setCell (World.setCell (World.setCell (World.setCell (World.setCell (World.setCell w ⟨bq,0,none⟩ (.slice y1_211 md.mem.al.length y2_211)) ⟨bq,1,none⟩ (.int .i64 md.mem.next)) ⟨bq,2,none⟩ (.slice y3_211 md.stks.length y4_211)) ⟨bq,3,none⟩ (.slice y5_211 md.run.length y6_211)) ⟨bq,4,none⟩ (.int .i64 md.tag)) ⟨bq,5,none⟩ (.int .i64 md.call))) hbx.out hBx rfl (fun hR0=>⟨fun _=>⟨⟨y1_211,y2_211,y3_211,y4_211,y5_211,y6_211⟩,rfl,FSb.mono g211.out hR0⟩,fun h=>by cases h⟩)
      exact hKq.out undef (World.setCell (World.setCell (World.setCell (World.setCell (World.setCell (World.setCell w ⟨bq,0,none⟩ (.slice y1_211 md.mem.al.length y2_211)) ⟨bq,1,none⟩ (.int .i64 md.mem.next)) ⟨bq,2,none⟩ (.slice y3_211 md.stks.length y4_211)) ⟨bq,3,none⟩ (.slice y5_211 md.run.length y6_211)) ⟨bq,4,none⟩ (.int .i64 md.tag)) ⟨bq,5,none⟩ (.int .i64 md.call)) ⟨bq,_,eq0.out,hNb,hBx,hXR.1⟩ hXR.2
     ·intro β a w hβ hE hd ho
      refine .inl ⟨rfl,?_⟩
      intro Kq hKq
      have hF : Ext w23b w:=Ext.trans ((Ext.refl _).drew) (hE.to_ext (Nat.le_refl _))
      have e212 : a.eval (.tmp 212) = .int .u8 0:=(hd 8 (by kernel_rfl)).1
      rw [eval_tmp] at e212
      clear cbC_0 cbC_1 cbC_2 cbC_3 cbC_4 cbC_5 cbQ_0 cbQ_1 cbQ_2
      clear hd ho
      replace hKq:=Lib.hid hKq;replace hE:=Lib.hid hE;replace hβ:=Lib.hid hβ
      go_simp
      exact hKq.out _ _ rfl (RX.ext hβ.out (by decide) (Ext.refl _))
     ·intro β a w hβ hE hd ho
      refine .inl ⟨rfl,?_⟩
      intro Kq hKq
      have hF : Ext w23b w:=Ext.trans ((Ext.refl _).drew) (hE.to_ext (Nat.le_refl _))
      have e213 : a.eval (.tmp 213) = .int .i64 0:=(hd 9 (by kernel_rfl)).1
      rw [eval_tmp] at e213
      clear cbC_0 cbC_1 cbC_2 cbC_3 cbC_4 cbC_5 cbQ_0 cbQ_1 cbQ_2
      clear hd ho
      replace hKq:=Lib.hid hKq;replace hE:=Lib.hid hE;replace hβ:=Lib.hid hβ
      go_simp
      exact hKq.out _ _ rfl (RX.ext hβ.out (by decide) (Ext.refl _))
    ·intro vals β Ac wq hAc hE hv hsv hbv
     have hF : Ext w23b wq:=Ext.trans ((Ext.refl _).drew) (hE.to_ext (Nat.le_refl _))
     obtain ⟨bE_a,vs9,eb,-,bE,hXX⟩:=hv 11 (by decide)
     obtain ⟨⟨v_ea,v_eac,v_ek,v_ekc,v_er,v_erc⟩,rfl,hq9⟩:=hXX.1 rfl
     dsimp only at bE
     have e1 : vals 10 = .pointer (some ⟨bE_a,0,none⟩):=((hsv 10).trans (hsv 11).symm).trans eb
     have e2 : vals 12 = .int .u8 0:=hv 12 (by decide)
     have e3 : vals 13 = .int .i64 0:=hv 13 (by decide)
     have qe : Fq (fun b=>True) wq (fun w=>RdA md ⟨v_ea,v_eac,v_ek,v_ekc,v_er,v_erc⟩ w):=Fq.mono hq9 (fun b h1 hl=>trivial)
     clear hv hsv hbv hE eb hXX hq9 cbC_0 cbC_1 cbC_2 cbC_3 cbC_4 cbC_5 cbQ_0 cbQ_1 cbQ_2
     subst hAc
     simp only [putAll]
     go_simp
     try rw [e1,e2,e3]
     clear e1 e2 e3
     obtain ⟨w25q,hwq⟩ : ∃ z,wq=z:=⟨_,rfl⟩
     rw [hwq] at hF qe bE ⊢
     clear hwq
     replace bM:=bM.ext hF
     replace bP:=bP.ext hF
     replace bC:=bC.ext hF
     replace bQ:=bQ.ext hF
     replace Gc:=Lib.hid (Fq.ext Gc.out hF)
     have hF26:=Ext.trans hF24 hF
     have Ge:=Lib.hid qe;clear qe
     clear rr hres9
     obtain ⟨bE_0,bE_1,bE_2,bE_3,bE_4,bE_5,bE_l⟩:=bE.c6
     go_wp2_with fail
     clear bE_0 bE_1 bE_2 bE_3 bE_4 bE_5 bE_l
     refine (mon_Check' Ge.out.read.1 (i64_of_ok hmdok.out) Ge.out.read.2.1 Ge.out.read.2.2).mono ?_
     rintro e w27 ⟨rfl,hE27⟩
     replace bM:=bM.ext hE27
     replace bP:=bP.ext hE27
     replace bC:=bC.ext hE27
     replace bQ:=bQ.ext hE27
     replace bE:=bE.ext hE27
     replace Gc:=Lib.hid (Fq.ext Gc.out hE27)
     replace Ge:=Lib.hid (Fq.ext Ge.out hE27)
     have hF27:=Ext.trans hF26 hE27
     rw [monErr_of hmdok.out]
     go_wp2
     go_ret
     exact ⟨rfl,hF27⟩
   ·skip
    obtain ⟨md,hmd⟩:=hst9.out hk1.out [⟨1,1,0,0,0⟩,⟨1,2,0,0,0⟩] rfl (by decide)
    have hmdok:=Lib.hid (storeM_inv hmd).2.2.1;have hres9:=Lib.hid hmd;clear hmd
    have hLc:=Lib.hid hL2;clear hL1 hL2
    have rr:=Lib.hid Gc.out.read
    go_upto_region 23 with fail
    have cbC_0 : World.cell? w23b ⟨w10.heap.size,0,none⟩=some (.slice v_ca mc.mem.al.length v_cac):=bC.cell 0
    have cbC_1 : World.cell? w23b ⟨w10.heap.size,1,none⟩=some (.int .i64 mc.mem.next):=bC.cell 1
    have cbC_2 : World.cell? w23b ⟨w10.heap.size,2,none⟩=some (.slice v_ck mc.stks.length v_ckc):=bC.cell 2
    have cbC_3 : World.cell? w23b ⟨w10.heap.size,3,none⟩=some (.slice v_cr mc.run.length v_crc):=bC.cell 3
    have cbC_4 : World.cell? w23b ⟨w10.heap.size,4,none⟩=some (.int .i64 mc.tag):=bC.cell 4
    have cbC_5 : World.cell? w23b ⟨w10.heap.size,5,none⟩=some (.int .i64 mc.call):=bC.cell 5
    have cbQ_0 : World.cell? w23b ⟨w10.heap.size+1,0,none⟩=some (.int .i64 pa):=bQ.cell 0
    have cbQ_1 : World.cell? w23b ⟨w10.heap.size+1,1,none⟩=some (.int .i64 po):=bQ.cell 1
    have cbQ_2 : World.cell? w23b ⟨w10.heap.size+1,2,none⟩=some (.int .i64 m.tag):=bQ.cell 2
    refine wp_region_st (R:=RX w23b.drew.heap.size [10] (XM w23b.drew.heap.size [10] md #[])) RX.refl (fun _ _ _=>RX.trans XM_st) [PrS.eq _ (.agg #[.slice v_ca mc.mem.al.length v_cac,.int .i64 mc.mem.next,.slice v_ck mc.stks.length v_ckc,.slice v_cr mc.run.length v_crc,.int .i64 mc.tag,.int .i64 mc.call]),PrS.eq _ (.agg #[.int .i64 pa,.int .i64 po,.int .i64 m.tag]),PrS.eq _ (.slice (some ⟨w22.heap.size,0,none⟩) 2 2),PrS.eq _ (.int .i64 2),PrS.eq _ (.slice (some ⟨w22.heap.size,0,none⟩) 2 2),(PrFS w23b.drew.heap.size [10] (XM w23b.drew.heap.size [10] md #[]) (fun a9 : A3 => .tuple #[.agg #[.slice a9.a1 md.mem.al.length a9.c1,.int .i64 md.mem.next,.slice a9.a2 md.stks.length a9.c2,.slice a9.a3 md.run.length a9.c3,.int .i64 md.tag,.int .i64 md.call],.int .u8 0,.int .i64 0]) (RdA md)),(PrFS w23b.drew.heap.size [10] (XM w23b.drew.heap.size [10] md #[]) (fun a9 : A3 => .tuple #[.agg #[.slice a9.a1 md.mem.al.length a9.c1,.int .i64 md.mem.next,.slice a9.a2 md.stks.length a9.c2,.slice a9.a3 md.run.length a9.c3,.int .i64 md.tag,.int .i64 md.call],.int .u8 0,.int .i64 0]) (RdA md)),(PrFS w23b.drew.heap.size [10] (XM w23b.drew.heap.size [10] md #[]) (fun a9 : A3 => .agg #[.slice a9.a1 md.mem.al.length a9.c1,.int .i64 md.mem.next,.slice a9.a2 md.stks.length a9.c2,.slice a9.a3 md.run.length a9.c3,.int .i64 md.tag,.int .i64 md.call]) (RdA md)),PrS.eq _ (.int .u8 0),PrS.eq _ (.int .i64 0),(PrBx w23b.drew.heap.size [10] (XM w23b.drew.heap.size [10] md #[]) 35 6),(PrSt w23b.drew.heap.size [10] (XM w23b.drew.heap.size [10] md #[]) XM_st 35),PrS.eq _ (.int .u8 0),PrS.eq _ (.int .i64 0)] (by kernel_rfl) (by kernel_rfl) ?_ ?_
    ·refine ⟨?_,?_,?_,?_,?_,?_,?_,?_,?_,?_,?_,?_,?_,?_,trivial⟩
     ·intro β a w hβ hE hd ho
      refine .inl ⟨rfl,?_⟩
      intro Kq hKq
      have hF : Ext w23b w:=Ext.trans ((Ext.refl _).drew) (hE.to_ext (Nat.le_refl _))
      have e18 : a.eval (.tmp 18) = .pointer (some ⟨w10.heap.size,0,none⟩):=ho 18 (by kernel_rfl)
      rw [eval_tmp] at e18
      have cbC_0w:=Ext.cell hF cbC_0
      have cbC_1w:=Ext.cell hF cbC_1
      have cbC_2w:=Ext.cell hF cbC_2
      have cbC_3w:=Ext.cell hF cbC_3
      have cbC_4w:=Ext.cell hF cbC_4
      have cbC_5w:=Ext.cell hF cbC_5
      clear cbC_0 cbC_1 cbC_2 cbC_3 cbC_4 cbC_5 cbQ_0 cbQ_1 cbQ_2
      clear hd ho
      replace hKq:=Lib.hid hKq;replace hE:=Lib.hid hE;replace hβ:=Lib.hid hβ
      go_simp
      exact hKq.out _ _ rfl (RX.ext hβ.out (by decide) (Ext.refl _))
     ·intro β a w hβ hE hd ho
      refine .inl ⟨rfl,?_⟩
      intro Kq hKq
      have hF : Ext w23b w:=Ext.trans ((Ext.refl _).drew) (hE.to_ext (Nat.le_refl _))
      have e19 : a.eval (.tmp 19) = .pointer (some ⟨w10.heap.size+1,0,none⟩):=ho 19 (by kernel_rfl)
      rw [eval_tmp] at e19
      have cbQ_0w:=Ext.cell hF cbQ_0
      have cbQ_1w:=Ext.cell hF cbQ_1
      have cbQ_2w:=Ext.cell hF cbQ_2
      clear cbC_0 cbC_1 cbC_2 cbC_3 cbC_4 cbC_5 cbQ_0 cbQ_1 cbQ_2
      clear hd ho
      replace hKq:=Lib.hid hKq;replace hE:=Lib.hid hE;replace hβ:=Lib.hid hβ
      go_simp
      exact hKq.out _ _ rfl (RX.ext hβ.out (by decide) (Ext.refl _))
     ·intro β a w hβ hE hd ho
      refine .inl ⟨rfl,?_⟩
      intro Kq hKq
      have hF : Ext w23b w:=Ext.trans ((Ext.refl _).drew) (hE.to_ext (Nat.le_refl _))
      have e28 : a.eval (.tmp 28) = .slice (some ⟨w22.heap.size,0,none⟩) 2 2:=ho 28 (by kernel_rfl)
      rw [eval_tmp] at e28
      clear cbC_0 cbC_1 cbC_2 cbC_3 cbC_4 cbC_5 cbQ_0 cbQ_1 cbQ_2
      clear hd ho
      replace hKq:=Lib.hid hKq;replace hE:=Lib.hid hE;replace hβ:=Lib.hid hβ
      go_simp
      exact hKq.out _ _ rfl (RX.ext hβ.out (by decide) (Ext.refl _))
     ·intro β a w hβ hE hd ho
      refine .inl ⟨rfl,?_⟩
      intro Kq hKq
      have hF : Ext w23b w:=Ext.trans ((Ext.refl _).drew) (hE.to_ext (Nat.le_refl _))
      have e2 : a.eval (.tmp 2) = .int .i64 2:=ho 2 (by kernel_rfl)
      rw [eval_tmp] at e2
      clear cbC_0 cbC_1 cbC_2 cbC_3 cbC_4 cbC_5 cbQ_0 cbQ_1 cbQ_2
      clear hd ho
      replace hKq:=Lib.hid hKq;replace hE:=Lib.hid hE;replace hβ:=Lib.hid hβ
      go_simp
      exact hKq.out _ _ rfl (RX.ext hβ.out (by decide) (Ext.refl _))
     ·intro β a w hβ hE hd ho
      refine .inl ⟨rfl,?_⟩
      intro Kq hKq
      have hF : Ext w23b w:=Ext.trans ((Ext.refl _).drew) (hE.to_ext (Nat.le_refl _))
      have e207 : a.eval (.tmp 207) = .slice (some ⟨w22.heap.size,0,none⟩) 2 2:=(hd 2 (by kernel_rfl)).1
      rw [eval_tmp] at e207
      have e208 : a.eval (.tmp 208) = .int .i64 2:=(hd 3 (by kernel_rfl)).1
      rw [eval_tmp] at e208
      clear cbC_0 cbC_1 cbC_2 cbC_3 cbC_4 cbC_5 cbQ_0 cbQ_1 cbQ_2
      clear hd ho
      replace hKq:=Lib.hid hKq;replace hE:=Lib.hid hE;replace hβ:=Lib.hid hβ
      go_simp
      exact hKq.out _ _ rfl (RX.ext hβ.out (by decide) (Ext.refl _))
     ·intro β a w hβ hE hd ho
      refine .inl ⟨rfl,?_⟩
      intro Kq hKq
      have hF : Ext w23b w:=Ext.trans ((Ext.refl _).drew) (hE.to_ext (Nat.le_refl _))
      have e205 : a.eval (.tmp 205) = .agg #[.slice v_ca mc.mem.al.length v_cac,.int .i64 mc.mem.next,.slice v_ck mc.stks.length v_ckc,.slice v_cr mc.run.length v_crc,.int .i64 mc.tag,.int .i64 mc.call]:=(hd 0 (by kernel_rfl)).1
      rw [eval_tmp] at e205
      have e206 : a.eval (.tmp 206) = .agg #[.int .i64 pa,.int .i64 po,.int .i64 m.tag]:=(hd 1 (by kernel_rfl)).1
      rw [eval_tmp] at e206
      have e209 : a.eval (.tmp 209) = .slice (some ⟨w22.heap.size,0,none⟩) 2 2:=(hd 4 (by kernel_rfl)).1
      rw [eval_tmp] at e209
      clear cbC_0 cbC_1 cbC_2 cbC_3 cbC_4 cbC_5 cbQ_0 cbQ_1 cbQ_2
      clear hd ho
      replace hKq:=Lib.hid hKq;replace hE:=Lib.hid hE;replace hβ:=Lib.hid hβ
      go_simp
      refine (monitor_Store pa po m.tag (rr.out.1.ext hF) (i64_of_ok hcok.out) (rr.out.2.1.ext hF) (rr.out.2.2.ext hF) (hLc.out.ext hF)).mono ?_
      rintro e wz ⟨vt,rfl,fM,hZ⟩
      rw [hres9.out] at fM ⊢
      obtain ⟨⟨z1,z2,z3,z4,z5,z6⟩,rfl,q9⟩:=FrMon.a3 fM
      clear fM
      dsimp only at q9 ⊢
      go_simp
      exact hKq.out _ _ ⟨⟨z1,z2,z3,z4,z5,z6⟩,rfl,FSb.new hE.out (by decide) hF.size q9⟩ (RX.ext hβ.out (by decide) hZ)
     ·intro β a w hβ hE hd ho
      refine .inl ⟨rfl,?_⟩
      intro Kq hKq
      have hF : Ext w23b w:=Ext.trans ((Ext.refl _).drew) (hE.to_ext (Nat.le_refl _))
      obtain ⟨⟨y1_210,y2_210,y3_210,y4_210,y5_210,y6_210⟩,e210,g210⟩ : ∃ a9 : A3,a.eval (.tmp 210) = .tuple #[.agg #[.slice a9.a1 md.mem.al.length a9.c1,.int .i64 md.mem.next,.slice a9.a2 md.stks.length a9.c2,.slice a9.a3 md.run.length a9.c3,.int .i64 md.tag,.int .i64 md.call],.int .u8 0,.int .i64 0]∧FSb w23b.drew.heap.size [10] (β,w) (RdA md a9):=(hd 5 (by kernel_rfl)).1
      dsimp only at e210
      rw [eval_tmp] at e210
      replace g210:=Lib.hid g210
      clear cbC_0 cbC_1 cbC_2 cbC_3 cbC_4 cbC_5 cbQ_0 cbQ_1 cbQ_2
      clear hd ho
      replace hKq:=Lib.hid hKq;replace hE:=Lib.hid hE;replace hβ:=Lib.hid hβ
      go_simp
      exact hKq.out _ _ ⟨_,rfl,FSb.mono g210.out (RX0.ext hβ.out (by decide) (Ext.refl _))⟩ (RX.ext hβ.out (by decide) (Ext.refl _))
     ·intro β a w hβ hE hd ho
      refine .inl ⟨rfl,?_⟩
      intro Kq hKq
      have hF : Ext w23b w:=Ext.trans ((Ext.refl _).drew) (hE.to_ext (Nat.le_refl _))
      obtain ⟨⟨y1_204,y2_204,y3_204,y4_204,y5_204,y6_204⟩,e204,g204⟩ : ∃ a9 : A3,a.eval (.tmp 204) = .tuple #[.agg #[.slice a9.a1 md.mem.al.length a9.c1,.int .i64 md.mem.next,.slice a9.a2 md.stks.length a9.c2,.slice a9.a3 md.run.length a9.c3,.int .i64 md.tag,.int .i64 md.call],.int .u8 0,.int .i64 0]∧FSb w23b.drew.heap.size [10] (β,w) (RdA md a9):=(hd 6 (by kernel_rfl)).1
      dsimp only at e204
      rw [eval_tmp] at e204
      replace g204:=Lib.hid g204
      clear cbC_0 cbC_1 cbC_2 cbC_3 cbC_4 cbC_5 cbQ_0 cbQ_1 cbQ_2
      clear hd ho
      replace hKq:=Lib.hid hKq;replace hE:=Lib.hid hE;replace hβ:=Lib.hid hβ
      go_simp
      exact hKq.out _ _ ⟨_,rfl,FSb.mono g204.out (RX0.ext hβ.out (by decide) (Ext.refl _))⟩ (RX.ext hβ.out (by decide) (Ext.refl _))
     ·intro β a w hβ hE hd ho
      refine .inl ⟨rfl,?_⟩
      intro Kq hKq
      have hF : Ext w23b w:=Ext.trans ((Ext.refl _).drew) (hE.to_ext (Nat.le_refl _))
      obtain ⟨⟨y1_204,y2_204,y3_204,y4_204,y5_204,y6_204⟩,e204,g204⟩ : ∃ a9 : A3,a.eval (.tmp 204) = .tuple #[.agg #[.slice a9.a1 md.mem.al.length a9.c1,.int .i64 md.mem.next,.slice a9.a2 md.stks.length a9.c2,.slice a9.a3 md.run.length a9.c3,.int .i64 md.tag,.int .i64 md.call],.int .u8 0,.int .i64 0]∧FSb w23b.drew.heap.size [10] (β,w) (RdA md a9):=(hd 6 (by kernel_rfl)).1
      dsimp only at e204
      rw [eval_tmp] at e204
      replace g204:=Lib.hid g204
      clear cbC_0 cbC_1 cbC_2 cbC_3 cbC_4 cbC_5 cbQ_0 cbQ_1 cbQ_2
      clear hd ho
      replace hKq:=Lib.hid hKq;replace hE:=Lib.hid hE;replace hβ:=Lib.hid hβ
      go_simp
      exact hKq.out _ _ rfl (RX.ext hβ.out (by decide) (Ext.refl _))
     ·intro β a w hβ hE hd ho
      refine .inl ⟨rfl,?_⟩
      intro Kq hKq
      have hF : Ext w23b w:=Ext.trans ((Ext.refl _).drew) (hE.to_ext (Nat.le_refl _))
      obtain ⟨⟨y1_204,y2_204,y3_204,y4_204,y5_204,y6_204⟩,e204,g204⟩ : ∃ a9 : A3,a.eval (.tmp 204) = .tuple #[.agg #[.slice a9.a1 md.mem.al.length a9.c1,.int .i64 md.mem.next,.slice a9.a2 md.stks.length a9.c2,.slice a9.a3 md.run.length a9.c3,.int .i64 md.tag,.int .i64 md.call],.int .u8 0,.int .i64 0]∧FSb w23b.drew.heap.size [10] (β,w) (RdA md a9):=(hd 6 (by kernel_rfl)).1
      dsimp only at e204
      rw [eval_tmp] at e204
      replace g204:=Lib.hid g204
      clear cbC_0 cbC_1 cbC_2 cbC_3 cbC_4 cbC_5 cbQ_0 cbQ_1 cbQ_2
      clear hd ho
      replace hKq:=Lib.hid hKq;replace hE:=Lib.hid hE;replace hβ:=Lib.hid hβ
      go_simp
      exact hKq.out _ _ rfl (RX.ext hβ.out (by decide) (Ext.refl _))
     ·intro β a w hβ hE hd ho
      refine .inl ⟨rfl,?_⟩
      intro Kq hKq
      have hF : Ext w23b w:=Ext.trans ((Ext.refl _).drew) (hE.to_ext (Nat.le_refl _))
      clear cbC_0 cbC_1 cbC_2 cbC_3 cbC_4 cbC_5 cbQ_0 cbQ_1 cbQ_2
      clear hd ho
      replace hKq:=Lib.hid hKq;replace hE:=Lib.hid hE;replace hβ:=Lib.hid hβ
      go_simp
      exact hKq.out _ _ ⟨_,rfl,hF.size,#[.slice none 0 0,.int .i64 0,.slice none 0 0,.slice none 0 0,.int .i64 0,.int .i64 0],rfl,Box.new _ _ _⟩ (RX.made hβ.out ((Ext.refl _).alloc _) (fun x e=>by cases e;exact ⟨Nat.le_refl _,by simp⟩))
     ·intro β a w hβ hE hd ho
      refine .inl ⟨rfl,?_⟩
      intro Kq hKq
      have hF : Ext w23b w:=Ext.trans ((Ext.refl _).drew) (hE.to_ext (Nat.le_refl _))
      obtain ⟨bq,eq,hNb,vs0,hv0,hbx⟩ : ∃ b,a.eval (.tmp 29) = .pointer (some ⟨b,0,none⟩)∧w23b.drew.heap.size≤b∧BoxT 35 6 w b:=(hd 10 (by kernel_rfl)).1
      have eqb : β 10=some (.pointer (some ⟨bq,0,none⟩)):=(hd 10 (by kernel_rfl)).2.trans (congrArg some eq)
      have eq0:=eq
      rw [eval_tmp] at eq
      obtain ⟨u0,u1,u2,u3,u4,u5,rfl⟩ : ∃ u0 u1 u2 u3 u4 u5,vs0=#[u0,u1,u2,u3,u4,u5]:=by match vs0,hv0 with | ⟨[u0,u1,u2,u3,u4,u5]⟩,_=>exact ⟨u0,u1,u2,u3,u4,u5,rfl⟩
      have bc0 : World.cell? w ⟨bq,0,none⟩=some u0:=hbx.cell 0
      have bf0:=hbx.frozen 0
      have bc1 : World.cell? w ⟨bq,1,none⟩=some u1:=hbx.cell 1
      have bf1:=hbx.frozen 1
      have bc2 : World.cell? w ⟨bq,2,none⟩=some u2:=hbx.cell 2
      have bf2:=hbx.frozen 2
      have bc3 : World.cell? w ⟨bq,3,none⟩=some u3:=hbx.cell 3
      have bf3:=hbx.frozen 3
      have bc4 : World.cell? w ⟨bq,4,none⟩=some u4:=hbx.cell 4
      have bf4:=hbx.frozen 4
      have bc5 : World.cell? w ⟨bq,5,none⟩=some u5:=hbx.cell 5
      have bf5:=hbx.frozen 5
      have hbl:=hbx.lt
      replace hbx:=Lib.hid hbx;replace eq0:=Lib.hid eq0;replace eqb:=Lib.hid eqb
      obtain ⟨⟨y1_211,y2_211,y3_211,y4_211,y5_211,y6_211⟩,e211,g211⟩ : ∃ a9 : A3,a.eval (.tmp 211) = .agg #[.slice a9.a1 md.mem.al.length a9.c1,.int .i64 md.mem.next,.slice a9.a2 md.stks.length a9.c2,.slice a9.a3 md.run.length a9.c3,.int .i64 md.tag,.int .i64 md.call]∧FSb w23b.drew.heap.size [10] (β,w) (RdA md a9):=(hd 7 (by kernel_rfl)).1
      dsimp only at e211
      rw [eval_tmp] at e211
      replace g211:=Lib.hid g211
      clear cbC_0 cbC_1 cbC_2 cbC_3 cbC_4 cbC_5 cbQ_0 cbQ_1 cbQ_2
      clear hd ho
      replace hKq:=Lib.hid hKq;replace hE:=Lib.hid hE;replace hβ:=Lib.hid hβ
      go_simp
      have hBx : Box (World.setCell (World.setCell (World.setCell (World.setCell (World.setCell (World.setCell w ⟨bq,0,none⟩ (.slice y1_211 md.mem.al.length y2_211)) ⟨bq,1,none⟩ (.int .i64 md.mem.next)) ⟨bq,2,none⟩ (.slice y3_211 md.stks.length y4_211)) ⟨bq,3,none⟩ (.slice y5_211 md.run.length y6_211)) ⟨bq,4,none⟩ (.int .i64 md.tag)) ⟨bq,5,none⟩ (.int .i64 md.call)) bq 35 #[.slice y1_211 md.mem.al.length y2_211,.int .i64 md.mem.next,.slice y3_211 md.stks.length y4_211,.slice y5_211 md.run.length y6_211,.int .i64 md.tag,.int .i64 md.call]:=(Box.set (Box.set (Box.set (Box.set (Box.set (Box.set hbx.out 0 (.slice y1_211 md.mem.al.length y2_211)) 1 (.int .i64 md.mem.next)) 2 (.slice y3_211 md.stks.length y4_211)) 3 (.slice y5_211 md.run.length y6_211)) 4 (.int .i64 md.tag)) 5 (.int .i64 md.call))
      have hXR:=RX.store (X:=XM w23b.drew.heap.size [10] md #[]) (i:=11) (v:=a.eval (.tmp 29)) hβ.out (by decide) (j:=10) (by decide) eqb.out hNb (ExtBut.trans (ExtBut.trans (ExtBut.trans (ExtBut.trans (ExtBut.trans (ExtBut.setCell w ⟨bq,0,none⟩ (.slice y1_211 md.mem.al.length y2_211)) (ExtBut.setCell (World.setCell w ⟨bq,0,none⟩ (.slice y1_211 md.mem.al.length y2_211)) ⟨bq,1,none⟩ (.int .i64 md.mem.next))) (ExtBut.setCell (World.setCell (World.setCell w ⟨bq,0,none⟩ (.slice y1_211 md.mem.al.length y2_211)) ⟨bq,1,none⟩ (.int .i64 md.mem.next)) ⟨bq,2,none⟩ (.slice y3_211 md.stks.length y4_211))) (ExtBut.setCell (World.setCell (World.setCell (World.setCell w ⟨bq,0,none⟩ (.slice y1_211 md.mem.al.length y2_211)) ⟨bq,1,none⟩ (.int .i64 md.mem.next)) ⟨bq,2,none⟩ (.slice y3_211 md.stks.length y4_211)) ⟨bq,3,none⟩ (.slice y5_211 md.run.length y6_211))) (ExtBut.setCell (World.setCell (World.setCell (World.setCell (World.setCell w ⟨bq,0,none⟩ (.slice y1_211 md.mem.al.length y2_211)) ⟨bq,1,none⟩ (.int .i64 md.mem.next)) ⟨bq,2,none⟩ (.slice y3_211 md.stks.length y4_211)) ⟨bq,3,none⟩ (.slice y5_211 md.run.length y6_211)) ⟨bq,4,none⟩ (.int .i64 md.tag))) (ExtBut.setCell (World.setCell (World.setCell (World.setCell (World.setCell (World.setCell w ⟨bq,0,none⟩ (.slice y1_211 md.mem.al.length y2_211)) ⟨bq,1,none⟩ (.int .i64 md.mem.next)) ⟨bq,2,none⟩ (.slice y3_211 md.stks.length y4_211)) ⟨bq,3,none⟩ (.slice y5_211 md.run.length y6_211)) ⟨bq,4,none⟩ (.int .i64 md.tag)) ⟨bq,5,none⟩ (.int .i64 md.call))) hbx.out hBx rfl (fun hR0=>⟨fun _=>⟨⟨y1_211,y2_211,y3_211,y4_211,y5_211,y6_211⟩,rfl,FSb.mono g211.out hR0⟩,fun h=>by cases h⟩)
      exact hKq.out undef (World.setCell (World.setCell (World.setCell (World.setCell (World.setCell (World.setCell w ⟨bq,0,none⟩ (.slice y1_211 md.mem.al.length y2_211)) ⟨bq,1,none⟩ (.int .i64 md.mem.next)) ⟨bq,2,none⟩ (.slice y3_211 md.stks.length y4_211)) ⟨bq,3,none⟩ (.slice y5_211 md.run.length y6_211)) ⟨bq,4,none⟩ (.int .i64 md.tag)) ⟨bq,5,none⟩ (.int .i64 md.call)) ⟨bq,_,eq0.out,hNb,hBx,hXR.1⟩ hXR.2
     ·intro β a w hβ hE hd ho
      refine .inl ⟨rfl,?_⟩
      intro Kq hKq
      have hF : Ext w23b w:=Ext.trans ((Ext.refl _).drew) (hE.to_ext (Nat.le_refl _))
      have e212 : a.eval (.tmp 212) = .int .u8 0:=(hd 8 (by kernel_rfl)).1
      rw [eval_tmp] at e212
      clear cbC_0 cbC_1 cbC_2 cbC_3 cbC_4 cbC_5 cbQ_0 cbQ_1 cbQ_2
      clear hd ho
      replace hKq:=Lib.hid hKq;replace hE:=Lib.hid hE;replace hβ:=Lib.hid hβ
      go_simp
      exact hKq.out _ _ rfl (RX.ext hβ.out (by decide) (Ext.refl _))
     ·intro β a w hβ hE hd ho
      refine .inl ⟨rfl,?_⟩
      intro Kq hKq
      have hF : Ext w23b w:=Ext.trans ((Ext.refl _).drew) (hE.to_ext (Nat.le_refl _))
      have e213 : a.eval (.tmp 213) = .int .i64 0:=(hd 9 (by kernel_rfl)).1
      rw [eval_tmp] at e213
      clear cbC_0 cbC_1 cbC_2 cbC_3 cbC_4 cbC_5 cbQ_0 cbQ_1 cbQ_2
      clear hd ho
      replace hKq:=Lib.hid hKq;replace hE:=Lib.hid hE;replace hβ:=Lib.hid hβ
      go_simp
      exact hKq.out _ _ rfl (RX.ext hβ.out (by decide) (Ext.refl _))
    ·intro vals β Ac wq hAc hE hv hsv hbv
     have hF : Ext w23b wq:=Ext.trans ((Ext.refl _).drew) (hE.to_ext (Nat.le_refl _))
     obtain ⟨bE_a,vs9,eb,-,bE,hXX⟩:=hv 11 (by decide)
     obtain ⟨⟨v_ea,v_eac,v_ek,v_ekc,v_er,v_erc⟩,rfl,hq9⟩:=hXX.1 rfl
     dsimp only at bE
     have e1 : vals 10 = .pointer (some ⟨bE_a,0,none⟩):=((hsv 10).trans (hsv 11).symm).trans eb
     have e2 : vals 12 = .int .u8 0:=hv 12 (by decide)
     have e3 : vals 13 = .int .i64 0:=hv 13 (by decide)
     have qe : Fq (fun b=>True) wq (fun w=>RdA md ⟨v_ea,v_eac,v_ek,v_ekc,v_er,v_erc⟩ w):=Fq.mono hq9 (fun b h1 hl=>trivial)
     clear hv hsv hbv hE eb hXX hq9 cbC_0 cbC_1 cbC_2 cbC_3 cbC_4 cbC_5 cbQ_0 cbQ_1 cbQ_2
     subst hAc
     simp only [putAll]
     go_simp
     try rw [e1,e2,e3]
     clear e1 e2 e3
     obtain ⟨w25q,hwq⟩ : ∃ z,wq=z:=⟨_,rfl⟩
     rw [hwq] at hF qe bE ⊢
     clear hwq
     replace bM:=bM.ext hF
     replace bP:=bP.ext hF
     replace bC:=bC.ext hF
     replace bQ:=bQ.ext hF
     replace Gc:=Lib.hid (Fq.ext Gc.out hF)
     have hF26:=Ext.trans hF24 hF
     have Ge:=Lib.hid qe;clear qe
     clear rr hres9
     obtain ⟨bE_0,bE_1,bE_2,bE_3,bE_4,bE_5,bE_l⟩:=bE.c6
     go_wp2_with fail
     clear bE_0 bE_1 bE_2 bE_3 bE_4 bE_5 bE_l
     refine (mon_Check' Ge.out.read.1 (i64_of_ok hmdok.out) Ge.out.read.2.1 Ge.out.read.2.2).mono ?_
     rintro e w27 ⟨rfl,hE27⟩
     replace bM:=bM.ext hE27
     replace bP:=bP.ext hE27
     replace bC:=bC.ext hE27
     replace bQ:=bQ.ext hE27
     replace bE:=bE.ext hE27
     replace Gc:=Lib.hid (Fq.ext Gc.out hE27)
     replace Ge:=Lib.hid (Fq.ext Ge.out hE27)
     have hF27:=Ext.trans hF26 hE27
     rw [monErr_of hmdok.out]
     go_wp2
     go_ret
     exact ⟨rfl,hF27⟩
set_option maxRecDepth 100000 in
theorem monitorFresh_contract (H : Type) (enc : TypeId × Value→H) (W : World) (base : Nat) (args : Array Value) (ds gs : List (DataW H)) (before : List MemPlace)
  (hval0 : ∀ (j : Nat) t v,Tryd.f4.params[j]? = some t→args[j]? = some v→Value.okWide Tryd.prog W .any base t v)
  (hW : DataW.Whole enc Tryd.prog Tryd.f4.params.toList Rows.monitorFreshSpec.vars false W args.toList ds gs before) (hL : laidMetH Tryd.prog Rows.monitorFreshRow.laid W) :
  Calls Tryd.prog 4 args W fun e W' => ∃ v,e = .returned v∧Rows.monitorFreshSpec.post enc Tryd.prog Tryd.f4 false true false false W args v W':=by
 have hval : ∀ (j : Nat) t v,Tryd.f4.params[j]? = some t→args[j]? = some v→Value.okWide Tryd.prog W .any base t v:=hval0
 have hW':=hW
 obtain ⟨p,q,hA0,hV,rfl,hfz,hnd⟩:=hW
 have hA : DataW.TrodAll enc Tryd.prog W 0 (fun _=>true) true Tryd.f4.params.toList args.toList ds p:=hA0
 rw [Tryd.params4] at hA hval
 obtain ⟨v0,vs0,d0,ds0,p0,q0,hargs,rfl,rfl,h0,r0⟩:=trodAll_cons hA
 obtain ⟨v1,vs1,d1,ds1,p1,q1,rfl,rfl,rfl,h1,r1⟩:=trodAll_cons r0
 obtain ⟨v2,vs2,d2,ds2,p2,q2,rfl,rfl,rfl,h2,r2⟩:=trodAll_cons r1
 obtain ⟨v3,vs3,d3,ds3,p3,q3,rfl,rfl,rfl,h3,r3⟩:=trodAll_cons r2
 obtain ⟨v4,vs4,d4,ds4,p4,q4,rfl,rfl,rfl,h4,r4⟩:=trodAll_cons r3
 obtain ⟨rfl,rfl,rfl⟩:=trodAll_nil r4
 obtain rfl : args=#[v0,v1,v2,v3,v4]:=by cases args;simp_all
 obtain ⟨x0,k0,wf0⟩:=open_mon (hval 0 35 v0 rfl rfl) h0
 obtain ⟨x1,rfl,wf1⟩:=open_ptrv (hval 1 26 v1 rfl rfl) h1
 obtain ⟨x2,rfl,rfl,rfl,wf2⟩:=open_int Tryd.underlying3 (hval 2 3 v2 rfl rfl) h2
 obtain ⟨x3,rfl,rfl,rfl,wf3⟩:=open_int Tryd.underlying5 (hval 3 5 v3 rfl rfl) h3
 obtain ⟨x4,rfl,rfl,rfl,wf4⟩:=open_int Tryd.underlying3 (hval 4 3 v4 rfl rfl) h4
 refine (monitorFresh_walk (perms_of_laid hL) (u8B_of wf3) x1 x2 x4 k0 wf0.1).mono fun e W' ⟨he,hb⟩ => ?_
 subst he
 exact ⟨_,rfl,post_law TrydlaidOut (tb:=4) rfl Tryd.underlying4 (by kernel_rfl) rfl (fun ds hd=>match ds,hd with | [a0,a1,a2,a3,a4],_=>rfl) hW' hb⟩
theorem monitorFresh_met (os : Os) : laidMet Tryd.prog Rows.monitorFreshRow.laid ((doorWorld os).forCall (fun _ _=>0) ⟨#[],#[.agg #[.slice none 0 0,.int .i64 0,.slice none 0 0,.slice none 0 0,.int .i64 0,.int .i64 0],.agg #[.int .i64 0,.int .i64 0,.int .i64 0],.int .i64 0,.int .u8 0,.int .i64 0],[]⟩).memory :=
 laidMet_of_run' 8 (by kernel_rfl) (by kernel_rfl)
theorem monitorFresh_reads (os : Os) {H : Type} (enc : TypeId × Value→H) : ∃ places,DataW.whole enc Tryd.prog ((doorWorld os).forCall (fun _ _=>0) ⟨#[],#[.agg #[.slice none 0 0,.int .i64 0,.slice none 0 0,.slice none 0 0,.int .i64 0,.int .i64 0],.agg #[.int .i64 0,.int .i64 0,.int .i64 0],.int .i64 0,.int .u8 0,.int .i64 0],[]⟩).memory Tryd.f4.params.toList Rows.monitorFreshSpec.vars false (#[.agg #[.slice none 0 0,.int .i64 0,.slice none 0 0,.slice none 0 0,.int .i64 0,.int .i64 0],.agg #[.int .i64 0,.int .i64 0,.int .i64 0],.int .i64 0,.int .u8 0,.int .i64 0] : Array Value).toList 8=some ([.agg [.agg [.nil,.lit (.int .i64 0)],.nil,.nil,.lit (.int .i64 0),.lit (.int .i64 0)],.agg [.lit (.int .i64 0),.lit (.int .i64 0),.lit (.int .i64 0)],.lit (.int .i64 0),.lit (.int .u8 0),.lit (.int .i64 0)],[],places) :=
 ⟨[],by kernel_rfl⟩
set_option maxRecDepth 100000 in
theorem monitorFresh_lifted (os : Os) (started : os.Started) (H : Type) (enc : TypeId × Value→H) (F : Stop.Interp) :
  ReturnsInHanded {} Tryd.checked os 4 .any ((OpenSpec.ofChange Rows.monitorFreshSpec).preRow enc Tryd.prog Tryd.f4 Rows.monitorFreshRow.domain false Rows.monitorFreshRow.laid) (((OpenSpec.ofChange Rows.monitorFreshSpec).at F).post enc Tryd.prog Tryd.f4 false true false false):=by
 obtain ⟨places,hx⟩:=monitorFresh_reads os enc
 refine returnsInHanded_of_row (C:=Tryd.checked) (s:=OpenSpec.ofChange Rows.monitorFreshSpec) Trydown started (by kernel_rfl) Tryd.func4
  (witness_row_at (enc:=enc) (C:=Tryd.checked) false (doorWorld os) #[.agg #[.slice none 0 0,.int .i64 0,.slice none 0 0,.slice none 0 0,.int .i64 0,.int .i64 0],.agg #[.int .i64 0,.int .i64 0,.int .i64 0],.int .i64 0,.int .u8 0,.int .i64 0] rfl (by kernel_rfl) (by kernel_rfl) (by kernel_rfl)
   (OpenSpec.preRow_of_cond 8 hx (by kernel_rfl) (fun k hk=>by cases hk) (by kernel_rfl) (monitorFresh_met os))) ?_
 intro W base args ds gs before hval hW _ _ _ hL _ _
 exact monitorFresh_contract H enc W base args ds gs before hval hW hL
theorem monitorFresh_said : Rows.MonitorFreshSaid :=
 OpenClaim.holds_of_cond 4 Tryd.f4 rfl rfl rfl rfl rfl rfl rfl ⟨rfl,rfl,rfl,rfl,rfl⟩ rfl rfl rfl rfl rfl (by kernel_rfl) Tryd.func4 (by kernel_rfl)
  (of_decide_eq_true (by kernel_rfl)) (by unfold Func.isWrapper;first | (rw [if_pos (by decide +kernel)];kernel_rfl) | (rw [if_neg (by decide +kernel)];exact ⟨rfl,rfl⟩))
  (fun os started H enc _ F=>by rw [OpenClaim.pre_eq_preRow];exact monitorFresh_lifted os started H enc F)
theorem monitorFresh_plain (f : FuncId) (fn : Func) (hf : Tryd.pinned.checked.prog.funcNamed "pawnshop/pawnshoplaw35.MonitorFresh" = some f) (hfn : Tryd.pinned.checked.prog.funcs[f]? = some fn) :
  false=Tryd.pinned.checked.prog.looks [] ∧ ∀ (j : Nat) t,fn.params[j]? = some t→Tryd.pinned.checked.prog.wantsStandIn t=false:=by
 obtain rfl : f = 4 := Option.some.inj ((show Tryd.prog.funcNamed "pawnshop/pawnshoplaw35.MonitorFresh" = some 4 by kernel_rfl).symm.trans hf) |>.symm
 obtain rfl : fn=Tryd.f4:=(Option.some.inj (Tryd.func4.symm.trans hfn)).symm
 refine ⟨by kernel_rfl,fun j t ht => ?_⟩
 have hm : t ∈ Tryd.f4.params.toList:=by simpa using Array.mem_of_getElem? ht
 have hall : (Tryd.f4.params.toList.all fun u => !Tryd.prog.wantsStandIn u)=true:=by kernel_rfl
 exact (show Tryd.prog.wantsStandIn t=false by simpa using List.all_eq_true.1 hall t hm)
theorem monitorFresh_card : Rows.MonitorFreshCardSaid :=
 Claim7.holds_tied_plain_at .later [] _ _ _ _ monitorFresh_said (fun _ h=>by cases h) (by kernel_rfl) (fun _ h=>by cases h) monitorFresh_row_tie rfl ⟨rfl,rfl⟩ (by kernel_rfl) rfl monitorFresh_plain (by kernel_rfl)
end Go.Proofs.YtnplphcnagooeaaDoor
