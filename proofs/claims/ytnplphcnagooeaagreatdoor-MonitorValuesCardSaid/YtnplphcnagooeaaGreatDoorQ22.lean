/- Several texts in one: Law35B, BoxS. -/
import Derived.Test.YtnplphcnagooeaaGreatDoorQ11
import Derived.Test.YtnplphcnagooeaaGreatDoorQ12
import Derived.Test.YtnplphcnagooeaaGreatDoorQ18
import Derived.Test.YtnplphcnagooeaaGreatDoorQ20
import Derived.Test.YtnplphcnagooeaaGreatDoorQ21
import Derived.Test.YtnplphcnagooeaaGreatDoorQ17
import Derived.Test.YtnplphcnagooeaaGreatDoorQ15
/- Layer 35's own functions num, loads, alive; monitor.New. (printed by gen/law35c.py) -/
namespace Go.Proofs.YtnplphcnagooeaaGreatDoor
set_option maxRecDepth 100000
open Go.RowKit
theorem i64_of_ok {m : Mon} (h : okMon m=true) : i64B m.mem.next:=by
 have h1:=ok_bounds (MonOk.of h).memOk
 unfold i64B
 omega
def newMon : Mon:=⟨Mem.zero,[],[],1,1⟩
theorem monitor_New (w : World) : Calls Tryz.prog 31 #[] w fun e w'=>e = .returned (.agg #[.slice none 0 0,.int .i64 0,.slice none 0 0,.slice none 0 0,.int .i64 1,.int .i64 1])∧Ext w w':=by
 have b:=Box.new w 28 #[.slice none 0 0,.int .i64 0,.slice none 0 0,.slice none 0 0,.int .i64 1,.int .i64 1]
 have c0:=b.cell 0
 have c1:=b.cell 1
 have c2:=b.cell 2
 have c3:=b.cell 3
 have c4:=b.cell 4
 have c5:=b.cell 5
 go_enter Tryz.func31,Tryz.ntmps31
 go_wp2
 refine bodyPost_ret (v := .agg #[.slice none 0 0,.int .i64 0,.slice none 0 0,.slice none 0 0,.int .i64 1,.int .i64 1]) (by simp [results,Tryz.f31,go_sem,c0,c1,c2,c3,c4,c5]) rfl ⟨rfl,(Ext.refl _).alloc _⟩
theorem law35_num (n : Int) (w : World) : Calls Tryz.prog 29 #[.int .i64 n] w fun e w'=>e = .returned (Cell.val ⟨1,n,0,0,0⟩)∧Ext w w':=by
 have b:=Box.new w 78 #[.int .u8 1,.int .i64 n,.int .i64 0,.int .i64 0,.int .i64 0]
 have c0:=b.cell 0
 have c1:=b.cell 1
 have c2:=b.cell 2
 have c3:=b.cell 3
 have c4:=b.cell 4
 go_enter Tryz.func29,Tryz.ntmps29
 go_wp2
 refine bodyPost_ret (v:=Cell.val ⟨1,n,0,0,0⟩) (by simp [results,Tryz.f29,go_sem,c0,c1,c2,c3,c4,Cell.val]) rfl ⟨rfl,(Ext.refl _).alloc _⟩
set_option maxHeartbeats 3200000 in
theorem law35_loads {m : Mon} {sa ss sr : Value} {wS : World} (pa po pt want : Int) (x : Mon) (hA : Als wS sa m.mem.al) (hn : i64B m.mem.next) (hK : Kts wS ss m.stks) (hR : Nts wS sr m.run) (hl : loadM m ⟨pa,po,pt⟩ 1=(x,[⟨1,want,0,0,0⟩],0,0)) :
  Calls Tryz.prog 56 #[.agg #[sa,.int .i64 m.mem.next,ss,sr,.int .i64 m.tag,.int .i64 m.call],.agg #[.int .i64 pa,.int .i64 po,.int .i64 pt],.int .i64 want] wS fun e w'=>e = .returned (.bool true)∧Ext wS w':=by
 obtain ⟨aa,ac,rfl,hac,hacm,-⟩:=hA.form
 obtain ⟨ka,kc,rfl,hkc,hkcm,-⟩:=hK.form
 obtain ⟨ra,rc,rfl,hrc,hrcm,-⟩:=hR.form
 unfold maxLen at hacm hkcm hrcm
 have hE0 : Ext wS (World.alloc (World.alloc wS (.cells #[.slice aa m.mem.al.length ac,.int .i64 m.mem.next,.slice ka m.stks.length kc,.slice ra m.run.length rc,.int .i64 m.tag,.int .i64 m.call] 28)) (.cells #[.int .i64 pa,.int .i64 po,.int .i64 pt] 30)):=by repeat (first | exact Ext.refl _ | refine Ext.alloc ?_ _)
 have bM : Box (World.alloc (World.alloc wS (.cells #[.slice aa m.mem.al.length ac,.int .i64 m.mem.next,.slice ka m.stks.length kc,.slice ra m.run.length rc,.int .i64 m.tag,.int .i64 m.call] 28)) (.cells #[.int .i64 pa,.int .i64 po,.int .i64 pt] 30)) (wS.heap.size) 28 #[.slice aa m.mem.al.length ac,.int .i64 m.mem.next,.slice ka m.stks.length kc,.slice ra m.run.length rc,.int .i64 m.tag,.int .i64 m.call]:=(by
  have h:=Box.new wS 28 #[.slice aa m.mem.al.length ac,.int .i64 m.mem.next,.slice ka m.stks.length kc,.slice ra m.run.length rc,.int .i64 m.tag,.int .i64 m.call]
  replace h:=Box.ext h ((Ext.refl _).alloc (.cells #[.int .i64 pa,.int .i64 po,.int .i64 pt] 30))
  exact h)
 have bP : Box (World.alloc (World.alloc wS (.cells #[.slice aa m.mem.al.length ac,.int .i64 m.mem.next,.slice ka m.stks.length kc,.slice ra m.run.length rc,.int .i64 m.tag,.int .i64 m.call] 28)) (.cells #[.int .i64 pa,.int .i64 po,.int .i64 pt] 30)) (wS.heap.size+1) 30 #[.int .i64 pa,.int .i64 po,.int .i64 pt]:=(by
  have h:=Box.new (World.alloc wS (.cells #[.slice aa m.mem.al.length ac,.int .i64 m.mem.next,.slice ka m.stks.length kc,.slice ra m.run.length rc,.int .i64 m.tag,.int .i64 m.call] 28)) 30 #[.int .i64 pa,.int .i64 po,.int .i64 pt]
  simp only [World.size_alloc] at h
  exact h)
 obtain ⟨w0,hw0⟩ : ∃ z,(World.alloc (World.alloc wS (.cells #[.slice aa m.mem.al.length ac,.int .i64 m.mem.next,.slice ka m.stks.length kc,.slice ra m.run.length rc,.int .i64 m.tag,.int .i64 m.call] 28)) (.cells #[.int .i64 pa,.int .i64 po,.int .i64 pt] 30))=z:=⟨_,rfl⟩
 rw [hw0] at hE0 bM bP
 replace hA:=Lib.hid hA;replace hK:=Lib.hid hK;replace hR:=Lib.hid hR;replace hn:=Lib.hid hn;have hres9:=Lib.hid hl
 go_enter Tryz.func56,Tryz.ntmps56
 obtain ⟨bM_0,bM_1,bM_2,bM_3,bM_4,bM_5,bM_l⟩:=bM.c6
 obtain ⟨bP_0,bP_1,bP_2,bP_l⟩:=bP.c3
 go_wp2_with fail
 try rw [hw0]
 clear hw0
 clear bM_0 bM_1 bM_2 bM_3 bM_4 bM_5 bM_l bP_0 bP_1 bP_2 bP_l
 refine (monitor_Load pa po pt 1 (hA.out.ext hE0) hn.out (hK.out.ext hE0) (hR.out.ext hE0)).mono ?_
 rintro e w1 ⟨vt,vl,rfl,fM,fL,hE1⟩
 replace bM:=bM.ext hE1
 replace bP:=bP.ext hE1
 have hF1:=Ext.trans hE0 hE1
 rw [hres9.out] at fM fL ⊢
 dsimp only at fM fL ⊢
 obtain ⟨asa,ass,asr,rfl,qa⟩:=FrMon.parts fM
 clear fM
 obtain ⟨v_aa,v_aac,rfl,-⟩:=(qa.read).1.form
 obtain ⟨v_ak,v_akc,rfl,-⟩:=(qa.read).2.1.form
 obtain ⟨v_ar,v_arc,rfl,-⟩:=(qa.read).2.2.form
 try dsimp only at qa ⊢
 obtain ⟨lax,lac,rfl,-⟩:=fL.read.form
 dsimp only [List.length] at fL ⊢
 have Ga:=Lib.hid (Fq.mono (S':=(fun b=>True)) qa (fun b h1 _=>by exact trivial))
 clear qa
 have Gla:=Lib.hid (Fq.mono (S':=(fun b=>True)) fL (fun b h1 _=>trivial));clear fL
 go_wp2_with fail
 have bA:=Box.new w1 28 #[.slice v_aa x.mem.al.length v_aac,.int .i64 x.mem.next,.slice v_ak x.stks.length v_akc,.slice v_ar x.run.length v_arc,.int .i64 x.tag,.int .i64 x.call]
 have hza : (World.alloc w1 (.cells #[.slice v_aa x.mem.al.length v_aac,.int .i64 x.mem.next,.slice v_ak x.stks.length v_akc,.slice v_ar x.run.length v_arc,.int .i64 x.tag,.int .i64 x.call] 28)).heap.size=w1.heap.size+1:=by rw [World.size_alloc]
 have hx2 : Ext w1 (World.alloc w1 (.cells #[.slice v_aa x.mem.al.length v_aac,.int .i64 x.mem.next,.slice v_ak x.stks.length v_akc,.slice v_ar x.run.length v_arc,.int .i64 x.tag,.int .i64 x.call] 28)):=(Ext.refl _).alloc _
 obtain ⟨w2b,hw2⟩ : ∃ z,World.alloc w1 (.cells #[.slice v_aa x.mem.al.length v_aac,.int .i64 x.mem.next,.slice v_ak x.stks.length v_akc,.slice v_ar x.run.length v_arc,.int .i64 x.tag,.int .i64 x.call] 28)=z:=⟨_,rfl⟩
 rw [hw2] at bA hx2 hza ⊢
 clear hw2
 have hzb0:=hza
 clear hza
 replace bM:=bM.ext hx2
 replace bP:=bP.ext hx2
 replace Ga:=Lib.hid (Fq.ext Ga.out hx2)
 replace Gla:=Lib.hid (Fq.ext Gla.out hx2)
 have hF3:=Ext.trans hF1 hx2
 clear hzb0
 refine (law35_num want _).mono ?_
 rintro e w4 ⟨rfl,hE4⟩
 replace bM:=bM.ext hE4
 replace bP:=bP.ext hE4
 replace bA:=bA.ext hE4
 replace Ga:=Lib.hid (Fq.ext Ga.out hE4)
 replace Gla:=Lib.hid (Fq.ext Gla.out hE4)
 have hF4:=Ext.trans hF3 hE4
 dsimp only [Cell.val]
 go_wp2_with fail
 refine (ref27_SameCells_yes (l:=[⟨1,want,0,0,0⟩]) (Fq.read (Fq.ext Gla.out ((Ext.refl _).alloc _))) (Cls.litF _ _ [⟨1,want,0,0,0⟩] 1 rfl (by simp [maxLen]) rfl).read).mono ?_
 rintro e w9 ⟨rfl,h9⟩
 go_wp2
 go_ret
 exact ⟨rfl,Ext.trans hF4 (((Ext.refl _).alloc _).trans h9)⟩
theorem alive35_data : ∃ m1 m2 m3 m4 x1 x2 x3,allocM newMon 1=(m1,⟨0,0,1⟩,0)∧storeM m1 ⟨0,0,1⟩ [⟨1,5,0,0,0⟩]=(m2,0,0)∧retagM m2 ⟨0,0,1⟩ 1 2 0=(m3,⟨0,0,2⟩,0,0)∧storeM m3 ⟨0,0,1⟩ [⟨1,6,0,0,0⟩]=(m4,0,0) ∧
  loadM m4 ⟨0,0,2⟩ 1=(x1,[],1,0)∧loadM m3 ⟨0,0,2⟩ 1=(x2,[⟨1,5,0,0,0⟩],0,0)∧loadM m4 ⟨0,0,1⟩ 1=(x3,[⟨1,6,0,0,0⟩],0,0)∧okMon m1=true∧okMon m2=true∧okMon m3=true∧okMon m4=true:=by
 refine ⟨(allocM newMon 1).1,(storeM (allocM newMon 1).1 ⟨0,0,1⟩ [⟨1,5,0,0,0⟩]).1,_,_,_,_,_,Prod.ext rfl ?_,Prod.ext rfl ?_,Prod.ext rfl ?_,Prod.ext rfl ?_,Prod.ext rfl ?_,Prod.ext rfl ?_,Prod.ext rfl ?_,?_,?_,?_,?_⟩
 all_goals decide +kernel
set_option maxRecDepth 100000 in
set_option maxHeartbeats 6400000 in
theorem law35_alive {wS : World} (hp : Perms wS) : Calls Tryz.prog 17 #[] wS fun e w'=>e = .returned (.bool true)∧Ext wS w':=by
 obtain ⟨m1,m2,m3,m4,x1,x2,x3,h1,h2,h3,h4,h5,h6,h7,k1,k2,k3,k4⟩:=alive35_data
 replace k1:=Lib.hid k1
 replace k2:=Lib.hid k2
 replace k3:=Lib.hid k3
 replace k4:=Lib.hid k4
 replace h1:=Lib.hid h1
 replace h2:=Lib.hid h2
 replace h3:=Lib.hid h3
 replace h4:=Lib.hid h4
 replace h5:=Lib.hid h5
 replace h6:=Lib.hid h6
 replace h7:=Lib.hid h7
 go_enter Tryz.func17,Tryz.ntmps17
 go_wp2_with fail
 refine (monitor_New wS).mono ?_
 rintro e w1 ⟨rfl,hE1⟩
 have hF1:=Ext.trans (Ext.refl wS) hE1
 go_wp2_with fail
 refine (monitor_Alloc (m:=newMon) (sa := .slice none 0 0) (ss := .slice none 0 0) (sr := .slice none 0 0) 1 (Als.nil _) (i64_of_ok (m:=newMon) (by decide +kernel)) (Kts.nil _) (Nts.nil _)).mono ?_
 rintro e w2 ⟨vt,rfl,fM,hE2⟩
 have hF2:=Ext.trans hF1 hE2
 rw [h1.out] at fM ⊢
 try dsimp only [Ptr.val] at fM ⊢
 obtain ⟨asa,ass,asr,rfl,qa⟩:=FrMon.parts fM
 clear fM
 obtain ⟨v_aa,v_aac,rfl,-⟩:=(qa.read).1.form
 obtain ⟨v_ak,v_akc,rfl,-⟩:=(qa.read).2.1.form
 obtain ⟨v_ar,v_arc,rfl,-⟩:=(qa.read).2.2.form
 try dsimp only at qa ⊢
 have Ga:=Lib.hid (Fq.mono (S':=(fun b=>True)) qa (fun b h1 _=>by exact trivial))
 clear qa
 have hres9:=h2
 go_upto_region 2 with fail
 have bA:=Box.new w2 28 #[.slice v_aa m1.mem.al.length v_aac,.int .i64 m1.mem.next,.slice v_ak m1.stks.length v_akc,.slice v_ar m1.run.length v_arc,.int .i64 m1.tag,.int .i64 m1.call]
 have hza : (World.alloc w2 (.cells #[.slice v_aa m1.mem.al.length v_aac,.int .i64 m1.mem.next,.slice v_ak m1.stks.length v_akc,.slice v_ar m1.run.length v_arc,.int .i64 m1.tag,.int .i64 m1.call] 28)).heap.size=w2.heap.size+1:=by rw [World.size_alloc]
 have hx3 : Ext w2 (World.alloc w2 (.cells #[.slice v_aa m1.mem.al.length v_aac,.int .i64 m1.mem.next,.slice v_ak m1.stks.length v_akc,.slice v_ar m1.run.length v_arc,.int .i64 m1.tag,.int .i64 m1.call] 28)):=(Ext.refl _).alloc _
 obtain ⟨w3b,hw3⟩ : ∃ z,World.alloc w2 (.cells #[.slice v_aa m1.mem.al.length v_aac,.int .i64 m1.mem.next,.slice v_ak m1.stks.length v_akc,.slice v_ar m1.run.length v_arc,.int .i64 m1.tag,.int .i64 m1.call] 28)=z:=⟨_,rfl⟩
 rw [hw3] at bA hx3 hza ⊢
 clear hw3
 have hzb0:=hza
 clear hza
 replace Ga:=Lib.hid (Fq.ext Ga.out hx3)
 have hF4:=Ext.trans hF2 hx3
 have bP:=Box.new w3b 30 #[.int .i64 0,.int .i64 0,.int .i64 1]
 rw [hzb0] at bP
 have hza : (World.alloc w3b (.cells #[.int .i64 0,.int .i64 0,.int .i64 1] 30)).heap.size=w2.heap.size+2:=by rw [World.size_alloc,hzb0]
 have hx5 : Ext w3b (World.alloc w3b (.cells #[.int .i64 0,.int .i64 0,.int .i64 1] 30)):=(Ext.refl _).alloc _
 obtain ⟨w5b,hw5⟩ : ∃ z,World.alloc w3b (.cells #[.int .i64 0,.int .i64 0,.int .i64 1] 30)=z:=⟨_,rfl⟩
 rw [hw5] at bP hx5 hza ⊢
 clear hw5
 clear hzb0
 have hzb1:=hza
 clear hza
 replace bA:=bA.ext hx5
 replace Ga:=Lib.hid (Fq.ext Ga.out hx5)
 have hF6:=Ext.trans hF4 hx5
 clear hzb1
 have rr:=Lib.hid Ga.out.read
 go_upto_region 2 with fail
 have cbA_0 : World.cell? w5b ⟨w2.heap.size,0,none⟩=some (.slice v_aa m1.mem.al.length v_aac):=bA.cell 0
 have cbA_1 : World.cell? w5b ⟨w2.heap.size,1,none⟩=some (.int .i64 m1.mem.next):=bA.cell 1
 have cbA_2 : World.cell? w5b ⟨w2.heap.size,2,none⟩=some (.slice v_ak m1.stks.length v_akc):=bA.cell 2
 have cbA_3 : World.cell? w5b ⟨w2.heap.size,3,none⟩=some (.slice v_ar m1.run.length v_arc):=bA.cell 3
 have cbA_4 : World.cell? w5b ⟨w2.heap.size,4,none⟩=some (.int .i64 m1.tag):=bA.cell 4
 have cbA_5 : World.cell? w5b ⟨w2.heap.size,5,none⟩=some (.int .i64 m1.call):=bA.cell 5
 have cbP_0 : World.cell? w5b ⟨w2.heap.size+1,0,none⟩=some (.int .i64 0):=bP.cell 0
 have cbP_1 : World.cell? w5b ⟨w2.heap.size+1,1,none⟩=some (.int .i64 0):=bP.cell 1
 have cbP_2 : World.cell? w5b ⟨w2.heap.size+1,2,none⟩=some (.int .i64 1):=bP.cell 2
 refine wp_region_st (R:=RX w5b.drew.heap.size [9] (XM w5b.drew.heap.size [9] m2 #[])) RX.refl (fun _ _ _=>RX.trans XM_st) [PrS.eq _ (.agg #[.slice v_aa m1.mem.al.length v_aac,.int .i64 m1.mem.next,.slice v_ak m1.stks.length v_akc,.slice v_ar m1.run.length v_arc,.int .i64 m1.tag,.int .i64 m1.call]),PrS.eq _ (.agg #[.int .i64 0,.int .i64 0,.int .i64 1]),PrS.eq _ (.agg #[.int .u8 1,.int .i64 5,.int .i64 0,.int .i64 0,.int .i64 0]),(PrFS w5b.drew.heap.size [9] (XM w5b.drew.heap.size [9] m2 #[]) (fun a9 : Option Addr × Nat => .slice a9.1 1 a9.2) (fun a9 w=>Cls w (.slice a9.1 1 a9.2) [⟨1,5,0,0,0⟩])),(PrFS w5b.drew.heap.size [9] (XM w5b.drew.heap.size [9] m2 #[]) (fun a9 : A3 => .tuple #[.agg #[.slice a9.a1 m2.mem.al.length a9.c1,.int .i64 m2.mem.next,.slice a9.a2 m2.stks.length a9.c2,.slice a9.a3 m2.run.length a9.c3,.int .i64 m2.tag,.int .i64 m2.call],.int .u8 0,.int .i64 0]) (RdA m2)),(PrFS w5b.drew.heap.size [9] (XM w5b.drew.heap.size [9] m2 #[]) (fun a9 : A3 => .tuple #[.agg #[.slice a9.a1 m2.mem.al.length a9.c1,.int .i64 m2.mem.next,.slice a9.a2 m2.stks.length a9.c2,.slice a9.a3 m2.run.length a9.c3,.int .i64 m2.tag,.int .i64 m2.call],.int .u8 0,.int .i64 0]) (RdA m2)),(PrFS w5b.drew.heap.size [9] (XM w5b.drew.heap.size [9] m2 #[]) (fun a9 : A3 => .agg #[.slice a9.a1 m2.mem.al.length a9.c1,.int .i64 m2.mem.next,.slice a9.a2 m2.stks.length a9.c2,.slice a9.a3 m2.run.length a9.c3,.int .i64 m2.tag,.int .i64 m2.call]) (RdA m2)),PrS.eq _ (.int .u8 0),PrS.eq _ (.int .i64 0),(PrBx w5b.drew.heap.size [9] (XM w5b.drew.heap.size [9] m2 #[]) 28 6),(PrSt w5b.drew.heap.size [9] (XM w5b.drew.heap.size [9] m2 #[]) XM_st 28),PrS.eq _ (.int .u8 0),PrS.eq _ (.int .i64 0)] (by kernel_rfl) (by kernel_rfl) ?_ ?_
 ·refine ⟨?_,?_,?_,?_,?_,?_,?_,?_,?_,?_,?_,?_,?_,trivial⟩
  ·intro β a w hβ hE hd ho
   refine .inl ⟨rfl,?_⟩
   intro Kq hKq
   have hF : Ext w5b w:=Ext.trans ((Ext.refl _).drew) (hE.to_ext (Nat.le_refl _))
   have e1 : a.eval (.tmp 1) = .pointer (some ⟨w2.heap.size,0,none⟩):=ho 1 (by kernel_rfl)
   rw [eval_tmp] at e1
   have cbA_0w:=Ext.cell hF cbA_0
   have cbA_1w:=Ext.cell hF cbA_1
   have cbA_2w:=Ext.cell hF cbA_2
   have cbA_3w:=Ext.cell hF cbA_3
   have cbA_4w:=Ext.cell hF cbA_4
   have cbA_5w:=Ext.cell hF cbA_5
   clear cbA_0 cbA_1 cbA_2 cbA_3 cbA_4 cbA_5 cbP_0 cbP_1 cbP_2
   clear hd ho
   replace hKq:=Lib.hid hKq;replace hE:=Lib.hid hE;replace hβ:=Lib.hid hβ
   go_simp
   exact hKq.out _ _ rfl (RX.ext hβ.out (by decide) (Ext.refl _))
  ·intro β a w hβ hE hd ho
   refine .inl ⟨rfl,?_⟩
   intro Kq hKq
   have hF : Ext w5b w:=Ext.trans ((Ext.refl _).drew) (hE.to_ext (Nat.le_refl _))
   have e2 : a.eval (.tmp 2) = .pointer (some ⟨w2.heap.size+1,0,none⟩):=ho 2 (by kernel_rfl)
   rw [eval_tmp] at e2
   have cbP_0w:=Ext.cell hF cbP_0
   have cbP_1w:=Ext.cell hF cbP_1
   have cbP_2w:=Ext.cell hF cbP_2
   clear cbA_0 cbA_1 cbA_2 cbA_3 cbA_4 cbA_5 cbP_0 cbP_1 cbP_2
   clear hd ho
   replace hKq:=Lib.hid hKq;replace hE:=Lib.hid hE;replace hβ:=Lib.hid hβ
   go_simp
   exact hKq.out _ _ rfl (RX.ext hβ.out (by decide) (Ext.refl _))
  ·intro β a w hβ hE hd ho
   refine .inl ⟨rfl,?_⟩
   intro Kq hKq
   have hF : Ext w5b w:=Ext.trans ((Ext.refl _).drew) (hE.to_ext (Nat.le_refl _))
   clear cbA_0 cbA_1 cbA_2 cbA_3 cbA_4 cbA_5 cbP_0 cbP_1 cbP_2
   clear hd ho
   replace hKq:=Lib.hid hKq;replace hE:=Lib.hid hE;replace hβ:=Lib.hid hβ
   go_simp
   refine (law35_num 5 w).mono ?_
   rintro e wz ⟨rfl,hZ⟩
   dsimp only [Cell.val]
   go_simp
   exact hKq.out _ _ rfl (RX.ext hβ.out (by decide) hZ)
  ·intro β a w hβ hE hd ho
   refine .inl ⟨rfl,?_⟩
   intro Kq hKq
   have hF : Ext w5b w:=Ext.trans ((Ext.refl _).drew) (hE.to_ext (Nat.le_refl _))
   have e27 : a.eval (.tmp 27) = .agg #[.int .u8 1,.int .i64 5,.int .i64 0,.int .i64 0,.int .i64 0]:=(hd 2 (by kernel_rfl)).1
   rw [eval_tmp] at e27
   clear cbA_0 cbA_1 cbA_2 cbA_3 cbA_4 cbA_5 cbP_0 cbP_1 cbP_2
   clear hd ho
   replace hKq:=Lib.hid hKq;replace hE:=Lib.hid hE;replace hβ:=Lib.hid hβ
   go_simp
   exact hKq.out _ _ ⟨(some ⟨_,0,none⟩,1),rfl,FSb.new hE.out (by decide) hF.size (Cls.litF w #[.int .u8 1,.int .i64 5,.int .i64 0,.int .i64 0,.int .i64 0] [⟨1,5,0,0,0⟩] 1 rfl (by simp [maxLen]) rfl)⟩ (RX.ext hβ.out (by decide) ((Ext.refl _).alloc _))
  ·intro β a w hβ hE hd ho
   refine .inl ⟨rfl,?_⟩
   intro Kq hKq
   have hF : Ext w5b w:=Ext.trans ((Ext.refl _).drew) (hE.to_ext (Nat.le_refl _))
   have e25 : a.eval (.tmp 25) = .agg #[.slice v_aa m1.mem.al.length v_aac,.int .i64 m1.mem.next,.slice v_ak m1.stks.length v_akc,.slice v_ar m1.run.length v_arc,.int .i64 m1.tag,.int .i64 m1.call]:=(hd 0 (by kernel_rfl)).1
   rw [eval_tmp] at e25
   have e26 : a.eval (.tmp 26) = .agg #[.int .i64 0,.int .i64 0,.int .i64 1]:=(hd 1 (by kernel_rfl)).1
   rw [eval_tmp] at e26
   obtain ⟨⟨y1_28,y2_28⟩,e28,g28⟩ : ∃ a9 : Option Addr × Nat,a.eval (.tmp 28) = .slice a9.1 1 a9.2∧FSb w5b.drew.heap.size [9] (β,w) (fun w=>Cls w (.slice a9.1 1 a9.2) [⟨1,5,0,0,0⟩]):=(hd 3 (by kernel_rfl)).1
   dsimp only at e28 g28
   rw [eval_tmp] at e28
   replace g28:=Lib.hid g28
   clear cbA_0 cbA_1 cbA_2 cbA_3 cbA_4 cbA_5 cbP_0 cbP_1 cbP_2
   clear hd ho
   replace hKq:=Lib.hid hKq;replace hE:=Lib.hid hE;replace hβ:=Lib.hid hβ
   go_simp
   refine (monitor_Store 0 0 1 (rr.out.1.ext hF) (i64_of_ok k1.out) (rr.out.2.1.ext hF) (rr.out.2.2.ext hF) g28.out.read).mono ?_
   rintro e wz ⟨vt,rfl,fM,hZ⟩
   rw [hres9.out] at fM ⊢
   obtain ⟨⟨z1,z2,z3,z4,z5,z6⟩,rfl,q9⟩:=FrMon.a3 fM
   clear fM
   dsimp only at q9 ⊢
   go_simp
   exact hKq.out _ _ ⟨⟨z1,z2,z3,z4,z5,z6⟩,rfl,FSb.new hE.out (by decide) hF.size q9⟩ (RX.ext hβ.out (by decide) hZ)
  ·intro β a w hβ hE hd ho
   refine .inl ⟨rfl,?_⟩
   intro Kq hKq
   have hF : Ext w5b w:=Ext.trans ((Ext.refl _).drew) (hE.to_ext (Nat.le_refl _))
   obtain ⟨⟨y1_29,y2_29,y3_29,y4_29,y5_29,y6_29⟩,e29,g29⟩ : ∃ a9 : A3,a.eval (.tmp 29) = .tuple #[.agg #[.slice a9.a1 m2.mem.al.length a9.c1,.int .i64 m2.mem.next,.slice a9.a2 m2.stks.length a9.c2,.slice a9.a3 m2.run.length a9.c3,.int .i64 m2.tag,.int .i64 m2.call],.int .u8 0,.int .i64 0]∧FSb w5b.drew.heap.size [9] (β,w) (RdA m2 a9):=(hd 4 (by kernel_rfl)).1
   dsimp only at e29
   rw [eval_tmp] at e29
   replace g29:=Lib.hid g29
   clear cbA_0 cbA_1 cbA_2 cbA_3 cbA_4 cbA_5 cbP_0 cbP_1 cbP_2
   clear hd ho
   replace hKq:=Lib.hid hKq;replace hE:=Lib.hid hE;replace hβ:=Lib.hid hβ
   go_simp
   exact hKq.out _ _ ⟨_,rfl,FSb.mono g29.out (RX0.ext hβ.out (by decide) (Ext.refl _))⟩ (RX.ext hβ.out (by decide) (Ext.refl _))
  ·intro β a w hβ hE hd ho
   refine .inl ⟨rfl,?_⟩
   intro Kq hKq
   have hF : Ext w5b w:=Ext.trans ((Ext.refl _).drew) (hE.to_ext (Nat.le_refl _))
   obtain ⟨⟨y1_24,y2_24,y3_24,y4_24,y5_24,y6_24⟩,e24,g24⟩ : ∃ a9 : A3,a.eval (.tmp 24) = .tuple #[.agg #[.slice a9.a1 m2.mem.al.length a9.c1,.int .i64 m2.mem.next,.slice a9.a2 m2.stks.length a9.c2,.slice a9.a3 m2.run.length a9.c3,.int .i64 m2.tag,.int .i64 m2.call],.int .u8 0,.int .i64 0]∧FSb w5b.drew.heap.size [9] (β,w) (RdA m2 a9):=(hd 5 (by kernel_rfl)).1
   dsimp only at e24
   rw [eval_tmp] at e24
   replace g24:=Lib.hid g24
   clear cbA_0 cbA_1 cbA_2 cbA_3 cbA_4 cbA_5 cbP_0 cbP_1 cbP_2
   clear hd ho
   replace hKq:=Lib.hid hKq;replace hE:=Lib.hid hE;replace hβ:=Lib.hid hβ
   go_simp
   exact hKq.out _ _ ⟨_,rfl,FSb.mono g24.out (RX0.ext hβ.out (by decide) (Ext.refl _))⟩ (RX.ext hβ.out (by decide) (Ext.refl _))
  ·intro β a w hβ hE hd ho
   refine .inl ⟨rfl,?_⟩
   intro Kq hKq
   have hF : Ext w5b w:=Ext.trans ((Ext.refl _).drew) (hE.to_ext (Nat.le_refl _))
   obtain ⟨⟨y1_24,y2_24,y3_24,y4_24,y5_24,y6_24⟩,e24,g24⟩ : ∃ a9 : A3,a.eval (.tmp 24) = .tuple #[.agg #[.slice a9.a1 m2.mem.al.length a9.c1,.int .i64 m2.mem.next,.slice a9.a2 m2.stks.length a9.c2,.slice a9.a3 m2.run.length a9.c3,.int .i64 m2.tag,.int .i64 m2.call],.int .u8 0,.int .i64 0]∧FSb w5b.drew.heap.size [9] (β,w) (RdA m2 a9):=(hd 5 (by kernel_rfl)).1
   dsimp only at e24
   rw [eval_tmp] at e24
   replace g24:=Lib.hid g24
   clear cbA_0 cbA_1 cbA_2 cbA_3 cbA_4 cbA_5 cbP_0 cbP_1 cbP_2
   clear hd ho
   replace hKq:=Lib.hid hKq;replace hE:=Lib.hid hE;replace hβ:=Lib.hid hβ
   go_simp
   exact hKq.out _ _ rfl (RX.ext hβ.out (by decide) (Ext.refl _))
  ·intro β a w hβ hE hd ho
   refine .inl ⟨rfl,?_⟩
   intro Kq hKq
   have hF : Ext w5b w:=Ext.trans ((Ext.refl _).drew) (hE.to_ext (Nat.le_refl _))
   obtain ⟨⟨y1_24,y2_24,y3_24,y4_24,y5_24,y6_24⟩,e24,g24⟩ : ∃ a9 : A3,a.eval (.tmp 24) = .tuple #[.agg #[.slice a9.a1 m2.mem.al.length a9.c1,.int .i64 m2.mem.next,.slice a9.a2 m2.stks.length a9.c2,.slice a9.a3 m2.run.length a9.c3,.int .i64 m2.tag,.int .i64 m2.call],.int .u8 0,.int .i64 0]∧FSb w5b.drew.heap.size [9] (β,w) (RdA m2 a9):=(hd 5 (by kernel_rfl)).1
   dsimp only at e24
   rw [eval_tmp] at e24
   replace g24:=Lib.hid g24
   clear cbA_0 cbA_1 cbA_2 cbA_3 cbA_4 cbA_5 cbP_0 cbP_1 cbP_2
   clear hd ho
   replace hKq:=Lib.hid hKq;replace hE:=Lib.hid hE;replace hβ:=Lib.hid hβ
   go_simp
   exact hKq.out _ _ rfl (RX.ext hβ.out (by decide) (Ext.refl _))
  ·intro β a w hβ hE hd ho
   refine .inl ⟨rfl,?_⟩
   intro Kq hKq
   have hF : Ext w5b w:=Ext.trans ((Ext.refl _).drew) (hE.to_ext (Nat.le_refl _))
   clear cbA_0 cbA_1 cbA_2 cbA_3 cbA_4 cbA_5 cbP_0 cbP_1 cbP_2
   clear hd ho
   replace hKq:=Lib.hid hKq;replace hE:=Lib.hid hE;replace hβ:=Lib.hid hβ
   go_simp
   exact hKq.out _ _ ⟨_,rfl,hF.size,#[.slice none 0 0,.int .i64 0,.slice none 0 0,.slice none 0 0,.int .i64 0,.int .i64 0],rfl,Box.new _ _ _⟩ (RX.made hβ.out ((Ext.refl _).alloc _) (fun x e=>by cases e;exact ⟨Nat.le_refl _,by simp⟩))
  ·intro β a w hβ hE hd ho
   refine .inl ⟨rfl,?_⟩
   intro Kq hKq
   have hF : Ext w5b w:=Ext.trans ((Ext.refl _).drew) (hE.to_ext (Nat.le_refl _))
   obtain ⟨bq,eq,hNb,vs0,hv0,hbx⟩ : ∃ b,a.eval (.tmp 4) = .pointer (some ⟨b,0,none⟩)∧w5b.drew.heap.size≤b∧BoxT 28 6 w b:=(hd 9 (by kernel_rfl)).1
   have eqb : β 9=some (.pointer (some ⟨bq,0,none⟩)):=(hd 9 (by kernel_rfl)).2.trans (congrArg some eq)
   have eq0:=eq
   rw [eval_tmp] at eq
   obtain ⟨u0,u1,u2,u3,u4,u5,rfl⟩ : ∃ u0 u1 u2 u3 u4 u5,vs0=#[u0,u1,u2,u3,u4,u5]:=by match vs0,hv0 with | ⟨[u0,u1,u2,u3,u4,u5]⟩,_=>exact ⟨u0,u1,u2,u3,u4,u5,rfl⟩
   have bc0 : World.cell? w ⟨bq,0,none⟩=some u0:=hbx.cell 0
   have bf0:=hbx.frozen 0
   have bc1 : World.cell? w ⟨bq,1,none⟩=some u1:=hbx.cell 1
   have bf1:=hbx.frozen 1
   have bc2 : World.cell? w ⟨bq,2,none⟩=some u2:=hbx.cell 2
   have bf2:=hbx.frozen 2
   have bc3 : World.cell? w ⟨bq,3,none⟩=some u3:=hbx.cell 3
   have bf3:=hbx.frozen 3
   have bc4 : World.cell? w ⟨bq,4,none⟩=some u4:=hbx.cell 4
   have bf4:=hbx.frozen 4
   have bc5 : World.cell? w ⟨bq,5,none⟩=some u5:=hbx.cell 5
   have bf5:=hbx.frozen 5
   have hbl:=hbx.lt
   replace hbx:=Lib.hid hbx;replace eq0:=Lib.hid eq0;replace eqb:=Lib.hid eqb
   obtain ⟨⟨y1_30,y2_30,y3_30,y4_30,y5_30,y6_30⟩,e30,g30⟩ : ∃ a9 : A3,a.eval (.tmp 30) = .agg #[.slice a9.a1 m2.mem.al.length a9.c1,.int .i64 m2.mem.next,.slice a9.a2 m2.stks.length a9.c2,.slice a9.a3 m2.run.length a9.c3,.int .i64 m2.tag,.int .i64 m2.call]∧FSb w5b.drew.heap.size [9] (β,w) (RdA m2 a9):=(hd 6 (by kernel_rfl)).1
   dsimp only at e30
   rw [eval_tmp] at e30
   replace g30:=Lib.hid g30
   clear cbA_0 cbA_1 cbA_2 cbA_3 cbA_4 cbA_5 cbP_0 cbP_1 cbP_2
   clear hd ho
   replace hKq:=Lib.hid hKq;replace hE:=Lib.hid hE;replace hβ:=Lib.hid hβ
   go_simp
   have hBx : Box (World.setCell (World.setCell (World.setCell (World.setCell (World.setCell (World.setCell w ⟨bq,0,none⟩ (.slice y1_30 m2.mem.al.length y2_30)) ⟨bq,1,none⟩ (.int .i64 m2.mem.next)) ⟨bq,2,none⟩ (.slice y3_30 m2.stks.length y4_30)) ⟨bq,3,none⟩ (.slice y5_30 m2.run.length y6_30)) ⟨bq,4,none⟩ (.int .i64 m2.tag)) ⟨bq,5,none⟩ (.int .i64 m2.call)) bq 28 #[.slice y1_30 m2.mem.al.length y2_30,.int .i64 m2.mem.next,.slice y3_30 m2.stks.length y4_30,.slice y5_30 m2.run.length y6_30,.int .i64 m2.tag,.int .i64 m2.call]:=(Box.set (Box.set (Box.set (Box.set (Box.set (Box.set hbx.out 0 (.slice y1_30 m2.mem.al.length y2_30)) 1 (.int .i64 m2.mem.next)) 2 (.slice y3_30 m2.stks.length y4_30)) 3 (.slice y5_30 m2.run.length y6_30)) 4 (.int .i64 m2.tag)) 5 (.int .i64 m2.call))
   have hXR:=RX.store (X:=XM w5b.drew.heap.size [9] m2 #[]) (i:=10) (v:=a.eval (.tmp 4)) hβ.out (by decide) (j:=9) (by decide) eqb.out hNb (ExtBut.trans (ExtBut.trans (ExtBut.trans (ExtBut.trans (ExtBut.trans (ExtBut.setCell w ⟨bq,0,none⟩ (.slice y1_30 m2.mem.al.length y2_30)) (ExtBut.setCell (World.setCell w ⟨bq,0,none⟩ (.slice y1_30 m2.mem.al.length y2_30)) ⟨bq,1,none⟩ (.int .i64 m2.mem.next))) (ExtBut.setCell (World.setCell (World.setCell w ⟨bq,0,none⟩ (.slice y1_30 m2.mem.al.length y2_30)) ⟨bq,1,none⟩ (.int .i64 m2.mem.next)) ⟨bq,2,none⟩ (.slice y3_30 m2.stks.length y4_30))) (ExtBut.setCell (World.setCell (World.setCell (World.setCell w ⟨bq,0,none⟩ (.slice y1_30 m2.mem.al.length y2_30)) ⟨bq,1,none⟩ (.int .i64 m2.mem.next)) ⟨bq,2,none⟩ (.slice y3_30 m2.stks.length y4_30)) ⟨bq,3,none⟩ (.slice y5_30 m2.run.length y6_30))) (ExtBut.setCell (World.setCell (World.setCell (World.setCell (World.setCell w ⟨bq,0,none⟩ (.slice y1_30 m2.mem.al.length y2_30)) ⟨bq,1,none⟩ (.int .i64 m2.mem.next)) ⟨bq,2,none⟩ (.slice y3_30 m2.stks.length y4_30)) ⟨bq,3,none⟩ (.slice y5_30 m2.run.length y6_30)) ⟨bq,4,none⟩ (.int .i64 m2.tag))) (ExtBut.setCell (World.setCell (World.setCell (World.setCell (World.setCell (World.setCell w ⟨bq,0,none⟩ (.slice y1_30 m2.mem.al.length y2_30)) ⟨bq,1,none⟩ (.int .i64 m2.mem.next)) ⟨bq,2,none⟩ (.slice y3_30 m2.stks.length y4_30)) ⟨bq,3,none⟩ (.slice y5_30 m2.run.length y6_30)) ⟨bq,4,none⟩ (.int .i64 m2.tag)) ⟨bq,5,none⟩ (.int .i64 m2.call))) hbx.out hBx rfl (fun hR0=>⟨fun _=>⟨⟨y1_30,y2_30,y3_30,y4_30,y5_30,y6_30⟩,rfl,FSb.mono g30.out hR0⟩,fun h=>by cases h⟩)
   exact hKq.out undef (World.setCell (World.setCell (World.setCell (World.setCell (World.setCell (World.setCell w ⟨bq,0,none⟩ (.slice y1_30 m2.mem.al.length y2_30)) ⟨bq,1,none⟩ (.int .i64 m2.mem.next)) ⟨bq,2,none⟩ (.slice y3_30 m2.stks.length y4_30)) ⟨bq,3,none⟩ (.slice y5_30 m2.run.length y6_30)) ⟨bq,4,none⟩ (.int .i64 m2.tag)) ⟨bq,5,none⟩ (.int .i64 m2.call)) ⟨bq,_,eq0.out,hNb,hBx,hXR.1⟩ hXR.2
  ·intro β a w hβ hE hd ho
   refine .inl ⟨rfl,?_⟩
   intro Kq hKq
   have hF : Ext w5b w:=Ext.trans ((Ext.refl _).drew) (hE.to_ext (Nat.le_refl _))
   have e31 : a.eval (.tmp 31) = .int .u8 0:=(hd 7 (by kernel_rfl)).1
   rw [eval_tmp] at e31
   clear cbA_0 cbA_1 cbA_2 cbA_3 cbA_4 cbA_5 cbP_0 cbP_1 cbP_2
   clear hd ho
   replace hKq:=Lib.hid hKq;replace hE:=Lib.hid hE;replace hβ:=Lib.hid hβ
   go_simp
   exact hKq.out _ _ rfl (RX.ext hβ.out (by decide) (Ext.refl _))
  ·intro β a w hβ hE hd ho
   refine .inl ⟨rfl,?_⟩
   intro Kq hKq
   have hF : Ext w5b w:=Ext.trans ((Ext.refl _).drew) (hE.to_ext (Nat.le_refl _))
   have e32 : a.eval (.tmp 32) = .int .i64 0:=(hd 8 (by kernel_rfl)).1
   rw [eval_tmp] at e32
   clear cbA_0 cbA_1 cbA_2 cbA_3 cbA_4 cbA_5 cbP_0 cbP_1 cbP_2
   clear hd ho
   replace hKq:=Lib.hid hKq;replace hE:=Lib.hid hE;replace hβ:=Lib.hid hβ
   go_simp
   exact hKq.out _ _ rfl (RX.ext hβ.out (by decide) (Ext.refl _))
 ·intro vals β Ac wq hAc hE hv hsv hbv
  have hF : Ext w5b wq:=Ext.trans ((Ext.refl _).drew) (hE.to_ext (Nat.le_refl _))
  obtain ⟨bB_a,vs9,eb,-,bB,hXX⟩:=hv 10 (by decide)
  obtain ⟨⟨v_ba,v_bac,v_bk,v_bkc,v_br,v_brc⟩,rfl,hq9⟩:=hXX.1 rfl
  dsimp only at bB
  have e1 : vals 9 = .pointer (some ⟨bB_a,0,none⟩):=((hsv 9).trans (hsv 10).symm).trans eb
  have e2 : vals 11 = .int .u8 0:=hv 11 (by decide)
  have e3 : vals 12 = .int .i64 0:=hv 12 (by decide)
  have qb : Fq (fun b=>True) wq (fun w=>RdA m2 ⟨v_ba,v_bac,v_bk,v_bkc,v_br,v_brc⟩ w):=Fq.mono hq9 (fun b h1 hl=>trivial)
  clear hv hsv hbv hE eb hXX hq9 cbA_0 cbA_1 cbA_2 cbA_3 cbA_4 cbA_5 cbP_0 cbP_1 cbP_2
  subst hAc
  simp only [putAll]
  go_simp
  try rw [e1,e2,e3]
  clear e1 e2 e3
  obtain ⟨w7q,hwq⟩ : ∃ z,wq=z:=⟨_,rfl⟩
  rw [hwq] at hF qb bB ⊢
  clear hwq
  replace bA:=bA.ext hF
  replace bP:=bP.ext hF
  replace Ga:=Lib.hid (Fq.ext Ga.out hF)
  have hF8:=Ext.trans hF6 hF
  have Gb:=Lib.hid qb;clear qb
  clear rr
  clear Ga
  clear bA
  obtain ⟨bP_0,bP_1,bP_2,bP_l⟩:=bP.c3
  obtain ⟨bB_0,bB_1,bB_2,bB_3,bB_4,bB_5,bB_l⟩:=bB.c6
  go_wp2_with fail
  clear bP_0 bP_1 bP_2 bP_l bB_0 bB_1 bB_2 bB_3 bB_4 bB_5 bB_l
  refine (monitor_Retag 0 0 1 1 0 (hp.ext hF8) (by unfold u8B;decide) Gb.out.read.1 (i64_of_ok k2.out) Gb.out.read.2.1 Gb.out.read.2.2).mono ?_
  rintro e w9 ⟨vt,rfl,fM,hE9⟩
  replace bP:=bP.ext hE9
  replace bB:=bB.ext hE9
  replace Gb:=Lib.hid (Fq.ext Gb.out hE9)
  have hF9:=Ext.trans hF8 hE9
  rw [h3.out] at fM ⊢
  try dsimp only [Ptr.val] at fM ⊢
  obtain ⟨csa,css,csr,rfl,qc⟩:=FrMon.parts fM
  clear fM
  obtain ⟨v_ca,v_cac,rfl,-⟩:=(qc.read).1.form
  obtain ⟨v_ck,v_ckc,rfl,-⟩:=(qc.read).2.1.form
  obtain ⟨v_cr,v_crc,rfl,-⟩:=(qc.read).2.2.form
  try dsimp only at qc ⊢
  have Gc:=Lib.hid (Fq.mono (S':=(fun b=>True)) qc (fun b h1 _=>by exact trivial))
  clear qc
  go_upto_region 4 with fail
  have bC:=Box.new w9 28 #[.slice v_ca m3.mem.al.length v_cac,.int .i64 m3.mem.next,.slice v_ck m3.stks.length v_ckc,.slice v_cr m3.run.length v_crc,.int .i64 m3.tag,.int .i64 m3.call]
  have hza : (World.alloc w9 (.cells #[.slice v_ca m3.mem.al.length v_cac,.int .i64 m3.mem.next,.slice v_ck m3.stks.length v_ckc,.slice v_cr m3.run.length v_crc,.int .i64 m3.tag,.int .i64 m3.call] 28)).heap.size=w9.heap.size+1:=by rw [World.size_alloc]
  have hx10 : Ext w9 (World.alloc w9 (.cells #[.slice v_ca m3.mem.al.length v_cac,.int .i64 m3.mem.next,.slice v_ck m3.stks.length v_ckc,.slice v_cr m3.run.length v_crc,.int .i64 m3.tag,.int .i64 m3.call] 28)):=(Ext.refl _).alloc _
  obtain ⟨w10b,hw10⟩ : ∃ z,World.alloc w9 (.cells #[.slice v_ca m3.mem.al.length v_cac,.int .i64 m3.mem.next,.slice v_ck m3.stks.length v_ckc,.slice v_cr m3.run.length v_crc,.int .i64 m3.tag,.int .i64 m3.call] 28)=z:=⟨_,rfl⟩
  rw [hw10] at bC hx10 hza ⊢
  clear hw10
  have hzb0:=hza
  clear hza
  replace bP:=bP.ext hx10
  replace bB:=bB.ext hx10
  replace Gb:=Lib.hid (Fq.ext Gb.out hx10)
  replace Gc:=Lib.hid (Fq.ext Gc.out hx10)
  have hF11:=Ext.trans hF9 hx10
  have bQ:=Box.new w10b 30 #[.int .i64 0,.int .i64 0,.int .i64 2]
  rw [hzb0] at bQ
  have hza : (World.alloc w10b (.cells #[.int .i64 0,.int .i64 0,.int .i64 2] 30)).heap.size=w9.heap.size+2:=by rw [World.size_alloc,hzb0]
  have hx12 : Ext w10b (World.alloc w10b (.cells #[.int .i64 0,.int .i64 0,.int .i64 2] 30)):=(Ext.refl _).alloc _
  obtain ⟨w12b,hw12⟩ : ∃ z,World.alloc w10b (.cells #[.int .i64 0,.int .i64 0,.int .i64 2] 30)=z:=⟨_,rfl⟩
  rw [hw12] at bQ hx12 hza ⊢
  clear hw12
  clear hzb0
  have hzb1:=hza
  clear hza
  replace bP:=bP.ext hx12
  replace bB:=bB.ext hx12
  replace bC:=bC.ext hx12
  replace Gb:=Lib.hid (Fq.ext Gb.out hx12)
  replace Gc:=Lib.hid (Fq.ext Gc.out hx12)
  have hF13:=Ext.trans hF11 hx12
  clear hzb1
  have hres9:=h4
  have rr:=Lib.hid Gc.out.read
  go_upto_region 4 with fail
  have cbC_0 : World.cell? w12b ⟨w9.heap.size,0,none⟩=some (.slice v_ca m3.mem.al.length v_cac):=bC.cell 0
  have cbC_1 : World.cell? w12b ⟨w9.heap.size,1,none⟩=some (.int .i64 m3.mem.next):=bC.cell 1
  have cbC_2 : World.cell? w12b ⟨w9.heap.size,2,none⟩=some (.slice v_ck m3.stks.length v_ckc):=bC.cell 2
  have cbC_3 : World.cell? w12b ⟨w9.heap.size,3,none⟩=some (.slice v_cr m3.run.length v_crc):=bC.cell 3
  have cbC_4 : World.cell? w12b ⟨w9.heap.size,4,none⟩=some (.int .i64 m3.tag):=bC.cell 4
  have cbC_5 : World.cell? w12b ⟨w9.heap.size,5,none⟩=some (.int .i64 m3.call):=bC.cell 5
  have cbP_0 : World.cell? w12b ⟨w2.heap.size+1,0,none⟩=some (.int .i64 0):=bP.cell 0
  have cbP_1 : World.cell? w12b ⟨w2.heap.size+1,1,none⟩=some (.int .i64 0):=bP.cell 1
  have cbP_2 : World.cell? w12b ⟨w2.heap.size+1,2,none⟩=some (.int .i64 1):=bP.cell 2
  refine wp_region_st (R:=RX w12b.drew.heap.size [9] (XM w12b.drew.heap.size [9] m4 #[])) RX.refl (fun _ _ _=>RX.trans XM_st) [PrS.eq _ (.agg #[.slice v_ca m3.mem.al.length v_cac,.int .i64 m3.mem.next,.slice v_ck m3.stks.length v_ckc,.slice v_cr m3.run.length v_crc,.int .i64 m3.tag,.int .i64 m3.call]),PrS.eq _ (.agg #[.int .i64 0,.int .i64 0,.int .i64 1]),PrS.eq _ (.agg #[.int .u8 1,.int .i64 6,.int .i64 0,.int .i64 0,.int .i64 0]),(PrFS w12b.drew.heap.size [9] (XM w12b.drew.heap.size [9] m4 #[]) (fun a9 : Option Addr × Nat => .slice a9.1 1 a9.2) (fun a9 w=>Cls w (.slice a9.1 1 a9.2) [⟨1,6,0,0,0⟩])),(PrFS w12b.drew.heap.size [9] (XM w12b.drew.heap.size [9] m4 #[]) (fun a9 : A3 => .tuple #[.agg #[.slice a9.a1 m4.mem.al.length a9.c1,.int .i64 m4.mem.next,.slice a9.a2 m4.stks.length a9.c2,.slice a9.a3 m4.run.length a9.c3,.int .i64 m4.tag,.int .i64 m4.call],.int .u8 0,.int .i64 0]) (RdA m4)),(PrFS w12b.drew.heap.size [9] (XM w12b.drew.heap.size [9] m4 #[]) (fun a9 : A3 => .tuple #[.agg #[.slice a9.a1 m4.mem.al.length a9.c1,.int .i64 m4.mem.next,.slice a9.a2 m4.stks.length a9.c2,.slice a9.a3 m4.run.length a9.c3,.int .i64 m4.tag,.int .i64 m4.call],.int .u8 0,.int .i64 0]) (RdA m4)),(PrFS w12b.drew.heap.size [9] (XM w12b.drew.heap.size [9] m4 #[]) (fun a9 : A3 => .agg #[.slice a9.a1 m4.mem.al.length a9.c1,.int .i64 m4.mem.next,.slice a9.a2 m4.stks.length a9.c2,.slice a9.a3 m4.run.length a9.c3,.int .i64 m4.tag,.int .i64 m4.call]) (RdA m4)),PrS.eq _ (.int .u8 0),PrS.eq _ (.int .i64 0),(PrBx w12b.drew.heap.size [9] (XM w12b.drew.heap.size [9] m4 #[]) 28 6),(PrSt w12b.drew.heap.size [9] (XM w12b.drew.heap.size [9] m4 #[]) XM_st 28),PrS.eq _ (.int .u8 0),PrS.eq _ (.int .i64 0)] (by kernel_rfl) (by kernel_rfl) ?_ ?_
  ·refine ⟨?_,?_,?_,?_,?_,?_,?_,?_,?_,?_,?_,?_,?_,trivial⟩
   ·intro β a w hβ hE hd ho
    refine .inl ⟨rfl,?_⟩
    intro Kq hKq
    have hF : Ext w12b w:=Ext.trans ((Ext.refl _).drew) (hE.to_ext (Nat.le_refl _))
    have e7 : a.eval (.tmp 7) = .pointer (some ⟨w9.heap.size,0,none⟩):=ho 7 (by kernel_rfl)
    rw [eval_tmp] at e7
    have cbC_0w:=Ext.cell hF cbC_0
    have cbC_1w:=Ext.cell hF cbC_1
    have cbC_2w:=Ext.cell hF cbC_2
    have cbC_3w:=Ext.cell hF cbC_3
    have cbC_4w:=Ext.cell hF cbC_4
    have cbC_5w:=Ext.cell hF cbC_5
    clear cbC_0 cbC_1 cbC_2 cbC_3 cbC_4 cbC_5 cbP_0 cbP_1 cbP_2
    clear hd ho
    replace hKq:=Lib.hid hKq;replace hE:=Lib.hid hE;replace hβ:=Lib.hid hβ
    go_simp
    exact hKq.out _ _ rfl (RX.ext hβ.out (by decide) (Ext.refl _))
   ·intro β a w hβ hE hd ho
    refine .inl ⟨rfl,?_⟩
    intro Kq hKq
    have hF : Ext w12b w:=Ext.trans ((Ext.refl _).drew) (hE.to_ext (Nat.le_refl _))
    have e2 : a.eval (.tmp 2) = .pointer (some ⟨w2.heap.size+1,0,none⟩):=ho 2 (by kernel_rfl)
    rw [eval_tmp] at e2
    have cbP_0w:=Ext.cell hF cbP_0
    have cbP_1w:=Ext.cell hF cbP_1
    have cbP_2w:=Ext.cell hF cbP_2
    clear cbC_0 cbC_1 cbC_2 cbC_3 cbC_4 cbC_5 cbP_0 cbP_1 cbP_2
    clear hd ho
    replace hKq:=Lib.hid hKq;replace hE:=Lib.hid hE;replace hβ:=Lib.hid hβ
    go_simp
    exact hKq.out _ _ rfl (RX.ext hβ.out (by decide) (Ext.refl _))
   ·intro β a w hβ hE hd ho
    refine .inl ⟨rfl,?_⟩
    intro Kq hKq
    have hF : Ext w12b w:=Ext.trans ((Ext.refl _).drew) (hE.to_ext (Nat.le_refl _))
    clear cbC_0 cbC_1 cbC_2 cbC_3 cbC_4 cbC_5 cbP_0 cbP_1 cbP_2
    clear hd ho
    replace hKq:=Lib.hid hKq;replace hE:=Lib.hid hE;replace hβ:=Lib.hid hβ
    go_simp
    refine (law35_num 6 w).mono ?_
    rintro e wz ⟨rfl,hZ⟩
    dsimp only [Cell.val]
    go_simp
    exact hKq.out _ _ rfl (RX.ext hβ.out (by decide) hZ)
   ·intro β a w hβ hE hd ho
    refine .inl ⟨rfl,?_⟩
    intro Kq hKq
    have hF : Ext w12b w:=Ext.trans ((Ext.refl _).drew) (hE.to_ext (Nat.le_refl _))
    have e44 : a.eval (.tmp 44) = .agg #[.int .u8 1,.int .i64 6,.int .i64 0,.int .i64 0,.int .i64 0]:=(hd 2 (by kernel_rfl)).1
    rw [eval_tmp] at e44
    clear cbC_0 cbC_1 cbC_2 cbC_3 cbC_4 cbC_5 cbP_0 cbP_1 cbP_2
    clear hd ho
    replace hKq:=Lib.hid hKq;replace hE:=Lib.hid hE;replace hβ:=Lib.hid hβ
    go_simp
    exact hKq.out _ _ ⟨(some ⟨_,0,none⟩,1),rfl,FSb.new hE.out (by decide) hF.size (Cls.litF w #[.int .u8 1,.int .i64 6,.int .i64 0,.int .i64 0,.int .i64 0] [⟨1,6,0,0,0⟩] 1 rfl (by simp [maxLen]) rfl)⟩ (RX.ext hβ.out (by decide) ((Ext.refl _).alloc _))
   ·intro β a w hβ hE hd ho
    refine .inl ⟨rfl,?_⟩
    intro Kq hKq
    have hF : Ext w12b w:=Ext.trans ((Ext.refl _).drew) (hE.to_ext (Nat.le_refl _))
    have e42 : a.eval (.tmp 42) = .agg #[.slice v_ca m3.mem.al.length v_cac,.int .i64 m3.mem.next,.slice v_ck m3.stks.length v_ckc,.slice v_cr m3.run.length v_crc,.int .i64 m3.tag,.int .i64 m3.call]:=(hd 0 (by kernel_rfl)).1
    rw [eval_tmp] at e42
    have e43 : a.eval (.tmp 43) = .agg #[.int .i64 0,.int .i64 0,.int .i64 1]:=(hd 1 (by kernel_rfl)).1
    rw [eval_tmp] at e43
    obtain ⟨⟨y1_45,y2_45⟩,e45,g45⟩ : ∃ a9 : Option Addr × Nat,a.eval (.tmp 45) = .slice a9.1 1 a9.2∧FSb w12b.drew.heap.size [9] (β,w) (fun w=>Cls w (.slice a9.1 1 a9.2) [⟨1,6,0,0,0⟩]):=(hd 3 (by kernel_rfl)).1
    dsimp only at e45 g45
    rw [eval_tmp] at e45
    replace g45:=Lib.hid g45
    clear cbC_0 cbC_1 cbC_2 cbC_3 cbC_4 cbC_5 cbP_0 cbP_1 cbP_2
    clear hd ho
    replace hKq:=Lib.hid hKq;replace hE:=Lib.hid hE;replace hβ:=Lib.hid hβ
    go_simp
    refine (monitor_Store 0 0 1 (rr.out.1.ext hF) (i64_of_ok k3.out) (rr.out.2.1.ext hF) (rr.out.2.2.ext hF) g45.out.read).mono ?_
    rintro e wz ⟨vt,rfl,fM,hZ⟩
    rw [hres9.out] at fM ⊢
    obtain ⟨⟨z1,z2,z3,z4,z5,z6⟩,rfl,q9⟩:=FrMon.a3 fM
    clear fM
    dsimp only at q9 ⊢
    go_simp
    exact hKq.out _ _ ⟨⟨z1,z2,z3,z4,z5,z6⟩,rfl,FSb.new hE.out (by decide) hF.size q9⟩ (RX.ext hβ.out (by decide) hZ)
   ·intro β a w hβ hE hd ho
    refine .inl ⟨rfl,?_⟩
    intro Kq hKq
    have hF : Ext w12b w:=Ext.trans ((Ext.refl _).drew) (hE.to_ext (Nat.le_refl _))
    obtain ⟨⟨y1_46,y2_46,y3_46,y4_46,y5_46,y6_46⟩,e46,g46⟩ : ∃ a9 : A3,a.eval (.tmp 46) = .tuple #[.agg #[.slice a9.a1 m4.mem.al.length a9.c1,.int .i64 m4.mem.next,.slice a9.a2 m4.stks.length a9.c2,.slice a9.a3 m4.run.length a9.c3,.int .i64 m4.tag,.int .i64 m4.call],.int .u8 0,.int .i64 0]∧FSb w12b.drew.heap.size [9] (β,w) (RdA m4 a9):=(hd 4 (by kernel_rfl)).1
    dsimp only at e46
    rw [eval_tmp] at e46
    replace g46:=Lib.hid g46
    clear cbC_0 cbC_1 cbC_2 cbC_3 cbC_4 cbC_5 cbP_0 cbP_1 cbP_2
    clear hd ho
    replace hKq:=Lib.hid hKq;replace hE:=Lib.hid hE;replace hβ:=Lib.hid hβ
    go_simp
    exact hKq.out _ _ ⟨_,rfl,FSb.mono g46.out (RX0.ext hβ.out (by decide) (Ext.refl _))⟩ (RX.ext hβ.out (by decide) (Ext.refl _))
   ·intro β a w hβ hE hd ho
    refine .inl ⟨rfl,?_⟩
    intro Kq hKq
    have hF : Ext w12b w:=Ext.trans ((Ext.refl _).drew) (hE.to_ext (Nat.le_refl _))
    obtain ⟨⟨y1_41,y2_41,y3_41,y4_41,y5_41,y6_41⟩,e41,g41⟩ : ∃ a9 : A3,a.eval (.tmp 41) = .tuple #[.agg #[.slice a9.a1 m4.mem.al.length a9.c1,.int .i64 m4.mem.next,.slice a9.a2 m4.stks.length a9.c2,.slice a9.a3 m4.run.length a9.c3,.int .i64 m4.tag,.int .i64 m4.call],.int .u8 0,.int .i64 0]∧FSb w12b.drew.heap.size [9] (β,w) (RdA m4 a9):=(hd 5 (by kernel_rfl)).1
    dsimp only at e41
    rw [eval_tmp] at e41
    replace g41:=Lib.hid g41
    clear cbC_0 cbC_1 cbC_2 cbC_3 cbC_4 cbC_5 cbP_0 cbP_1 cbP_2
    clear hd ho
    replace hKq:=Lib.hid hKq;replace hE:=Lib.hid hE;replace hβ:=Lib.hid hβ
    go_simp
    exact hKq.out _ _ ⟨_,rfl,FSb.mono g41.out (RX0.ext hβ.out (by decide) (Ext.refl _))⟩ (RX.ext hβ.out (by decide) (Ext.refl _))
   ·intro β a w hβ hE hd ho
    refine .inl ⟨rfl,?_⟩
    intro Kq hKq
    have hF : Ext w12b w:=Ext.trans ((Ext.refl _).drew) (hE.to_ext (Nat.le_refl _))
    obtain ⟨⟨y1_41,y2_41,y3_41,y4_41,y5_41,y6_41⟩,e41,g41⟩ : ∃ a9 : A3,a.eval (.tmp 41) = .tuple #[.agg #[.slice a9.a1 m4.mem.al.length a9.c1,.int .i64 m4.mem.next,.slice a9.a2 m4.stks.length a9.c2,.slice a9.a3 m4.run.length a9.c3,.int .i64 m4.tag,.int .i64 m4.call],.int .u8 0,.int .i64 0]∧FSb w12b.drew.heap.size [9] (β,w) (RdA m4 a9):=(hd 5 (by kernel_rfl)).1
    dsimp only at e41
    rw [eval_tmp] at e41
    replace g41:=Lib.hid g41
    clear cbC_0 cbC_1 cbC_2 cbC_3 cbC_4 cbC_5 cbP_0 cbP_1 cbP_2
    clear hd ho
    replace hKq:=Lib.hid hKq;replace hE:=Lib.hid hE;replace hβ:=Lib.hid hβ
    go_simp
    exact hKq.out _ _ rfl (RX.ext hβ.out (by decide) (Ext.refl _))
   ·intro β a w hβ hE hd ho
    refine .inl ⟨rfl,?_⟩
    intro Kq hKq
    have hF : Ext w12b w:=Ext.trans ((Ext.refl _).drew) (hE.to_ext (Nat.le_refl _))
    obtain ⟨⟨y1_41,y2_41,y3_41,y4_41,y5_41,y6_41⟩,e41,g41⟩ : ∃ a9 : A3,a.eval (.tmp 41) = .tuple #[.agg #[.slice a9.a1 m4.mem.al.length a9.c1,.int .i64 m4.mem.next,.slice a9.a2 m4.stks.length a9.c2,.slice a9.a3 m4.run.length a9.c3,.int .i64 m4.tag,.int .i64 m4.call],.int .u8 0,.int .i64 0]∧FSb w12b.drew.heap.size [9] (β,w) (RdA m4 a9):=(hd 5 (by kernel_rfl)).1
    dsimp only at e41
    rw [eval_tmp] at e41
    replace g41:=Lib.hid g41
    clear cbC_0 cbC_1 cbC_2 cbC_3 cbC_4 cbC_5 cbP_0 cbP_1 cbP_2
    clear hd ho
    replace hKq:=Lib.hid hKq;replace hE:=Lib.hid hE;replace hβ:=Lib.hid hβ
    go_simp
    exact hKq.out _ _ rfl (RX.ext hβ.out (by decide) (Ext.refl _))
   ·intro β a w hβ hE hd ho
    refine .inl ⟨rfl,?_⟩
    intro Kq hKq
    have hF : Ext w12b w:=Ext.trans ((Ext.refl _).drew) (hE.to_ext (Nat.le_refl _))
    clear cbC_0 cbC_1 cbC_2 cbC_3 cbC_4 cbC_5 cbP_0 cbP_1 cbP_2
    clear hd ho
    replace hKq:=Lib.hid hKq;replace hE:=Lib.hid hE;replace hβ:=Lib.hid hβ
    go_simp
    exact hKq.out _ _ ⟨_,rfl,hF.size,#[.slice none 0 0,.int .i64 0,.slice none 0 0,.slice none 0 0,.int .i64 0,.int .i64 0],rfl,Box.new _ _ _⟩ (RX.made hβ.out ((Ext.refl _).alloc _) (fun x e=>by cases e;exact ⟨Nat.le_refl _,by simp⟩))
   ·intro β a w hβ hE hd ho
    refine .inl ⟨rfl,?_⟩
    intro Kq hKq
    have hF : Ext w12b w:=Ext.trans ((Ext.refl _).drew) (hE.to_ext (Nat.le_refl _))
    obtain ⟨bq,eq,hNb,vs0,hv0,hbx⟩ : ∃ b,a.eval (.tmp 11) = .pointer (some ⟨b,0,none⟩)∧w12b.drew.heap.size≤b∧BoxT 28 6 w b:=(hd 9 (by kernel_rfl)).1
    have eqb : β 9=some (.pointer (some ⟨bq,0,none⟩)):=(hd 9 (by kernel_rfl)).2.trans (congrArg some eq)
    have eq0:=eq
    rw [eval_tmp] at eq
    obtain ⟨u0,u1,u2,u3,u4,u5,rfl⟩ : ∃ u0 u1 u2 u3 u4 u5,vs0=#[u0,u1,u2,u3,u4,u5]:=by match vs0,hv0 with | ⟨[u0,u1,u2,u3,u4,u5]⟩,_=>exact ⟨u0,u1,u2,u3,u4,u5,rfl⟩
    have bc0 : World.cell? w ⟨bq,0,none⟩=some u0:=hbx.cell 0
    have bf0:=hbx.frozen 0
    have bc1 : World.cell? w ⟨bq,1,none⟩=some u1:=hbx.cell 1
    have bf1:=hbx.frozen 1
    have bc2 : World.cell? w ⟨bq,2,none⟩=some u2:=hbx.cell 2
    have bf2:=hbx.frozen 2
    have bc3 : World.cell? w ⟨bq,3,none⟩=some u3:=hbx.cell 3
    have bf3:=hbx.frozen 3
    have bc4 : World.cell? w ⟨bq,4,none⟩=some u4:=hbx.cell 4
    have bf4:=hbx.frozen 4
    have bc5 : World.cell? w ⟨bq,5,none⟩=some u5:=hbx.cell 5
    have bf5:=hbx.frozen 5
    have hbl:=hbx.lt
    replace hbx:=Lib.hid hbx;replace eq0:=Lib.hid eq0;replace eqb:=Lib.hid eqb
    obtain ⟨⟨y1_47,y2_47,y3_47,y4_47,y5_47,y6_47⟩,e47,g47⟩ : ∃ a9 : A3,a.eval (.tmp 47) = .agg #[.slice a9.a1 m4.mem.al.length a9.c1,.int .i64 m4.mem.next,.slice a9.a2 m4.stks.length a9.c2,.slice a9.a3 m4.run.length a9.c3,.int .i64 m4.tag,.int .i64 m4.call]∧FSb w12b.drew.heap.size [9] (β,w) (RdA m4 a9):=(hd 6 (by kernel_rfl)).1
    dsimp only at e47
    rw [eval_tmp] at e47
    replace g47:=Lib.hid g47
    clear cbC_0 cbC_1 cbC_2 cbC_3 cbC_4 cbC_5 cbP_0 cbP_1 cbP_2
    clear hd ho
    replace hKq:=Lib.hid hKq;replace hE:=Lib.hid hE;replace hβ:=Lib.hid hβ
    go_simp
    have hBx : Box (World.setCell (World.setCell (World.setCell (World.setCell (World.setCell (World.setCell w ⟨bq,0,none⟩ (.slice y1_47 m4.mem.al.length y2_47)) ⟨bq,1,none⟩ (.int .i64 m4.mem.next)) ⟨bq,2,none⟩ (.slice y3_47 m4.stks.length y4_47)) ⟨bq,3,none⟩ (.slice y5_47 m4.run.length y6_47)) ⟨bq,4,none⟩ (.int .i64 m4.tag)) ⟨bq,5,none⟩ (.int .i64 m4.call)) bq 28 #[.slice y1_47 m4.mem.al.length y2_47,.int .i64 m4.mem.next,.slice y3_47 m4.stks.length y4_47,.slice y5_47 m4.run.length y6_47,.int .i64 m4.tag,.int .i64 m4.call]:=(Box.set (Box.set (Box.set (Box.set (Box.set (Box.set hbx.out 0 (.slice y1_47 m4.mem.al.length y2_47)) 1 (.int .i64 m4.mem.next)) 2 (.slice y3_47 m4.stks.length y4_47)) 3 (.slice y5_47 m4.run.length y6_47)) 4 (.int .i64 m4.tag)) 5 (.int .i64 m4.call))
    have hXR:=RX.store (X:=XM w12b.drew.heap.size [9] m4 #[]) (i:=10) (v:=a.eval (.tmp 11)) hβ.out (by decide) (j:=9) (by decide) eqb.out hNb (ExtBut.trans (ExtBut.trans (ExtBut.trans (ExtBut.trans (ExtBut.trans (ExtBut.setCell w ⟨bq,0,none⟩ (.slice y1_47 m4.mem.al.length y2_47)) (ExtBut.setCell (World.setCell w ⟨bq,0,none⟩ (.slice y1_47 m4.mem.al.length y2_47)) ⟨bq,1,none⟩ (.int .i64 m4.mem.next))) (ExtBut.setCell (World.setCell (World.setCell w ⟨bq,0,none⟩ (.slice y1_47 m4.mem.al.length y2_47)) ⟨bq,1,none⟩ (.int .i64 m4.mem.next)) ⟨bq,2,none⟩ (.slice y3_47 m4.stks.length y4_47))) (ExtBut.setCell (World.setCell (World.setCell (World.setCell w ⟨bq,0,none⟩ (.slice y1_47 m4.mem.al.length y2_47)) ⟨bq,1,none⟩ (.int .i64 m4.mem.next)) ⟨bq,2,none⟩ (.slice y3_47 m4.stks.length y4_47)) ⟨bq,3,none⟩ (.slice y5_47 m4.run.length y6_47))) (ExtBut.setCell (World.setCell (World.setCell (World.setCell (World.setCell w ⟨bq,0,none⟩ (.slice y1_47 m4.mem.al.length y2_47)) ⟨bq,1,none⟩ (.int .i64 m4.mem.next)) ⟨bq,2,none⟩ (.slice y3_47 m4.stks.length y4_47)) ⟨bq,3,none⟩ (.slice y5_47 m4.run.length y6_47)) ⟨bq,4,none⟩ (.int .i64 m4.tag))) (ExtBut.setCell (World.setCell (World.setCell (World.setCell (World.setCell (World.setCell w ⟨bq,0,none⟩ (.slice y1_47 m4.mem.al.length y2_47)) ⟨bq,1,none⟩ (.int .i64 m4.mem.next)) ⟨bq,2,none⟩ (.slice y3_47 m4.stks.length y4_47)) ⟨bq,3,none⟩ (.slice y5_47 m4.run.length y6_47)) ⟨bq,4,none⟩ (.int .i64 m4.tag)) ⟨bq,5,none⟩ (.int .i64 m4.call))) hbx.out hBx rfl (fun hR0=>⟨fun _=>⟨⟨y1_47,y2_47,y3_47,y4_47,y5_47,y6_47⟩,rfl,FSb.mono g47.out hR0⟩,fun h=>by cases h⟩)
    exact hKq.out undef (World.setCell (World.setCell (World.setCell (World.setCell (World.setCell (World.setCell w ⟨bq,0,none⟩ (.slice y1_47 m4.mem.al.length y2_47)) ⟨bq,1,none⟩ (.int .i64 m4.mem.next)) ⟨bq,2,none⟩ (.slice y3_47 m4.stks.length y4_47)) ⟨bq,3,none⟩ (.slice y5_47 m4.run.length y6_47)) ⟨bq,4,none⟩ (.int .i64 m4.tag)) ⟨bq,5,none⟩ (.int .i64 m4.call)) ⟨bq,_,eq0.out,hNb,hBx,hXR.1⟩ hXR.2
   ·intro β a w hβ hE hd ho
    refine .inl ⟨rfl,?_⟩
    intro Kq hKq
    have hF : Ext w12b w:=Ext.trans ((Ext.refl _).drew) (hE.to_ext (Nat.le_refl _))
    have e48 : a.eval (.tmp 48) = .int .u8 0:=(hd 7 (by kernel_rfl)).1
    rw [eval_tmp] at e48
    clear cbC_0 cbC_1 cbC_2 cbC_3 cbC_4 cbC_5 cbP_0 cbP_1 cbP_2
    clear hd ho
    replace hKq:=Lib.hid hKq;replace hE:=Lib.hid hE;replace hβ:=Lib.hid hβ
    go_simp
    exact hKq.out _ _ rfl (RX.ext hβ.out (by decide) (Ext.refl _))
   ·intro β a w hβ hE hd ho
    refine .inl ⟨rfl,?_⟩
    intro Kq hKq
    have hF : Ext w12b w:=Ext.trans ((Ext.refl _).drew) (hE.to_ext (Nat.le_refl _))
    have e49 : a.eval (.tmp 49) = .int .i64 0:=(hd 8 (by kernel_rfl)).1
    rw [eval_tmp] at e49
    clear cbC_0 cbC_1 cbC_2 cbC_3 cbC_4 cbC_5 cbP_0 cbP_1 cbP_2
    clear hd ho
    replace hKq:=Lib.hid hKq;replace hE:=Lib.hid hE;replace hβ:=Lib.hid hβ
    go_simp
    exact hKq.out _ _ rfl (RX.ext hβ.out (by decide) (Ext.refl _))
  ·intro vals β Ac wq hAc hE hv hsv hbv
   have hF : Ext w12b wq:=Ext.trans ((Ext.refl _).drew) (hE.to_ext (Nat.le_refl _))
   obtain ⟨bD_a,vs9,eb,-,bD,hXX⟩:=hv 10 (by decide)
   obtain ⟨⟨v_da,v_dac,v_dk,v_dkc,v_dr,v_drc⟩,rfl,hq9⟩:=hXX.1 rfl
   dsimp only at bD
   have e1 : vals 9 = .pointer (some ⟨bD_a,0,none⟩):=((hsv 9).trans (hsv 10).symm).trans eb
   have e2 : vals 11 = .int .u8 0:=hv 11 (by decide)
   have e3 : vals 12 = .int .i64 0:=hv 12 (by decide)
   have qd : Fq (fun b=>True) wq (fun w=>RdA m4 ⟨v_da,v_dac,v_dk,v_dkc,v_dr,v_drc⟩ w):=Fq.mono hq9 (fun b h1 hl=>trivial)
   clear hv hsv hbv hE eb hXX hq9 cbC_0 cbC_1 cbC_2 cbC_3 cbC_4 cbC_5 cbP_0 cbP_1 cbP_2
   subst hAc
   simp only [putAll]
   go_simp
   try rw [e1,e2,e3]
   clear e1 e2 e3
   obtain ⟨w14q,hwq⟩ : ∃ z,wq=z:=⟨_,rfl⟩
   rw [hwq] at hF qd bD ⊢
   clear hwq
   replace bP:=bP.ext hF
   replace bB:=bB.ext hF
   replace bC:=bC.ext hF
   replace bQ:=bQ.ext hF
   replace Gb:=Lib.hid (Fq.ext Gb.out hF)
   replace Gc:=Lib.hid (Fq.ext Gc.out hF)
   have hF15:=Ext.trans hF13 hF
   have Gd:=Lib.hid qd;clear qd
   clear rr
   obtain ⟨bQ_0,bQ_1,bQ_2,bQ_l⟩:=bQ.c3
   obtain ⟨bD_0,bD_1,bD_2,bD_3,bD_4,bD_5,bD_l⟩:=bD.c6
   go_wp2_with fail
   clear bQ_0 bQ_1 bQ_2 bQ_l bD_0 bD_1 bD_2 bD_3 bD_4 bD_5 bD_l
   refine (monitor_Load 0 0 2 1 Gd.out.read.1 (i64_of_ok k4.out) Gd.out.read.2.1 Gd.out.read.2.2).mono ?_
   rintro e w16 ⟨vt,vl,rfl,fM,fL,hE16⟩
   replace bP:=bP.ext hE16
   replace bB:=bB.ext hE16
   replace bC:=bC.ext hE16
   replace bQ:=bQ.ext hE16
   replace bD:=bD.ext hE16
   replace Gb:=Lib.hid (Fq.ext Gb.out hE16)
   replace Gc:=Lib.hid (Fq.ext Gc.out hE16)
   replace Gd:=Lib.hid (Fq.ext Gd.out hE16)
   have hF16:=Ext.trans hF15 hE16
   rw [h5.out] at fM fL ⊢
   dsimp only at fM fL ⊢
   obtain ⟨esa,ess,esr,rfl,qe⟩:=FrMon.parts fM
   clear fM
   obtain ⟨v_ea,v_eac,rfl,-⟩:=(qe.read).1.form
   obtain ⟨v_ek,v_ekc,rfl,-⟩:=(qe.read).2.1.form
   obtain ⟨v_er,v_erc,rfl,-⟩:=(qe.read).2.2.form
   try dsimp only at qe ⊢
   obtain ⟨lex,lec,rfl,-⟩:=fL.read.form
   clear fL
   have Ge:=Lib.hid (Fq.mono (S':=(fun b=>True)) qe (fun b h1 _=>by exact trivial))
   clear qe
   obtain ⟨bP_0,bP_1,bP_2,bP_l⟩:=bP.c3
   obtain ⟨bC_0,bC_1,bC_2,bC_3,bC_4,bC_5,bC_l⟩:=bC.c6
   obtain ⟨bQ_0,bQ_1,bQ_2,bQ_l⟩:=bQ.c3
   go_wp2_with fail
   clear bP_0 bP_1 bP_2 bP_l bC_0 bC_1 bC_2 bC_3 bC_4 bC_5 bC_l bQ_0 bQ_1 bQ_2 bQ_l
   have bE:=Box.new w16 28 #[.slice v_ea x1.mem.al.length v_eac,.int .i64 x1.mem.next,.slice v_ek x1.stks.length v_ekc,.slice v_er x1.run.length v_erc,.int .i64 x1.tag,.int .i64 x1.call]
   have hza : (World.alloc w16 (.cells #[.slice v_ea x1.mem.al.length v_eac,.int .i64 x1.mem.next,.slice v_ek x1.stks.length v_ekc,.slice v_er x1.run.length v_erc,.int .i64 x1.tag,.int .i64 x1.call] 28)).heap.size=w16.heap.size+1:=by rw [World.size_alloc]
   have hx17 : Ext w16 (World.alloc w16 (.cells #[.slice v_ea x1.mem.al.length v_eac,.int .i64 x1.mem.next,.slice v_ek x1.stks.length v_ekc,.slice v_er x1.run.length v_erc,.int .i64 x1.tag,.int .i64 x1.call] 28)):=(Ext.refl _).alloc _
   obtain ⟨w17b,hw17⟩ : ∃ z,World.alloc w16 (.cells #[.slice v_ea x1.mem.al.length v_eac,.int .i64 x1.mem.next,.slice v_ek x1.stks.length v_ekc,.slice v_er x1.run.length v_erc,.int .i64 x1.tag,.int .i64 x1.call] 28)=z:=⟨_,rfl⟩
   rw [hw17] at bE hx17 hza ⊢
   clear hw17
   have hzb0:=hza
   clear hza
   replace bP:=bP.ext hx17
   replace bB:=bB.ext hx17
   replace bC:=bC.ext hx17
   replace bQ:=bQ.ext hx17
   replace bD:=bD.ext hx17
   replace Gb:=Lib.hid (Fq.ext Gb.out hx17)
   replace Gc:=Lib.hid (Fq.ext Gc.out hx17)
   replace Gd:=Lib.hid (Fq.ext Gd.out hx17)
   replace Ge:=Lib.hid (Fq.ext Ge.out hx17)
   have hF18:=Ext.trans hF16 hx17
   clear hzb0
   refine (law35_loads 0 0 2 5 x2 Gc.out.read.1 (i64_of_ok k3.out) Gc.out.read.2.1 Gc.out.read.2.2 h6.out).mono ?_
   rintro e w19 ⟨rfl,hE19⟩
   replace bP:=bP.ext hE19
   replace bB:=bB.ext hE19
   replace bC:=bC.ext hE19
   replace bQ:=bQ.ext hE19
   replace bD:=bD.ext hE19
   replace bE:=bE.ext hE19
   replace Gb:=Lib.hid (Fq.ext Gb.out hE19)
   replace Gc:=Lib.hid (Fq.ext Gc.out hE19)
   replace Gd:=Lib.hid (Fq.ext Gd.out hE19)
   replace Ge:=Lib.hid (Fq.ext Ge.out hE19)
   have hF19:=Ext.trans hF18 hE19
   obtain ⟨bP_0,bP_1,bP_2,bP_l⟩:=bP.c3
   obtain ⟨bD_0,bD_1,bD_2,bD_3,bD_4,bD_5,bD_l⟩:=bD.c6
   go_wp2_with fail
   clear bP_0 bP_1 bP_2 bP_l bD_0 bD_1 bD_2 bD_3 bD_4 bD_5 bD_l
   refine (law35_loads 0 0 1 6 x3 Gd.out.read.1 (i64_of_ok k4.out) Gd.out.read.2.1 Gd.out.read.2.2 h7.out).mono ?_
   rintro e w20 ⟨rfl,hE20⟩
   replace bP:=bP.ext hE20
   replace bB:=bB.ext hE20
   replace bC:=bC.ext hE20
   replace bQ:=bQ.ext hE20
   replace bD:=bD.ext hE20
   replace bE:=bE.ext hE20
   replace Gb:=Lib.hid (Fq.ext Gb.out hE20)
   replace Gc:=Lib.hid (Fq.ext Gc.out hE20)
   replace Gd:=Lib.hid (Fq.ext Gd.out hE20)
   replace Ge:=Lib.hid (Fq.ext Ge.out hE20)
   have hF20:=Ext.trans hF19 hE20
   go_wp2
   go_ret
   exact ⟨rfl,hF20⟩
end Go.Proofs.YtnplphcnagooeaaGreatDoor

/- Worlds that differ in new blocks and in the contents of fresh variables of some types; what such a variable holds afterwards, by its type. -/
namespace Go.Proofs.YtnplphcnagooeaaGreatDoor
set_option maxRecDepth 100000
open Go.RowKit
structure BxS (N : Nat) (L : List (TypeId × Nat)) (X : TypeId→Array Value→Prop) (w w' : World) : Prop where
 os : w'.os=w.os
 tape : w'.tape=w.tape
 output : w'.output=w.output
 size : w.heap.size≤w'.heap.size
 block : ∀ b,b < w.heap.size→w'.heap[b]? = w.heap[b]? ∨ (N≤b ∧ ∃ T n,(T,n) ∈ L∧BoxT T n w b ∧ ∃ vs,vs.size=n∧Box w' b T vs∧X T vs)
section
variable {N : Nat} {L : List (TypeId × Nat)} {X : TypeId→Array Value→Prop} {w w' w'' : World}
theorem BxS.refl (w : World) : BxS N L X w w:=⟨rfl,rfl,rfl,Nat.le_refl _,fun _ _ => .inl rfl⟩
theorem BxS.trans (h : BxS N L X w w') (k : BxS N L X w' w'') : BxS N L X w w'':=by
 refine ⟨k.os.trans h.os,k.tape.trans h.tape,k.output.trans h.output,Nat.le_trans h.size k.size,fun b hb => ?_⟩
 rcases k.block b (Nat.lt_of_lt_of_le hb h.size) with k1 | ⟨k1,T,n,hm,k2,k3⟩
 ·rcases h.block b hb with h1 | ⟨h1,T,n,hm,h2,vs,h3,h4,h5⟩
  ·exact .inl (k1.trans h1)
  ·exact .inr ⟨h1,T,n,hm,h2,vs,h3,k1.trans h4,h5⟩
 ·rcases h.block b hb with h1 | ⟨h1,T',n',hm',h2,vs',h3,h4,-⟩
  ·refine .inr ⟨k1,T,n,hm,?_,k3⟩
   obtain ⟨vs,e1,e2⟩:=k2
   exact ⟨vs,e1,h1.symm.trans e2⟩
  ·obtain ⟨vs2,e1,e2⟩:=k2
   have e3:=e2.symm.trans h4
   simp only [Option.some.injEq,Obj.cells.injEq,and_true] at e3
   obtain ⟨rfl,rfl⟩:=e3
   obtain ⟨us,e4,e5⟩:=h2
   exact .inr ⟨h1,T,n,hm,⟨us,by omega,e5⟩,k3⟩
theorem BxS.of_ext (h : Ext w w') : BxS N L X w w':=⟨h.os,h.tape,h.output,h.size,fun _ hb => .inl (h.blk hb)⟩
theorem BxS.to_ext (h : BxS N L X w w') (hN : w.heap.size≤N) : Ext w w':=⟨h.os,h.tape,h.output,h.size,fun b hb=>by rcases h.block b hb with h1 | ⟨h1,-⟩;exact h1;omega⟩
theorem BxS.but {T : TypeId} {n b : Nat} (hE : ExtBut (· = b) w w') (hm : (T,n) ∈ L) (hb : BoxT T n w b) (hN : N≤b) {vs : Array Value} (hs : vs.size=n) (hB : Box w' b T vs) (hX : X T vs) : BxS N L X w w' :=
 ⟨hE.os,hE.tape,hE.output,hE.size,fun c hc=>by
  by_cases e : c=b
  ·subst e;exact .inr ⟨hN,T,n,hm,hb,vs,hs,hB,hX⟩
  ·exact .inl (hE.block c hc e)⟩
def PrSB (N : Nat) (L : List (TypeId × Nat)) (X : TypeId→Array Value→Prop) (T : TypeId) (n : Nat) : PrR (BxS N L X):=⟨fun v w => ∃ b,v = .pointer (some ⟨b,0,none⟩)∧N≤b∧BoxT T n w b,fun _ _ _ ⟨b,h1,h2,h3⟩ hR=>⟨b,h1,h2,by
 rcases hR.block b h3.lt with h4 | ⟨-,T',n',-,h5,vs,h6,h7,-⟩
 ·obtain ⟨vs,e1,e2⟩:=h3
  exact ⟨vs,e1,h4.trans e2⟩
 ·obtain ⟨us,e1,e2⟩:=h3
  obtain ⟨us',e3,e4⟩:=h5
  have e5:=e2.symm.trans e4
  simp only [Option.some.injEq,Obj.cells.injEq,and_true] at e5
  obtain ⟨rfl,rfl⟩:=e5
  exact ⟨vs,by omega,h7⟩⟩⟩
def PrSH (N : Nat) (L : List (TypeId × Nat)) (X : TypeId→Array Value→Prop) (T : TypeId) (vs : Array Value) (hX : ∀ us,X T us→us=vs) : PrR (BxS N L X):=⟨fun v w => ∃ b,v = .pointer (some ⟨b,0,none⟩)∧N≤b∧Box w b T vs,fun _ _ _ ⟨b,h1,h2,h3⟩ hR=>⟨b,h1,h2,by
 rcases hR.block b h3.lt with h4 | ⟨-,T',n',-,h5,us,h6,h7,h8⟩
 ·exact h4.trans h3
 ·obtain ⟨us',e3,e4⟩:=h5
  have e5:=h3.symm.trans e4
  simp only [Option.some.injEq,Obj.cells.injEq,and_true] at e5
  obtain ⟨rfl,rfl⟩:=e5
  rw [← hX us h8]
  exact h7⟩⟩
end
end Go.Proofs.YtnplphcnagooeaaGreatDoor
