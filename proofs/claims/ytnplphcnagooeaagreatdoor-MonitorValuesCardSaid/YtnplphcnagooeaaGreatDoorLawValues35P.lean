/- MonitorValues: values do not depend on tags. No condition. (printed by gen/law35e.py) -/
import Derived.Test.YtnplphcnagooeaaGreatDoorQ22
import Derived.Test.YtnplphcnagooeaaGreatDoorQ23
import Derived.Test.YtnplphcnagooeaaGreatDoorQ24
import Derived.Test.YtnplphcnagooeaaGreatDoorQ02
import Derived.Test.YtnplphcnagooeaaGreatDoorQ11
import Derived.Deep.DeepCutAuto
namespace Go.Proofs.YtnplphcnagooeaaGreatDoor
set_option maxRecDepth 100000
open Go.ChangeShapes Go.WideShapes Go.ChangeAt Go.RowKit
theorem values_load {m x : Mon} {p : Ptr} {n v e w f : Int} {l l' : List Cell} (hok : okMon m=true) (h : loadM m p n=(x,l,v,e)) (h' : loadR m.mem p n=(l',w,f)) :
  e=f∧((f≠0∧v=0∧w=0∧l=l')∨(f=0∧v=3∧w=3)∨(f=0∧v≠0∧w≠3)∨(f=0∧v=0∧w=0∧l=l'∧x.mem=m.mem)):=by
 rcases load_ways h' with ⟨h1,rfl,-⟩ | ⟨rfl,rfl,-⟩ | ⟨rfl,hun,i,al,hat,hal,hlv,-,hask⟩
 ·rw [loadM_err hok h' (.inl h1)] at h
  simp only [Prod.mk.injEq] at h
  obtain ⟨rfl,rfl,rfl,rfl⟩:=h
  have h2 : (askR m.mem p n).2≠0:=by
   intro h2
   unfold loadR at h'
   rw [if_pos h2] at h'
   split at h'
   ·simp only [Prod.mk.injEq] at h';exact h1 h'.2.2.symm
   ·split at h'
    ·simp only [Prod.mk.injEq] at h';exact h1 h'.2.2.symm
    ·simp only [Prod.mk.injEq] at h';exact h1 h'.2.2.symm
  rw [loadR_err rfl h2] at h'
  simp only [Prod.mk.injEq] at h'
  exact ⟨rfl,.inl ⟨h1,rfl,rfl,h'.1⟩⟩
 ·rw [loadM_err hok h' (.inr rfl)] at h
  simp only [Prod.mk.injEq] at h
  obtain ⟨-,-,rfl,rfl⟩:=h
  exact ⟨rfl,.inr (.inl ⟨rfl,rfl,rfl⟩)⟩
 ·have hM:=MonOk.of hok
  obtain ⟨st,a,hst,-,-⟩:=hM.stk (List.getElem?_eq_some_iff.1 hal).1
  obtain ⟨⟨y,why,e4⟩,hd⟩ : ∃ z,use33 st p.o n p.t false m.run=z:=⟨_,rfl⟩
  have hu3 : w≠3:=by rcases hun with e | e <;> rw [e] <;> decide
  rw [loadM_live hok h' hu3 hat hst hd] at h
  split at h
  ·split at h
   ·rename_i hw
    subst hw
    simp only [Prod.mk.injEq] at h
    obtain ⟨rfl,rfl,rfl,rfl⟩:=h
    exact ⟨rfl,.inr (.inr (.inr ⟨rfl,rfl,rfl,rfl,rfl⟩))⟩
   ·rename_i hw
    simp only [Prod.mk.injEq] at h
    obtain ⟨-,-,rfl,rfl⟩:=h
    exact ⟨rfl,.inr (.inr (.inl ⟨rfl,hw,hu3⟩))⟩
  ·rename_i hw
   simp only [Prod.mk.injEq] at h
   obtain ⟨-,-,rfl,rfl⟩:=h
   exact ⟨rfl,.inr (.inr (.inl ⟨rfl,hw,hu3⟩))⟩
theorem values_store {m x : Mon} {p : Ptr} {v e w f : Int} {l : List Cell} {y : Mem} (hok : okMon m=true) (h : storeM m p l=(x,v,e)) (h' : storeR m.mem p l=(y,w,f)) :
  e=f∧((v=0∧w=0∧x.mem=y)∨(v≠0∧v=3∧w=3)∨(v≠0∧w≠3)):=by
 rcases storeR_cases m.mem p l with ⟨e',h1,h2⟩ | ⟨h1,-⟩ | ⟨i,a,h1,h2,h3,h4,h5⟩
 ·rw [h1] at h'
  simp only [Prod.mk.injEq] at h'
  obtain ⟨rfl,rfl,rfl⟩:=h'
  rw [storeM_err hok h1 (.inl h2)] at h
  simp only [Prod.mk.injEq] at h
  obtain ⟨rfl,rfl,rfl⟩:=h
  exact ⟨rfl,.inl ⟨rfl,rfl,rfl⟩⟩
 ·rw [h1] at h'
  simp only [Prod.mk.injEq] at h'
  obtain ⟨rfl,rfl,rfl⟩:=h'
  rw [storeM_err hok h1 (.inr (by decide))] at h
  simp only [Prod.mk.injEq] at h
  obtain ⟨-,rfl,rfl⟩:=h
  exact ⟨rfl,.inr (.inl ⟨by decide,rfl,rfl⟩)⟩
 ·rw [h5] at h'
  simp only [Prod.mk.injEq] at h'
  obtain ⟨rfl,rfl,rfl⟩:=h'
  have hM:=MonOk.of hok
  obtain ⟨st,b,hst,-,-⟩:=hM.stk (List.getElem?_eq_some_iff.1 h2).1
  obtain ⟨⟨z,why,e4⟩,hd⟩ : ∃ z,use33 st p.o (l.length : Int) p.t true m.run=z:=⟨_,rfl⟩
  rw [storeM_live hok h5 (askR_inv h1).2.2.2.2.2.2.1 hst hd] at h
  split at h
  ·simp only [Prod.mk.injEq] at h
   obtain ⟨rfl,rfl,rfl⟩:=h
   exact ⟨rfl,.inl ⟨rfl,rfl,rfl⟩⟩
  ·rename_i hw
   simp only [Prod.mk.injEq] at h
   obtain ⟨-,rfl,rfl⟩:=h
   exact ⟨rfl,.inr (.inr ⟨hw,by decide⟩)⟩
theorem values_retag {m x : Mon} {p r : Ptr} {n kind call why e : Int} (hok : okMon m=true) (h : retagM m p n kind call=(x,r,why,e)) : e≠0∨(e=0∧why≠0)∨(e=0∧why=0∧x.mem=m.mem):=by
 by_cases he : e=0
 ·by_cases hw : why=0
  ·subst he hw
   refine .inr (.inr ⟨rfl,rfl,?_⟩)
   unfold retagM at h
   rw [if_pos hok] at h
   split at h
   ·split at h
    ·split at h
     ·simp at h
     ·split at h
      ·simp at h
      ·split at h
       ·simp at h
       ·split at h
        ·simp only [Prod.mk.injEq] at h;rw [← h.1]
        ·rename_i hn;simp only [Prod.mk.injEq] at h;exact absurd ⟨h.2.2.2,h.2.2.1⟩ hn
    ·rename_i hn;simp only [Prod.mk.injEq] at h;exact absurd h.2.2.2 hn
   ·simp at h
  ·exact .inr (.inl ⟨he,hw⟩)
 ·exact .inl he
theorem values_enter {m x : Mon} {c e : Int} (hok : okMon m=true) (h : enterM m=(x,c,e)) : e≠0∨(e=0∧x.mem=m.mem):=by
 unfold enterM at h
 rw [if_pos hok] at h
 split at h
 ·simp only [Prod.mk.injEq] at h;exact .inl (by omega)
 ·simp only [Prod.mk.injEq] at h;exact .inr ⟨h.2.2.symm,by rw [← h.1]⟩
theorem values_leave {m x : Mon} {e : Int} (hok : okMon m=true) (h : leaveM m=(x,e)) : e≠0∨(e=0∧x.mem=m.mem):=by
 unfold leaveM at h
 rw [if_pos hok] at h
 split at h
 ·simp only [Prod.mk.injEq] at h;exact .inl (by omega)
 ·simp only [Prod.mk.injEq] at h;exact .inr ⟨h.2.symm,by rw [← h.1]⟩
theorem values_end {m x : Mon} {n u z a : Int} {y : Mem} (hok : okMon m=true) (h : endM m n=(x,u,z)) (h' : endR m.mem n=(y,a)) : z=a∧(z≠0∨(z=0∧u=2)∨(z=0∧u=0∧x.mem=y)):=by
 have hM:=MonOk.of hok
 by_cases ha : a=0
 ·subst ha
  obtain ⟨i,al,hat,hal,hlv,rfl⟩:=endR_zero hM.memOk h'
  obtain ⟨st,b,hst,-,-⟩:=hM.stk (List.getElem?_eq_some_iff.1 hal).1
  obtain ⟨⟨why,e4⟩,hd⟩ : ∃ z,endR34 st m.run=z:=⟨_,rfl⟩
  rw [endM_live hok hat hal hlv hst hd] at h
  split at h
  ·simp only [Prod.mk.injEq] at h
   obtain ⟨rfl,rfl,rfl⟩:=h
   exact ⟨rfl,.inr (.inr ⟨rfl,rfl,rfl⟩)⟩
  ·rename_i hw
   simp only [Prod.mk.injEq] at h
   obtain ⟨-,rfl,rfl⟩:=h
   refine ⟨rfl,.inr (.inl ⟨rfl,?_⟩)⟩
   unfold endR34 at hd
   split at hd
   ·simp only [Prod.mk.injEq] at hd
    split at hd
    ·exact absurd hd.1.symm hw
    ·exact hd.1.symm
   ·simp only [Prod.mk.injEq] at hd
    exact absurd hd.1.symm hw
 ·rw [endM_none hok (by rw [h'];exact ha),h'] at h
  simp only [Prod.mk.injEq] at h
  obtain ⟨-,-,rfl⟩:=h
  exact ⟨rfl,.inl ha⟩
theorem same_mem {x y : Mem} {s u : Value} {w : World} (e : x=y) (hs : Als w s x.al) (hu : Als w u y.al) : Calls Tryz.prog 20 #[.agg #[s,.int .i64 x.next],.agg #[u,.int .i64 y.next]] w fun e w'=>e = .returned (.bool true)∧Ext w w':=by
 subst e
 exact ref26_Same hs hu
theorem same_cells {l l' : List Cell} {s u : Value} {w : World} (e : l=l') (hs : Cls w s l) (hu : Cls w u l') : Calls Tryz.prog 16 #[s,u] w fun e w'=>e = .returned (.bool true)∧Ext w w':=by
 subst e
 exact ref27_SameCells_yes hs hu
set_option maxRecDepth 100000 in
set_option maxHeartbeats 12800000 in
theorem monitorValues_walk {m : Mon} {vm vl : Value} {l : List Cell} {wS : World} (hp : Perms wS) {kind : Int} (hkb : u8B kind) (p : Ptr) (hm : RdMon wS vm m) (hn : i64B m.mem.next) (hl : Cls wS vl l) :
  Calls Tryz.prog 4 #[vm,p.val,vl,.int .u8 kind] wS fun e w'=>e = .returned (.bool true)∧Ext wS w':=by
 obtain ⟨pa,po,pt⟩:=p
 unfold Ptr.val
 dsimp only
 obtain ⟨sa,ss,sr,rfl,hA,hK,hR⟩:=hm
 obtain ⟨aa,ac,rfl,hac,hacm,-⟩:=hA.form
 obtain ⟨ka,kc,rfl,hkc,hkcm,-⟩:=hK.form
 obtain ⟨ra,rc,rfl,hrc,hrcm,-⟩:=hR.form
 unfold maxLen at hacm hkcm hrcm
 have hE0 : Ext wS (World.alloc (World.alloc wS (.cells #[.slice aa m.mem.al.length ac,.int .i64 m.mem.next,.slice ka m.stks.length kc,.slice ra m.run.length rc,.int .i64 m.tag,.int .i64 m.call] 28)) (.cells #[.int .i64 pa,.int .i64 po,.int .i64 pt] 30)):=by repeat (first | exact Ext.refl _ | refine Ext.alloc ?_ _)
 have bM : Box (World.alloc (World.alloc wS (.cells #[.slice aa m.mem.al.length ac,.int .i64 m.mem.next,.slice ka m.stks.length kc,.slice ra m.run.length rc,.int .i64 m.tag,.int .i64 m.call] 28)) (.cells #[.int .i64 pa,.int .i64 po,.int .i64 pt] 30)) (wS.heap.size) 28 #[.slice aa m.mem.al.length ac,.int .i64 m.mem.next,.slice ka m.stks.length kc,.slice ra m.run.length rc,.int .i64 m.tag,.int .i64 m.call]:=(by
  have h:=Box.new wS 28 #[.slice aa m.mem.al.length ac,.int .i64 m.mem.next,.slice ka m.stks.length kc,.slice ra m.run.length rc,.int .i64 m.tag,.int .i64 m.call]
  replace h:=Box.ext h ((Ext.refl _).alloc (.cells #[.int .i64 pa,.int .i64 po,.int .i64 pt] 30))
  exact h)
 have bP : Box (World.alloc (World.alloc wS (.cells #[.slice aa m.mem.al.length ac,.int .i64 m.mem.next,.slice ka m.stks.length kc,.slice ra m.run.length rc,.int .i64 m.tag,.int .i64 m.call] 28)) (.cells #[.int .i64 pa,.int .i64 po,.int .i64 pt] 30)) (wS.heap.size+1) 30 #[.int .i64 pa,.int .i64 po,.int .i64 pt]:=(by
  have h:=Box.new (World.alloc wS (.cells #[.slice aa m.mem.al.length ac,.int .i64 m.mem.next,.slice ka m.stks.length kc,.slice ra m.run.length rc,.int .i64 m.tag,.int .i64 m.call] 28)) 30 #[.int .i64 pa,.int .i64 po,.int .i64 pt]
  simp only [World.size_alloc] at h
  exact h)
 obtain ⟨w0,hw0⟩ : ∃ z,(World.alloc (World.alloc wS (.cells #[.slice aa m.mem.al.length ac,.int .i64 m.mem.next,.slice ka m.stks.length kc,.slice ra m.run.length rc,.int .i64 m.tag,.int .i64 m.call] 28)) (.cells #[.int .i64 pa,.int .i64 po,.int .i64 pt] 30))=z:=⟨_,rfl⟩
 rw [hw0] at hE0 bM bP
 replace hA:=Lib.hid hA;replace hK:=Lib.hid hK;replace hR:=Lib.hid hR;replace hn:=Lib.hid hn
 obtain ⟨lla,llc,rfl,hlc,hlm,-⟩:=hl.form
 unfold maxLen at hlm
 replace hp:=Lib.hid hp;replace hkb:=Lib.hid hkb;replace hl:=Lib.hid hl
 go_enter Tryz.func4,Tryz.ntmps4
 go_wp2_with fail
 try rw [hw0]
 clear hw0
 refine (law35_alive (hp.out.ext hE0)).mono ?_
 rintro e w1 ⟨rfl,hE1⟩
 replace bM:=bM.ext hE1
 replace bP:=bP.ext hE1
 have hF1:=Ext.trans hE0 hE1
 obtain ⟨bM_0,bM_1,bM_2,bM_3,bM_4,bM_5,bM_l⟩:=bM.c6
 go_wp2_with fail
 clear bM_0 bM_1 bM_2 bM_3 bM_4 bM_5 bM_l
 refine (ref35_Great (hA.out.ext hF1) (hK.out.ext hF1) (hR.out.ext hF1)).mono ?_
 rintro e w2 ⟨bg,rfl,hng,hE2⟩
 replace bM:=bM.ext hE2
 replace bP:=bP.ext hE2
 have hF2:=Ext.trans hF1 hE2
 clear hng
 cases bg
 rotate_left
 ·skip
  obtain ⟨bM_0,bM_1,bM_2,bM_3,bM_4,bM_5,bM_l⟩:=bM.c6
  go_wp2
  go_ret
  exact ⟨rfl,hF2⟩
 obtain ⟨bM_0,bM_1,bM_2,bM_3,bM_4,bM_5,bM_l⟩:=bM.c6
 go_wp2_with fail
 clear bM_0 bM_1 bM_2 bM_3 bM_4 bM_5 bM_l
 refine (ref35_Check (hA.out.ext hF2) hn.out (hK.out.ext hF2) (hR.out.ext hF2)).mono ?_
 rintro e w3 ⟨rfl,hE3⟩
 replace bM:=bM.ext hE3
 replace bP:=bP.ext hE3
 have hF3:=Ext.trans hF2 hE3
 cases hok : okMon m
 ·skip
  rw [monErr_not hok]
  clear hok
  obtain ⟨bM_0,bM_1,bM_2,bM_3,bM_4,bM_5,bM_l⟩:=bM.c6
  go_wp2
  go_ret
  exact ⟨rfl,hF3⟩
 rw [monErr_of hok]
 by_cases h5 : 5 < l.length
 ·skip
  have q5 : decide (5 < l.length)=true:=decide_eq_true h5;have q6 : decide ((5 : Int) < (l.length : Int))=true:=decide_eq_true (by omega)
  clear h5 hok
  obtain ⟨bM_0,bM_1,bM_2,bM_3,bM_4,bM_5,bM_l⟩:=bM.c6
  go_wp2
  go_ret
  exact ⟨rfl,hF3⟩
 have q5 : decide (5 < l.length)=false:=decide_eq_false h5;have q6 : decide ((5 : Int) < (l.length : Int))=false:=decide_eq_false (by omega)
 clear h5
 obtain ⟨⟨ma,la,va,ea⟩,hlo⟩ : ∃ z,loadM m ⟨pa,po,pt⟩ (l.length : Int)=z:=⟨_,rfl⟩
 obtain ⟨⟨ly,wy,fy⟩,hly⟩ : ∃ z,loadR m.mem ⟨pa,po,pt⟩ (l.length : Int)=z:=⟨_,rfl⟩
 obtain ⟨⟨mb,vb,eb⟩,hst⟩ : ∃ z,storeM m ⟨pa,po,pt⟩ l=z:=⟨_,rfl⟩
 obtain ⟨⟨mc,jc,hc⟩,hsr⟩ : ∃ z,storeR m.mem ⟨pa,po,pt⟩ l=z:=⟨_,rfl⟩
 obtain ⟨⟨md,pd,kd,nd⟩,hre⟩ : ∃ z,retagM m ⟨pa,po,pt⟩ (l.length : Int) kind 0=z:=⟨_,rfl⟩
 obtain ⟨pd1,pd2,pd3⟩:=pd
 obtain ⟨⟨mq,cq,oq⟩,hen⟩ : ∃ z,enterM m=z:=⟨_,rfl⟩
 obtain ⟨⟨mr,sr9⟩,hle⟩ : ∃ z,leaveM m=z:=⟨_,rfl⟩
 obtain ⟨⟨mt,ut,zt⟩,hed⟩ : ∃ z,endM m pa=z:=⟨_,rfl⟩
 obtain ⟨⟨mo,ao⟩,hor⟩ : ∃ z,endR m.mem pa=z:=⟨_,rfl⟩
 have v1:=Lib.hid (values_load hok hlo hly)
 have v2:=Lib.hid (values_store hok hst hsr)
 have v3:=Lib.hid (values_retag hok hre)
 have v4:=Lib.hid (values_enter hok hen)
 have v5:=Lib.hid (values_leave hok hle)
 have v6:=Lib.hid (values_end hok hed hor)
 clear hok
 replace hlo:=Lib.hid hlo;replace hly:=Lib.hid hly;replace hst:=Lib.hid hst;replace hsr:=Lib.hid hsr;replace hre:=Lib.hid hre;replace hen:=Lib.hid hen;replace hle:=Lib.hid hle;replace hed:=Lib.hid hed;replace hor:=Lib.hid hor
 obtain ⟨bM_0,bM_1,bM_2,bM_3,bM_4,bM_5,bM_l⟩:=bM.c6
 obtain ⟨bP_0,bP_1,bP_2,bP_l⟩:=bP.c3
 go_wp2_with fail
 clear bM_0 bM_1 bM_2 bM_3 bM_4 bM_5 bM_l bP_0 bP_1 bP_2 bP_l
 refine (monitor_Load pa po pt (l.length : Int) (hA.out.ext hF3) hn.out (hK.out.ext hF3) (hR.out.ext hF3)).mono ?_
 rintro e w4 ⟨vt,vl,rfl,fM,fL,hE4⟩
 replace bM:=bM.ext hE4
 replace bP:=bP.ext hE4
 have hF4:=Ext.trans hF3 hE4
 rw [hlo.out] at fM fL ⊢
 try dsimp only [Ptr.val] at fM fL ⊢
 obtain ⟨asa,ass,asr,rfl,qa⟩:=FrMon.parts fM
 clear fM
 obtain ⟨v_aa,v_aac,rfl,-⟩:=(qa.read).1.form
 obtain ⟨v_ak,v_akc,rfl,-⟩:=(qa.read).2.1.form
 obtain ⟨v_ar,v_arc,rfl,-⟩:=(qa.read).2.2.form
 try dsimp only at qa ⊢
 obtain ⟨lax,lac,rfl,-⟩:=fL.read.form
 have Ga:=Lib.hid (Fq.mono (S':=(fun b=>True)) qa (fun b h1 _=>by exact trivial))
 clear qa
 have Gla:=Lib.hid (Fq.mono (S':=(fun b=>True)) fL (fun b h1 _=>trivial));clear fL
 obtain ⟨bM_0,bM_1,bM_2,bM_3,bM_4,bM_5,bM_l⟩:=bM.c6
 obtain ⟨bP_0,bP_1,bP_2,bP_l⟩:=bP.c3
 go_wp2_with fail
 clear bM_0 bM_1 bM_2 bM_3 bM_4 bM_5 bM_l bP_0 bP_1 bP_2 bP_l
 have bA:=Box.new w4 28 #[.slice v_aa ma.mem.al.length v_aac,.int .i64 ma.mem.next,.slice v_ak ma.stks.length v_akc,.slice v_ar ma.run.length v_arc,.int .i64 ma.tag,.int .i64 ma.call]
 have hza : (World.alloc w4 (.cells #[.slice v_aa ma.mem.al.length v_aac,.int .i64 ma.mem.next,.slice v_ak ma.stks.length v_akc,.slice v_ar ma.run.length v_arc,.int .i64 ma.tag,.int .i64 ma.call] 28)).heap.size=w4.heap.size+1:=by rw [World.size_alloc]
 have hx5 : Ext w4 (World.alloc w4 (.cells #[.slice v_aa ma.mem.al.length v_aac,.int .i64 ma.mem.next,.slice v_ak ma.stks.length v_akc,.slice v_ar ma.run.length v_arc,.int .i64 ma.tag,.int .i64 ma.call] 28)):=(Ext.refl _).alloc _
 obtain ⟨w5b,hw5⟩ : ∃ z,World.alloc w4 (.cells #[.slice v_aa ma.mem.al.length v_aac,.int .i64 ma.mem.next,.slice v_ak ma.stks.length v_akc,.slice v_ar ma.run.length v_arc,.int .i64 ma.tag,.int .i64 ma.call] 28)=z:=⟨_,rfl⟩
 rw [hw5] at bA hx5 hza ⊢
 clear hw5
 have hzb0:=hza
 clear hza
 replace bM:=bM.ext hx5
 replace bP:=bP.ext hx5
 replace Ga:=Lib.hid (Fq.ext Ga.out hx5)
 replace Gla:=Lib.hid (Fq.ext Gla.out hx5)
 have hF6:=Ext.trans hF4 hx5
 clear hzb0
 refine (cells_LoadAll (m:=m.mem) ⟨pa,po,pt⟩ (l.length : Int) (hA.out.ext hF6) hn.out).mono ?_
 rintro e w7 ⟨vl,rfl,hOl,hE7⟩
 replace bM:=bM.ext hE7
 replace bP:=bP.ext hE7
 replace bA:=bA.ext hE7
 replace Ga:=Lib.hid (Fq.ext Ga.out hE7)
 replace Gla:=Lib.hid (Fq.ext Gla.out hE7)
 have hF7:=Ext.trans hF6 hE7
 rw [hly.out] at hOl ⊢
 dsimp only at hOl ⊢
 obtain ⟨lyx,lyc,rfl,-⟩:=hOl.sl.slice_form
 have qly:=(Own.fs hOl).mono (S':=(fun b=>True)) (fun b _ _=>trivial)
 clear hOl
 have Gly:=Lib.hid (qly : Fq (fun b=>True) w7 (fun w=>Cls w (.slice lyx ly.length lyc) ly));clear qly
 go_upto_region 6 with fail
 go_cut [112] from 75 to 112 (fun s9 wx=>s9 = .bool false∧Ext w7 wx)
 case first =>
  have hE9x:=Ext.refl w7
  have v1o:=v1.out
  obtain ⟨rfl,v1o⟩:=v1o
  have q0 : (ea != ea)=false:=bne_self_eq_false ea
  rcases v1o with ⟨h1,rfl,rfl,hll⟩ | ⟨rfl,rfl,rfl⟩ | ⟨rfl,h1,h2⟩ | ⟨rfl,rfl,rfl,hll,hmm⟩
  ·skip
   have q1 : (ea == 0)=false:=beq_eq_false_iff_ne.2 h1;clear h1
   replace hll:=Lib.hid hll
   go_wp2_with fail
   refine (same_cells hll.out Gla.out.read Gly.out.read).mono ?_
   rintro e w8 ⟨rfl,hE8⟩
   replace bM:=bM.ext hE8
   replace bP:=bP.ext hE8
   replace bA:=bA.ext hE8
   replace Ga:=Lib.hid (Fq.ext Ga.out hE8)
   replace Gla:=Lib.hid (Fq.ext Gla.out hE8)
   replace Gly:=Lib.hid (Fq.ext Gly.out hE8)
   have hF8:=Ext.trans hE9x hE8
   clear hll
   go_wp2_with fail
   go_meet
   exact ⟨rfl,hF8⟩
  ·skip
   go_wp2_with fail
   go_meet
   exact ⟨rfl,hE9x⟩
  ·skip
   have q1 : (va == 0)=false:=beq_eq_false_iff_ne.2 h1;have q2 : (wy == 3)=false:=beq_eq_false_iff_ne.2 h2;clear h1 h2
   go_wp2_with fail
   go_meet
   exact ⟨rfl,hE9x⟩
  ·skip
   replace hmm:=Lib.hid hmm
   replace hll:=Lib.hid hll
   go_wp2_with fail
   refine (same_cells hll.out Gla.out.read Gly.out.read).mono ?_
   rintro e w8 ⟨rfl,hE8⟩
   replace bM:=bM.ext hE8
   replace bP:=bP.ext hE8
   replace bA:=bA.ext hE8
   replace Ga:=Lib.hid (Fq.ext Ga.out hE8)
   replace Gla:=Lib.hid (Fq.ext Gla.out hE8)
   replace Gly:=Lib.hid (Fq.ext Gly.out hE8)
   have hF8:=Ext.trans hE9x hE8
   clear hll
   obtain ⟨bM_0,bM_1,bM_2,bM_3,bM_4,bM_5,bM_l⟩:=bM.c6
   obtain ⟨bA_0,bA_1,bA_2,bA_3,bA_4,bA_5,bA_l⟩:=bA.c6
   go_wp2_with fail
   clear bM_0 bM_1 bM_2 bM_3 bM_4 bM_5 bM_l bA_0 bA_1 bA_2 bA_3 bA_4 bA_5 bA_l
   refine (same_mem hmm.out Ga.out.read.1 (hA.out.ext (hF7.trans hF8))).mono ?_
   rintro e w9 ⟨rfl,hE9⟩
   replace bM:=bM.ext hE9
   replace bP:=bP.ext hE9
   replace bA:=bA.ext hE9
   replace Ga:=Lib.hid (Fq.ext Ga.out hE9)
   replace Gla:=Lib.hid (Fq.ext Gla.out hE9)
   replace Gly:=Lib.hid (Fq.ext Gly.out hE9)
   have hF9:=Ext.trans hF8 hE9
   go_wp2_with fail
   go_meet
   exact ⟨rfl,hF9⟩
 case rest =>
  obtain ⟨rfl,hcut⟩:=hcut
  obtain ⟨wz1,hwz⟩ : ∃ z,wc=z:=⟨_,rfl⟩
  rw [hwz] at hcut ⊢
  clear hwz
  replace bM:=bM.ext hcut
  replace bP:=bP.ext hcut
  replace bA:=bA.ext hcut
  replace Ga:=Lib.hid (Fq.ext Ga.out hcut)
  replace Gla:=Lib.hid (Fq.ext Gla.out hcut)
  replace Gly:=Lib.hid (Fq.ext Gly.out hcut)
  have hF8:=Ext.trans hF7 hcut
  clear Ga
  clear Gla
  clear Gly
  clear bA
  clear v1
  obtain ⟨bM_0,bM_1,bM_2,bM_3,bM_4,bM_5,bM_l⟩:=bM.c6
  obtain ⟨bP_0,bP_1,bP_2,bP_l⟩:=bP.c3
  go_wp2_with fail
  clear bM_0 bM_1 bM_2 bM_3 bM_4 bM_5 bM_l bP_0 bP_1 bP_2 bP_l
  refine (monitor_Store pa po pt (hA.out.ext hF8) hn.out (hK.out.ext hF8) (hR.out.ext hF8) (hl.out.ext hF8)).mono ?_
  rintro e w9 ⟨vt,rfl,fM,hE9⟩
  replace bM:=bM.ext hE9
  replace bP:=bP.ext hE9
  have hF9:=Ext.trans hF8 hE9
  rw [hst.out] at fM ⊢
  try dsimp only [Ptr.val] at fM ⊢
  obtain ⟨bsa,bss,bsr,rfl,qb⟩:=FrMon.parts fM
  clear fM
  obtain ⟨v_ba,v_bac,rfl,-⟩:=(qb.read).1.form
  obtain ⟨v_bk,v_bkc,rfl,-⟩:=(qb.read).2.1.form
  obtain ⟨v_br,v_brc,rfl,-⟩:=(qb.read).2.2.form
  try dsimp only at qb ⊢
  have Gb:=Lib.hid (Fq.mono (S':=(fun b=>True)) qb (fun b h1 _=>by exact trivial))
  clear qb
  obtain ⟨bM_0,bM_1,bM_2,bM_3,bM_4,bM_5,bM_l⟩:=bM.c6
  obtain ⟨bP_0,bP_1,bP_2,bP_l⟩:=bP.c3
  go_wp2_with fail
  clear bM_0 bM_1 bM_2 bM_3 bM_4 bM_5 bM_l bP_0 bP_1 bP_2 bP_l
  have bB:=Box.new w9 28 #[.slice v_ba mb.mem.al.length v_bac,.int .i64 mb.mem.next,.slice v_bk mb.stks.length v_bkc,.slice v_br mb.run.length v_brc,.int .i64 mb.tag,.int .i64 mb.call]
  have hza : (World.alloc w9 (.cells #[.slice v_ba mb.mem.al.length v_bac,.int .i64 mb.mem.next,.slice v_bk mb.stks.length v_bkc,.slice v_br mb.run.length v_brc,.int .i64 mb.tag,.int .i64 mb.call] 28)).heap.size=w9.heap.size+1:=by rw [World.size_alloc]
  have hx10 : Ext w9 (World.alloc w9 (.cells #[.slice v_ba mb.mem.al.length v_bac,.int .i64 mb.mem.next,.slice v_bk mb.stks.length v_bkc,.slice v_br mb.run.length v_brc,.int .i64 mb.tag,.int .i64 mb.call] 28)):=(Ext.refl _).alloc _
  obtain ⟨w10b,hw10⟩ : ∃ z,World.alloc w9 (.cells #[.slice v_ba mb.mem.al.length v_bac,.int .i64 mb.mem.next,.slice v_bk mb.stks.length v_bkc,.slice v_br mb.run.length v_brc,.int .i64 mb.tag,.int .i64 mb.call] 28)=z:=⟨_,rfl⟩
  rw [hw10] at bB hx10 hza ⊢
  clear hw10
  have hzb0:=hza
  clear hza
  replace bM:=bM.ext hx10
  replace bP:=bP.ext hx10
  replace Gb:=Lib.hid (Fq.ext Gb.out hx10)
  have hF11:=Ext.trans hF9 hx10
  clear hzb0
  refine (cells_StoreAll (m:=m.mem) (l:=l) ⟨pa,po,pt⟩ (hA.out.ext hF11) hn.out (hl.out.ext hF11)).mono ?_
  rintro e w12 ⟨v,rfl,fM,hE12⟩
  replace bM:=bM.ext hE12
  replace bP:=bP.ext hE12
  replace bB:=bB.ext hE12
  replace Gb:=Lib.hid (Fq.ext Gb.out hE12)
  have hF12:=Ext.trans hF11 hE12
  rw [hsr.out] at fM ⊢
  obtain ⟨sy,rfl,hy⟩:=FrM.fs fM
  clear fM
  have hv:=hy.read.form
  obtain ⟨ya,yc,rfl,-⟩:=hv
  dsimp only at hy ⊢
  have Gc:=Lib.hid (Fq.mono hy (S':=(fun b=>True)) (fun b _ _=>trivial));clear hy
  go_upto_region 10 with fail
  have bY:=Box.new w12 24 #[.slice ya mc.al.length yc,.int .i64 mc.next]
  have hza : (World.alloc w12 (.cells #[.slice ya mc.al.length yc,.int .i64 mc.next] 24)).heap.size=w12.heap.size+1:=by rw [World.size_alloc]
  have hx13 : Ext w12 (World.alloc w12 (.cells #[.slice ya mc.al.length yc,.int .i64 mc.next] 24)):=(Ext.refl _).alloc _
  obtain ⟨w13b,hw13⟩ : ∃ z,World.alloc w12 (.cells #[.slice ya mc.al.length yc,.int .i64 mc.next] 24)=z:=⟨_,rfl⟩
  rw [hw13] at bY hx13 hza ⊢
  clear hw13
  have hzb0:=hza
  clear hza
  replace bM:=bM.ext hx13
  replace bP:=bP.ext hx13
  replace bB:=bB.ext hx13
  replace Gb:=Lib.hid (Fq.ext Gb.out hx13)
  replace Gc:=Lib.hid (Fq.ext Gc.out hx13)
  have hF14:=Ext.trans hF12 hx13
  clear hzb0
  go_upto_region 10 with fail
  go_cut [156] from 130 to 156 (fun s9 wx=>s9 = .bool false∧Ext w13b wx)
  case first =>
   have hE9x:=Ext.refl w13b
   have v2o:=v2.out
   obtain ⟨rfl,v2o⟩:=v2o
   have q0 : (eb != eb)=false:=bne_self_eq_false eb
   rcases v2o with ⟨rfl,rfl,hmm⟩ | ⟨h1,rfl,rfl⟩ | ⟨h1,h2⟩
   ·skip
    replace hmm:=Lib.hid hmm
    obtain ⟨bB_0,bB_1,bB_2,bB_3,bB_4,bB_5,bB_l⟩:=bB.c6
    obtain ⟨bY_0,bY_1,bY_l⟩:=bY.c2
    go_wp2_with fail
    clear bB_0 bB_1 bB_2 bB_3 bB_4 bB_5 bB_l bY_0 bY_1 bY_l
    refine (same_mem hmm.out Gb.out.read.1 Gc.out.read).mono ?_
    rintro e w15 ⟨rfl,hE15⟩
    replace bM:=bM.ext hE15
    replace bP:=bP.ext hE15
    replace bB:=bB.ext hE15
    replace bY:=bY.ext hE15
    replace Gb:=Lib.hid (Fq.ext Gb.out hE15)
    replace Gc:=Lib.hid (Fq.ext Gc.out hE15)
    have hF15:=Ext.trans hE9x hE15
    go_wp2_with fail
    go_meet
    exact ⟨rfl,hF15⟩
   ·skip
    go_wp2_with fail
    go_meet
    exact ⟨rfl,hE9x⟩
   ·skip
    have q1 : (vb == 0)=false:=beq_eq_false_iff_ne.2 h1;have q2 : (jc == 3)=false:=beq_eq_false_iff_ne.2 h2;clear h1 h2
    go_wp2_with fail
    go_meet
    exact ⟨rfl,hE9x⟩
  case rest =>
   obtain ⟨rfl,hcut⟩:=hcut
   obtain ⟨wz2,hwz⟩ : ∃ z,wc=z:=⟨_,rfl⟩
   rw [hwz] at hcut ⊢
   clear hwz
   replace bM:=bM.ext hcut
   replace bP:=bP.ext hcut
   replace bB:=bB.ext hcut
   replace bY:=bY.ext hcut
   replace Gb:=Lib.hid (Fq.ext Gb.out hcut)
   replace Gc:=Lib.hid (Fq.ext Gc.out hcut)
   have hF15:=Ext.trans hF14 hcut
   clear Gb
   clear Gc
   clear bB
   clear bY
   clear v2
   obtain ⟨bM_0,bM_1,bM_2,bM_3,bM_4,bM_5,bM_l⟩:=bM.c6
   obtain ⟨bP_0,bP_1,bP_2,bP_l⟩:=bP.c3
   go_wp2_with fail
   clear bM_0 bM_1 bM_2 bM_3 bM_4 bM_5 bM_l bP_0 bP_1 bP_2 bP_l
   refine (monitor_Retag pa po pt (l.length : Int) 0 (hp.out.ext hF15) hkb.out (hA.out.ext hF15) hn.out (hK.out.ext hF15) (hR.out.ext hF15)).mono ?_
   rintro e w16 ⟨vt,rfl,fM,hE16⟩
   replace bM:=bM.ext hE16
   replace bP:=bP.ext hE16
   have hF16:=Ext.trans hF15 hE16
   rw [hre.out] at fM ⊢
   try dsimp only [Ptr.val] at fM ⊢
   obtain ⟨dsa,dss,dsr,rfl,qd⟩:=FrMon.parts fM
   clear fM
   obtain ⟨v_da,v_dac,rfl,-⟩:=(qd.read).1.form
   obtain ⟨v_dk,v_dkc,rfl,-⟩:=(qd.read).2.1.form
   obtain ⟨v_dr,v_drc,rfl,-⟩:=(qd.read).2.2.form
   try dsimp only at qd ⊢
   have Gd:=Lib.hid (Fq.mono (S':=(fun b=>True)) qd (fun b h1 _=>by exact trivial))
   clear qd
   go_upto_region 13 with fail
   have bD:=Box.new w16 28 #[.slice v_da md.mem.al.length v_dac,.int .i64 md.mem.next,.slice v_dk md.stks.length v_dkc,.slice v_dr md.run.length v_drc,.int .i64 md.tag,.int .i64 md.call]
   have hza : (World.alloc w16 (.cells #[.slice v_da md.mem.al.length v_dac,.int .i64 md.mem.next,.slice v_dk md.stks.length v_dkc,.slice v_dr md.run.length v_drc,.int .i64 md.tag,.int .i64 md.call] 28)).heap.size=w16.heap.size+1:=by rw [World.size_alloc]
   have hx17 : Ext w16 (World.alloc w16 (.cells #[.slice v_da md.mem.al.length v_dac,.int .i64 md.mem.next,.slice v_dk md.stks.length v_dkc,.slice v_dr md.run.length v_drc,.int .i64 md.tag,.int .i64 md.call] 28)):=(Ext.refl _).alloc _
   obtain ⟨w17b,hw17⟩ : ∃ z,World.alloc w16 (.cells #[.slice v_da md.mem.al.length v_dac,.int .i64 md.mem.next,.slice v_dk md.stks.length v_dkc,.slice v_dr md.run.length v_drc,.int .i64 md.tag,.int .i64 md.call] 28)=z:=⟨_,rfl⟩
   rw [hw17] at bD hx17 hza ⊢
   clear hw17
   have hzb0:=hza
   clear hza
   replace bM:=bM.ext hx17
   replace bP:=bP.ext hx17
   replace Gd:=Lib.hid (Fq.ext Gd.out hx17)
   have hF18:=Ext.trans hF16 hx17
   have bDp:=Box.new w17b 30 #[.int .i64 pd1,.int .i64 pd2,.int .i64 pd3]
   rw [hzb0] at bDp
   have hza : (World.alloc w17b (.cells #[.int .i64 pd1,.int .i64 pd2,.int .i64 pd3] 30)).heap.size=w16.heap.size+2:=by rw [World.size_alloc,hzb0]
   have hx19 : Ext w17b (World.alloc w17b (.cells #[.int .i64 pd1,.int .i64 pd2,.int .i64 pd3] 30)):=(Ext.refl _).alloc _
   obtain ⟨w19b,hw19⟩ : ∃ z,World.alloc w17b (.cells #[.int .i64 pd1,.int .i64 pd2,.int .i64 pd3] 30)=z:=⟨_,rfl⟩
   rw [hw19] at bDp hx19 hza ⊢
   clear hw19
   clear hzb0
   have hzb1:=hza
   clear hza
   replace bM:=bM.ext hx19
   replace bP:=bP.ext hx19
   replace bD:=bD.ext hx19
   replace Gd:=Lib.hid (Fq.ext Gd.out hx19)
   have hF20:=Ext.trans hF18 hx19
   clear hzb1
   go_upto_region 13 with fail
   go_cut [181] from 168 to 181 (fun s9 wx=>s9 = .bool false∧Ext w19b wx)
   case first =>
    have hE9x:=Ext.refl w19b
    have v3o:=v3.out
    rcases v3o with h1 | ⟨rfl,h1⟩ | ⟨rfl,rfl,hmm⟩
    ·skip
     have q1 : (nd == 0)=false:=beq_eq_false_iff_ne.2 h1;clear h1
     go_wp2_with fail
     go_meet
     exact ⟨rfl,hE9x⟩
    ·skip
     have q1 : (kd == 0)=false:=beq_eq_false_iff_ne.2 h1;clear h1
     go_wp2_with fail
     go_meet
     exact ⟨rfl,hE9x⟩
    ·skip
     replace hmm:=Lib.hid hmm
     obtain ⟨bM_0,bM_1,bM_2,bM_3,bM_4,bM_5,bM_l⟩:=bM.c6
     obtain ⟨bD_0,bD_1,bD_2,bD_3,bD_4,bD_5,bD_l⟩:=bD.c6
     go_wp2_with fail
     clear bM_0 bM_1 bM_2 bM_3 bM_4 bM_5 bM_l bD_0 bD_1 bD_2 bD_3 bD_4 bD_5 bD_l
     refine (same_mem hmm.out Gd.out.read.1 (hA.out.ext (hF20.trans hE9x))).mono ?_
     rintro e w21 ⟨rfl,hE21⟩
     replace bM:=bM.ext hE21
     replace bP:=bP.ext hE21
     replace bD:=bD.ext hE21
     replace bDp:=bDp.ext hE21
     replace Gd:=Lib.hid (Fq.ext Gd.out hE21)
     have hF21:=Ext.trans hE9x hE21
     go_wp2_with fail
     go_meet
     exact ⟨rfl,hF21⟩
   case rest =>
    obtain ⟨rfl,hcut⟩:=hcut
    obtain ⟨wz3,hwz⟩ : ∃ z,wc=z:=⟨_,rfl⟩
    rw [hwz] at hcut ⊢
    clear hwz
    replace bM:=bM.ext hcut
    replace bP:=bP.ext hcut
    replace bD:=bD.ext hcut
    replace bDp:=bDp.ext hcut
    replace Gd:=Lib.hid (Fq.ext Gd.out hcut)
    have hF21:=Ext.trans hF20 hcut
    clear Gd
    clear bD
    clear bDp
    clear v3
    obtain ⟨bM_0,bM_1,bM_2,bM_3,bM_4,bM_5,bM_l⟩:=bM.c6
    go_wp2_with fail
    clear bM_0 bM_1 bM_2 bM_3 bM_4 bM_5 bM_l
    refine (monitor_Enter (hA.out.ext hF21) hn.out (hK.out.ext hF21) (hR.out.ext hF21)).mono ?_
    rintro e w22 ⟨vt,rfl,fM,hE22⟩
    replace bM:=bM.ext hE22
    replace bP:=bP.ext hE22
    have hF22:=Ext.trans hF21 hE22
    rw [hen.out] at fM ⊢
    try dsimp only [Ptr.val] at fM ⊢
    obtain ⟨qsa,qss,qsr,rfl,qq⟩:=FrMon.parts fM
    clear fM
    obtain ⟨v_qa,v_qac,rfl,-⟩:=(qq.read).1.form
    obtain ⟨v_qk,v_qkc,rfl,-⟩:=(qq.read).2.1.form
    obtain ⟨v_qr,v_qrc,rfl,-⟩:=(qq.read).2.2.form
    try dsimp only at qq ⊢
    have Gq:=Lib.hid (Fq.mono (S':=(fun b=>True)) qq (fun b h1 _=>by exact trivial))
    clear qq
    obtain ⟨bM_0,bM_1,bM_2,bM_3,bM_4,bM_5,bM_l⟩:=bM.c6
    go_wp2_with fail
    clear bM_0 bM_1 bM_2 bM_3 bM_4 bM_5 bM_l
    have bQ:=Box.new w22 28 #[.slice v_qa mq.mem.al.length v_qac,.int .i64 mq.mem.next,.slice v_qk mq.stks.length v_qkc,.slice v_qr mq.run.length v_qrc,.int .i64 mq.tag,.int .i64 mq.call]
    have hza : (World.alloc w22 (.cells #[.slice v_qa mq.mem.al.length v_qac,.int .i64 mq.mem.next,.slice v_qk mq.stks.length v_qkc,.slice v_qr mq.run.length v_qrc,.int .i64 mq.tag,.int .i64 mq.call] 28)).heap.size=w22.heap.size+1:=by rw [World.size_alloc]
    have hx23 : Ext w22 (World.alloc w22 (.cells #[.slice v_qa mq.mem.al.length v_qac,.int .i64 mq.mem.next,.slice v_qk mq.stks.length v_qkc,.slice v_qr mq.run.length v_qrc,.int .i64 mq.tag,.int .i64 mq.call] 28)):=(Ext.refl _).alloc _
    obtain ⟨w23b,hw23⟩ : ∃ z,World.alloc w22 (.cells #[.slice v_qa mq.mem.al.length v_qac,.int .i64 mq.mem.next,.slice v_qk mq.stks.length v_qkc,.slice v_qr mq.run.length v_qrc,.int .i64 mq.tag,.int .i64 mq.call] 28)=z:=⟨_,rfl⟩
    rw [hw23] at bQ hx23 hza ⊢
    clear hw23
    have hzb0:=hza
    clear hza
    replace bM:=bM.ext hx23
    replace bP:=bP.ext hx23
    replace Gq:=Lib.hid (Fq.ext Gq.out hx23)
    have hF24:=Ext.trans hF22 hx23
    clear hzb0
    refine (monitor_Leave (hA.out.ext hF24) hn.out (hK.out.ext hF24) (hR.out.ext hF24)).mono ?_
    rintro e w25 ⟨vt,rfl,fM,hE25⟩
    replace bM:=bM.ext hE25
    replace bP:=bP.ext hE25
    replace bQ:=bQ.ext hE25
    replace Gq:=Lib.hid (Fq.ext Gq.out hE25)
    have hF25:=Ext.trans hF24 hE25
    rw [hle.out] at fM ⊢
    try dsimp only [Ptr.val] at fM ⊢
    obtain ⟨rsa,rss,rsr,rfl,qr⟩:=FrMon.parts fM
    clear fM
    obtain ⟨v_ra,v_rac,rfl,-⟩:=(qr.read).1.form
    obtain ⟨v_rk,v_rkc,rfl,-⟩:=(qr.read).2.1.form
    obtain ⟨v_rr,v_rrc,rfl,-⟩:=(qr.read).2.2.form
    try dsimp only at qr ⊢
    have Gr:=Lib.hid (Fq.mono (S':=(fun b=>True)) qr (fun b h1 _=>by exact trivial))
    clear qr
    go_upto_region 17 with fail
    have bR:=Box.new w25 28 #[.slice v_ra mr.mem.al.length v_rac,.int .i64 mr.mem.next,.slice v_rk mr.stks.length v_rkc,.slice v_rr mr.run.length v_rrc,.int .i64 mr.tag,.int .i64 mr.call]
    have hza : (World.alloc w25 (.cells #[.slice v_ra mr.mem.al.length v_rac,.int .i64 mr.mem.next,.slice v_rk mr.stks.length v_rkc,.slice v_rr mr.run.length v_rrc,.int .i64 mr.tag,.int .i64 mr.call] 28)).heap.size=w25.heap.size+1:=by rw [World.size_alloc]
    have hx26 : Ext w25 (World.alloc w25 (.cells #[.slice v_ra mr.mem.al.length v_rac,.int .i64 mr.mem.next,.slice v_rk mr.stks.length v_rkc,.slice v_rr mr.run.length v_rrc,.int .i64 mr.tag,.int .i64 mr.call] 28)):=(Ext.refl _).alloc _
    obtain ⟨w26b,hw26⟩ : ∃ z,World.alloc w25 (.cells #[.slice v_ra mr.mem.al.length v_rac,.int .i64 mr.mem.next,.slice v_rk mr.stks.length v_rkc,.slice v_rr mr.run.length v_rrc,.int .i64 mr.tag,.int .i64 mr.call] 28)=z:=⟨_,rfl⟩
    rw [hw26] at bR hx26 hza ⊢
    clear hw26
    have hzb0:=hza
    clear hza
    replace bM:=bM.ext hx26
    replace bP:=bP.ext hx26
    replace bQ:=bQ.ext hx26
    replace Gq:=Lib.hid (Fq.ext Gq.out hx26)
    replace Gr:=Lib.hid (Fq.ext Gr.out hx26)
    have hF27:=Ext.trans hF25 hx26
    clear hzb0
    go_upto_region 17 with fail
    go_cut [214] from 193 to 214 (fun s9 wx=>s9 = .bool false∧Ext w26b wx)
    case first =>
     have hE9x:=Ext.refl w26b
     have v4o:=v4.out;have v5o:=v5.out
     rcases v4o with h1 | ⟨rfl,hm4⟩
     ·skip
      have q1 : (oq == 0)=false:=beq_eq_false_iff_ne.2 h1;clear h1
      rcases v5o with h2 | ⟨rfl,hm5⟩
      ·skip
       have q2 : (sr9 == 0)=false:=beq_eq_false_iff_ne.2 h2;clear h2
       go_wp2_with fail
       go_meet
       exact ⟨rfl,hE9x⟩
      ·skip
       replace hm5:=Lib.hid hm5
       obtain ⟨bM_0,bM_1,bM_2,bM_3,bM_4,bM_5,bM_l⟩:=bM.c6
       obtain ⟨bQ_0,bQ_1,bQ_2,bQ_3,bQ_4,bQ_5,bQ_l⟩:=bQ.c6
       obtain ⟨bR_0,bR_1,bR_2,bR_3,bR_4,bR_5,bR_l⟩:=bR.c6
       go_wp2_with fail
       clear bM_0 bM_1 bM_2 bM_3 bM_4 bM_5 bM_l bQ_0 bQ_1 bQ_2 bQ_3 bQ_4 bQ_5 bQ_l bR_0 bR_1 bR_2 bR_3 bR_4 bR_5 bR_l
       refine (same_mem hm5.out Gr.out.read.1 (hA.out.ext (hF27.trans hE9x))).mono ?_
       rintro e w28 ⟨rfl,hE28⟩
       replace bM:=bM.ext hE28
       replace bP:=bP.ext hE28
       replace bQ:=bQ.ext hE28
       replace bR:=bR.ext hE28
       replace Gq:=Lib.hid (Fq.ext Gq.out hE28)
       replace Gr:=Lib.hid (Fq.ext Gr.out hE28)
       have hF28:=Ext.trans hE9x hE28
       go_wp2_with fail
       go_meet
       exact ⟨rfl,hF28⟩
     ·skip
      replace hm4:=Lib.hid hm4
      obtain ⟨bM_0,bM_1,bM_2,bM_3,bM_4,bM_5,bM_l⟩:=bM.c6
      obtain ⟨bQ_0,bQ_1,bQ_2,bQ_3,bQ_4,bQ_5,bQ_l⟩:=bQ.c6
      obtain ⟨bR_0,bR_1,bR_2,bR_3,bR_4,bR_5,bR_l⟩:=bR.c6
      go_wp2_with fail
      clear bM_0 bM_1 bM_2 bM_3 bM_4 bM_5 bM_l bQ_0 bQ_1 bQ_2 bQ_3 bQ_4 bQ_5 bQ_l bR_0 bR_1 bR_2 bR_3 bR_4 bR_5 bR_l
      refine (same_mem hm4.out Gq.out.read.1 (hA.out.ext (hF27.trans hE9x))).mono ?_
      rintro e w28 ⟨rfl,hE28⟩
      replace bM:=bM.ext hE28
      replace bP:=bP.ext hE28
      replace bQ:=bQ.ext hE28
      replace bR:=bR.ext hE28
      replace Gq:=Lib.hid (Fq.ext Gq.out hE28)
      replace Gr:=Lib.hid (Fq.ext Gr.out hE28)
      have hF28:=Ext.trans hE9x hE28
      rcases v5o with h2 | ⟨rfl,hm5⟩
      ·skip
       have q2 : (sr9 == 0)=false:=beq_eq_false_iff_ne.2 h2;clear h2
       go_wp2_with fail
       go_meet
       exact ⟨rfl,hF28⟩
      ·skip
       replace hm5:=Lib.hid hm5
       obtain ⟨bM_0,bM_1,bM_2,bM_3,bM_4,bM_5,bM_l⟩:=bM.c6
       obtain ⟨bQ_0,bQ_1,bQ_2,bQ_3,bQ_4,bQ_5,bQ_l⟩:=bQ.c6
       obtain ⟨bR_0,bR_1,bR_2,bR_3,bR_4,bR_5,bR_l⟩:=bR.c6
       go_wp2_with fail
       clear bM_0 bM_1 bM_2 bM_3 bM_4 bM_5 bM_l bQ_0 bQ_1 bQ_2 bQ_3 bQ_4 bQ_5 bQ_l bR_0 bR_1 bR_2 bR_3 bR_4 bR_5 bR_l
       refine (same_mem hm5.out Gr.out.read.1 (hA.out.ext (hF27.trans hF28))).mono ?_
       rintro e w29 ⟨rfl,hE29⟩
       replace bM:=bM.ext hE29
       replace bP:=bP.ext hE29
       replace bQ:=bQ.ext hE29
       replace bR:=bR.ext hE29
       replace Gq:=Lib.hid (Fq.ext Gq.out hE29)
       replace Gr:=Lib.hid (Fq.ext Gr.out hE29)
       have hF29:=Ext.trans hF28 hE29
       go_wp2_with fail
       go_meet
       exact ⟨rfl,hF29⟩
    case rest =>
     obtain ⟨rfl,hcut⟩:=hcut
     obtain ⟨wz4,hwz⟩ : ∃ z,wc=z:=⟨_,rfl⟩
     rw [hwz] at hcut ⊢
     clear hwz
     replace bM:=bM.ext hcut
     replace bP:=bP.ext hcut
     replace bQ:=bQ.ext hcut
     replace bR:=bR.ext hcut
     replace Gq:=Lib.hid (Fq.ext Gq.out hcut)
     replace Gr:=Lib.hid (Fq.ext Gr.out hcut)
     have hF28:=Ext.trans hF27 hcut
     clear Gq
     clear Gr
     clear bQ
     clear bR
     clear v4 v5
     obtain ⟨bM_0,bM_1,bM_2,bM_3,bM_4,bM_5,bM_l⟩:=bM.c6
     obtain ⟨bP_0,bP_1,bP_2,bP_l⟩:=bP.c3
     go_wp2_with fail
     clear bM_0 bM_1 bM_2 bM_3 bM_4 bM_5 bM_l bP_0 bP_1 bP_2 bP_l
     refine (monitor_End pa (hA.out.ext hF28) hn.out (hK.out.ext hF28) (hR.out.ext hF28)).mono ?_
     rintro e w29 ⟨vt,rfl,fM,hE29⟩
     replace bM:=bM.ext hE29
     replace bP:=bP.ext hE29
     have hF29:=Ext.trans hF28 hE29
     rw [hed.out] at fM ⊢
     try dsimp only [Ptr.val] at fM ⊢
     obtain ⟨tsa,tss,tsr,rfl,qt⟩:=FrMon.parts fM
     clear fM
     obtain ⟨v_ta,v_tac,rfl,-⟩:=(qt.read).1.form
     obtain ⟨v_tk,v_tkc,rfl,-⟩:=(qt.read).2.1.form
     obtain ⟨v_tr,v_trc,rfl,-⟩:=(qt.read).2.2.form
     try dsimp only at qt ⊢
     have Gt:=Lib.hid (Fq.mono (S':=(fun b=>True)) qt (fun b h1 _=>by exact trivial))
     clear qt
     obtain ⟨bM_0,bM_1,bM_2,bM_3,bM_4,bM_5,bM_l⟩:=bM.c6
     obtain ⟨bP_0,bP_1,bP_2,bP_l⟩:=bP.c3
     go_wp2_with fail
     clear bM_0 bM_1 bM_2 bM_3 bM_4 bM_5 bM_l bP_0 bP_1 bP_2 bP_l
     have bT:=Box.new w29 28 #[.slice v_ta mt.mem.al.length v_tac,.int .i64 mt.mem.next,.slice v_tk mt.stks.length v_tkc,.slice v_tr mt.run.length v_trc,.int .i64 mt.tag,.int .i64 mt.call]
     have hza : (World.alloc w29 (.cells #[.slice v_ta mt.mem.al.length v_tac,.int .i64 mt.mem.next,.slice v_tk mt.stks.length v_tkc,.slice v_tr mt.run.length v_trc,.int .i64 mt.tag,.int .i64 mt.call] 28)).heap.size=w29.heap.size+1:=by rw [World.size_alloc]
     have hx30 : Ext w29 (World.alloc w29 (.cells #[.slice v_ta mt.mem.al.length v_tac,.int .i64 mt.mem.next,.slice v_tk mt.stks.length v_tkc,.slice v_tr mt.run.length v_trc,.int .i64 mt.tag,.int .i64 mt.call] 28)):=(Ext.refl _).alloc _
     obtain ⟨w30b,hw30⟩ : ∃ z,World.alloc w29 (.cells #[.slice v_ta mt.mem.al.length v_tac,.int .i64 mt.mem.next,.slice v_tk mt.stks.length v_tkc,.slice v_tr mt.run.length v_trc,.int .i64 mt.tag,.int .i64 mt.call] 28)=z:=⟨_,rfl⟩
     rw [hw30] at bT hx30 hza ⊢
     clear hw30
     have hzb0:=hza
     clear hza
     replace bM:=bM.ext hx30
     replace bP:=bP.ext hx30
     replace Gt:=Lib.hid (Fq.ext Gt.out hx30)
     have hF31:=Ext.trans hF29 hx30
     clear hzb0
     refine (allocs_End pa (hA.out.ext hF31) hn.out).mono ?_
     rintro e w32 ⟨v,rfl,fM,hE32⟩
     replace bM:=bM.ext hE32
     replace bP:=bP.ext hE32
     replace bT:=bT.ext hE32
     replace Gt:=Lib.hid (Fq.ext Gt.out hE32)
     have hF32:=Ext.trans hF31 hE32
     rw [hor.out] at fM ⊢
     obtain ⟨sy,rfl,hy⟩:=FrM.fs fM
     clear fM
     have hv:=hy.read.form
     obtain ⟨ya,yc,rfl,-⟩:=hv
     dsimp only at hy ⊢
     have Go:=Lib.hid (Fq.mono hy (S':=(fun b=>True)) (fun b _ _=>trivial));clear hy
     go_upto_region 21 with fail
     have bO:=Box.new w32 24 #[.slice ya mo.al.length yc,.int .i64 mo.next]
     have hza : (World.alloc w32 (.cells #[.slice ya mo.al.length yc,.int .i64 mo.next] 24)).heap.size=w32.heap.size+1:=by rw [World.size_alloc]
     have hx33 : Ext w32 (World.alloc w32 (.cells #[.slice ya mo.al.length yc,.int .i64 mo.next] 24)):=(Ext.refl _).alloc _
     obtain ⟨w33b,hw33⟩ : ∃ z,World.alloc w32 (.cells #[.slice ya mo.al.length yc,.int .i64 mo.next] 24)=z:=⟨_,rfl⟩
     rw [hw33] at bO hx33 hza ⊢
     clear hw33
     have hzb0:=hza
     clear hza
     replace bM:=bM.ext hx33
     replace bP:=bP.ext hx33
     replace bT:=bT.ext hx33
     replace Gt:=Lib.hid (Fq.ext Gt.out hx33)
     replace Go:=Lib.hid (Fq.ext Go.out hx33)
     have hF34:=Ext.trans hF32 hx33
     clear hzb0
     have v6o:=v6.out
     obtain ⟨rfl,v6o⟩:=v6o
     rcases v6o with h1 | ⟨rfl,rfl⟩ | ⟨rfl,rfl,hmm⟩
     ·skip
      have q1 : (zt != 0)=true:=by simpa using h1
      clear h1
      go_wp2
      go_ret
      exact ⟨rfl,hF34⟩
     ·skip
      go_wp2
      go_ret
      exact ⟨rfl,hF34⟩
     ·skip
      replace hmm:=Lib.hid hmm
      obtain ⟨bT_0,bT_1,bT_2,bT_3,bT_4,bT_5,bT_l⟩:=bT.c6
      obtain ⟨bO_0,bO_1,bO_l⟩:=bO.c2
      go_wp2_with fail
      clear bT_0 bT_1 bT_2 bT_3 bT_4 bT_5 bT_l bO_0 bO_1 bO_l
      refine (same_mem hmm.out Gt.out.read.1 Go.out.read).mono ?_
      rintro e w35 ⟨rfl,hE35⟩
      replace bM:=bM.ext hE35
      replace bP:=bP.ext hE35
      replace bT:=bT.ext hE35
      replace bO:=bO.ext hE35
      replace Gt:=Lib.hid (Fq.ext Gt.out hE35)
      replace Go:=Lib.hid (Fq.ext Go.out hE35)
      have hF35:=Ext.trans hF34 hE35
      go_wp2
      go_ret
      exact ⟨rfl,hF35⟩
set_option maxRecDepth 100000 in
theorem monitorValues_contract (H : Type) (enc : TypeId × Value→H) (W : World) (base : Nat) (args : Array Value) (ds gs : List (DataW H)) (before : List MemPlace)
  (hval0 : ∀ (j : Nat) t v,Tryz.f4.params[j]? = some t→args[j]? = some v→Value.okWide Tryz.prog W .any base t v)
  (hW : DataW.Whole enc Tryz.prog Tryz.f4.params.toList Rows.monitorValuesSpec.vars false W args.toList ds gs before) (hL : laidMetH Tryz.prog Rows.monitorValuesRow.laid W) :
  Calls Tryz.prog 4 args W fun e W' => ∃ v,e = .returned v∧Rows.monitorValuesSpec.post enc Tryz.prog Tryz.f4 false true false false W args v W':=by
 have hval : ∀ (j : Nat) t v,Tryz.f4.params[j]? = some t→args[j]? = some v→Value.okWide Tryz.prog W .any base t v:=hval0
 have hW':=hW
 obtain ⟨p,q,hA0,hV,rfl,hfz,hnd⟩:=hW
 have hA : DataW.TrodAll enc Tryz.prog W 0 (fun _=>true) true Tryz.f4.params.toList args.toList ds p:=hA0
 rw [Tryz.params4] at hA hval
 obtain ⟨v0,vs0,d0,ds0,p0,q0,hargs,rfl,rfl,h0,r0⟩:=trodAll_cons hA
 obtain ⟨v1,vs1,d1,ds1,p1,q1,rfl,rfl,rfl,h1,r1⟩:=trodAll_cons r0
 obtain ⟨v2,vs2,d2,ds2,p2,q2,rfl,rfl,rfl,h2,r2⟩:=trodAll_cons r1
 obtain ⟨v3,vs3,d3,ds3,p3,q3,rfl,rfl,rfl,h3,r3⟩:=trodAll_cons r2
 obtain ⟨rfl,rfl,rfl⟩:=trodAll_nil r3
 obtain rfl : args=#[v0,v1,v2,v3]:=by cases args;simp_all
 obtain ⟨x0,k0,wf0⟩:=open_mon (hval 0 28 v0 rfl rfl) h0
 obtain ⟨x1,rfl,wf1⟩:=open_ptrv (hval 1 30 v1 rfl rfl) h1
 obtain ⟨x2,k2,wf2⟩:=open_cells Tryz.underlying31 (hval 2 31 v2 rfl rfl) h2
 obtain ⟨x3,rfl,rfl,rfl,wf3⟩:=open_int Tryz.underlying5 (hval 3 5 v3 rfl rfl) h3
 refine (monitorValues_walk (perms_of_laid hL) (u8B_of wf3) x1 k0 wf0.1 k2).mono fun e W' ⟨he,hb⟩ => ?_
 subst he
 exact ⟨_,rfl,post_law TryzlaidOut (tb:=4) rfl Tryz.underlying4 (by kernel_rfl) rfl (fun ds hd=>match ds,hd with | [a0,a1,a2,a3],_=>rfl) hW' hb⟩
theorem monitorValues_met (os : Os) : laidMet Tryz.prog Rows.monitorValuesRow.laid ((doorWorld os).forCall (fun _ _=>0) ⟨#[],#[.agg #[.slice none 0 0,.int .i64 0,.slice none 0 0,.slice none 0 0,.int .i64 0,.int .i64 0],.agg #[.int .i64 0,.int .i64 0,.int .i64 0],.slice none 0 0,.int .u8 0],[]⟩).memory :=
 laidMet_of_run' 8 (by kernel_rfl) (by kernel_rfl)
theorem monitorValues_reads (os : Os) {H : Type} (enc : TypeId × Value→H) : ∃ places,DataW.whole enc Tryz.prog ((doorWorld os).forCall (fun _ _=>0) ⟨#[],#[.agg #[.slice none 0 0,.int .i64 0,.slice none 0 0,.slice none 0 0,.int .i64 0,.int .i64 0],.agg #[.int .i64 0,.int .i64 0,.int .i64 0],.slice none 0 0,.int .u8 0],[]⟩).memory Tryz.f4.params.toList Rows.monitorValuesSpec.vars false (#[.agg #[.slice none 0 0,.int .i64 0,.slice none 0 0,.slice none 0 0,.int .i64 0,.int .i64 0],.agg #[.int .i64 0,.int .i64 0,.int .i64 0],.slice none 0 0,.int .u8 0] : Array Value).toList 8=some ([.agg [.agg [.nil,.lit (.int .i64 0)],.nil,.nil,.lit (.int .i64 0),.lit (.int .i64 0)],.agg [.lit (.int .i64 0),.lit (.int .i64 0),.lit (.int .i64 0)],.nil,.lit (.int .u8 0)],[],places) :=
 ⟨[],by kernel_rfl⟩
set_option maxRecDepth 100000 in
theorem monitorValues_lifted (os : Os) (started : os.Started) (H : Type) (enc : TypeId × Value→H) (F : Stop.Interp) :
  ReturnsInHanded {} Tryz.checked os 4 .any ((OpenSpec.ofChange Rows.monitorValuesSpec).preRow enc Tryz.prog Tryz.f4 Rows.monitorValuesRow.domain false Rows.monitorValuesRow.laid) (((OpenSpec.ofChange Rows.monitorValuesSpec).at F).post enc Tryz.prog Tryz.f4 false true false false):=by
 obtain ⟨places,hx⟩:=monitorValues_reads os enc
 refine returnsInHanded_of_row (C:=Tryz.checked) (s:=OpenSpec.ofChange Rows.monitorValuesSpec) Tryzown started (by kernel_rfl) Tryz.func4
  (witness_row_at (enc:=enc) (C:=Tryz.checked) false (doorWorld os) #[.agg #[.slice none 0 0,.int .i64 0,.slice none 0 0,.slice none 0 0,.int .i64 0,.int .i64 0],.agg #[.int .i64 0,.int .i64 0,.int .i64 0],.slice none 0 0,.int .u8 0] rfl (by kernel_rfl) (by kernel_rfl) (by kernel_rfl)
   (OpenSpec.preRow_of_cond 8 hx (by kernel_rfl) (fun k hk=>by cases hk) (by kernel_rfl) (monitorValues_met os))) ?_
 intro W base args ds gs before hval hW _ _ _ hL _ _
 exact monitorValues_contract H enc W base args ds gs before hval hW hL
theorem monitorValues_said : Rows.MonitorValuesSaid :=
 OpenClaim.holds_of_cond 4 Tryz.f4 rfl rfl rfl rfl rfl rfl rfl ⟨rfl,rfl,rfl,rfl,rfl⟩ rfl rfl rfl rfl rfl (by kernel_rfl) Tryz.func4 (by kernel_rfl)
  (of_decide_eq_true (by kernel_rfl)) (by unfold Func.isWrapper;first | (rw [if_pos (by decide +kernel)];kernel_rfl) | (rw [if_neg (by decide +kernel)];exact ⟨rfl,rfl⟩))
  (fun os started H enc _ F=>by rw [OpenClaim.pre_eq_preRow];exact monitorValues_lifted os started H enc F)
theorem monitorValues_plain (f : FuncId) (fn : Func) (hf : Tryz.pinned.checked.prog.funcNamed "pawnshop/pawnshoplaw35.MonitorValues" = some f) (hfn : Tryz.pinned.checked.prog.funcs[f]? = some fn) :
  false=Tryz.pinned.checked.prog.looks [] ∧ ∀ (j : Nat) t,fn.params[j]? = some t→Tryz.pinned.checked.prog.wantsStandIn t=false:=by
 obtain rfl : f = 4 := Option.some.inj ((show Tryz.prog.funcNamed "pawnshop/pawnshoplaw35.MonitorValues" = some 4 by kernel_rfl).symm.trans hf) |>.symm
 obtain rfl : fn=Tryz.f4:=(Option.some.inj (Tryz.func4.symm.trans hfn)).symm
 refine ⟨by kernel_rfl,fun j t ht => ?_⟩
 have hm : t ∈ Tryz.f4.params.toList:=by simpa using Array.mem_of_getElem? ht
 have hall : (Tryz.f4.params.toList.all fun u => !Tryz.prog.wantsStandIn u)=true:=by kernel_rfl
 exact (show Tryz.prog.wantsStandIn t=false by simpa using List.all_eq_true.1 hall t hm)
theorem monitorValues_card : Rows.MonitorValuesCardSaid :=
 Claim7.holds_tied_plain_at .later [] _ _ _ _ monitorValues_said (fun _ h=>by cases h) (by kernel_rfl) (fun _ h=>by cases h) monitorValues_row_tie rfl ⟨rfl,rfl⟩ (by kernel_rfl) rfl monitorValues_plain (by kernel_rfl)
end Go.Proofs.YtnplphcnagooeaaGreatDoor
