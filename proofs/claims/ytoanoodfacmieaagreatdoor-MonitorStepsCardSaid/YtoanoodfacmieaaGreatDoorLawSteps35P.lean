/- MonitorSteps: along some steps the monitor stays valid, and its memory is that of the same steps without tags. No condition. (printed by gen/law35f.py) -/
import Derived.Test.YtoanoodfacmieaaGreatDoorQ26
import Derived.Test.YtoanoodfacmieaaGreatDoorQ24
import Derived.Test.YtoanoodfacmieaaGreatDoorQ18
import Derived.Test.YtoanoodfacmieaaGreatDoorQ10
import Derived.Deep.DeepCutAuto
import Derived.Deep.CutBlock
namespace Go.Proofs.YtoanoodfacmieaaGreatDoor
set_option maxRecDepth 100000
open Go.ChangeShapes Go.WideShapes Go.ChangeAt Go.RowKit
theorem wp_roundQ {P : Program} {c : Code} {I : Act→World→Prop} {Q : Exit→Act→World→Prop} {a : Act} {w : World} (h : ∀ K : Act→World→Prop,(∀ a' w',I a' w'→K a' w')→c.wp P (Exit.then K Q) a w) : c.wp P (Exit.then I Q) a w:=h I (fun _ _ q=>q)
set_option maxRecDepth 100000 in
set_option maxHeartbeats 200000000 in
theorem monitorSteps_walk {v : Value} {l : List Row5} {wS : World} (hp : Perms wS) (hl : Fvs wS v l) :
  Calls Tryz.prog 3 #[v] wS fun e w'=>e = .returned (.bool true)∧Ext wS w':=by
 obtain ⟨la9,lc9,rfl,hlc9,hlm9,-⟩:=hl.slice_form
 unfold maxLen at hlm9
 replace hl:=Lib.hid hl;replace hp:=Lib.hid hp
 go_enter Tryz.func3,Tryz.ntmps3
 go_wp2_with fail
 refine (law35_alive hp.out).mono ?_
 rintro e w1 ⟨rfl,hE1⟩
 have hF1:=Ext.trans (Ext.refl wS) hE1
 by_cases h30 : 30 < l.length
 ·skip
  have q5 : decide (30 < l.length)=true:=decide_eq_true h30;have q6 : decide ((30 : Int) < (l.length : Int))=true:=decide_eq_true (by omega)
  clear h30
  go_wp2
  go_ret
  exact ⟨rfl,hF1⟩
 have q5 : decide (30 < l.length)=false:=decide_eq_false h30;have q6 : decide ((30 : Int) < (l.length : Int))=false:=decide_eq_false (by omega)
 replace h30:=Lib.hid h30
 go_wp2_with fail
 refine (monitor_New w1).mono ?_
 rintro e w2 ⟨rfl,hE2⟩
 have hF2:=Ext.trans hF1 hE2
 clear q5 q6
 go_wp2
 have lowbM : Hid (wS.heap.size≤w2.heap.size):=Hid.mk (by have h9:=Ext.size hF2;omega)
 have bM:=Box.new w2 30 #[.slice none 0 0,.int .i64 0,.slice none 0 0,.slice none 0 0,.int .i64 1,.int .i64 1]
 have hza : (World.alloc w2 (.cells #[.slice none 0 0,.int .i64 0,.slice none 0 0,.slice none 0 0,.int .i64 1,.int .i64 1] 30)).heap.size=w2.heap.size+1:=by rw [World.size_alloc]
 have hx3 : Ext w2 (World.alloc w2 (.cells #[.slice none 0 0,.int .i64 0,.slice none 0 0,.slice none 0 0,.int .i64 1,.int .i64 1] 30)):=(Ext.refl _).alloc _
 obtain ⟨w3b,hw3⟩ : ∃ z,World.alloc w2 (.cells #[.slice none 0 0,.int .i64 0,.slice none 0 0,.slice none 0 0,.int .i64 1,.int .i64 1] 30)=z:=⟨_,rfl⟩
 rw [hw3] at bM hx3 hza ⊢
 clear hw3
 have hzb0:=hza
 clear hza
 have hF4:=Ext.trans hF2 hx3
 have ne_bY_bM : Hid (w2.heap.size+1≠w2.heap.size):=Hid.mk (by have hz9:=hzb0;have h9:=bM.lt;omega)
 have ne_bM_bY : Hid (w2.heap.size≠w2.heap.size+1):=Hid.mk (by have hz9:=hzb0;have h9:=bM.lt;omega)
 have lowbY : Hid (wS.heap.size≤w2.heap.size+1):=Hid.mk (by have hz9:=hzb0;have h9:=Ext.size hF4;omega)
 have bY:=Box.new w3b 26 #[.slice none 0 0,.int .i64 0]
 rw [hzb0] at bY
 have hza : (World.alloc w3b (.cells #[.slice none 0 0,.int .i64 0] 26)).heap.size=w2.heap.size+2:=by rw [World.size_alloc,hzb0]
 have hx5 : Ext w3b (World.alloc w3b (.cells #[.slice none 0 0,.int .i64 0] 26)):=(Ext.refl _).alloc _
 obtain ⟨w5b,hw5⟩ : ∃ z,World.alloc w3b (.cells #[.slice none 0 0,.int .i64 0] 26)=z:=⟨_,rfl⟩
 rw [hw5] at bY hx5 hza ⊢
 clear hw5
 clear hzb0
 have hzb1:=hza
 clear hza
 replace bM:=bM.ext hx5
 have hF6:=Ext.trans hF4 hx5
 clear hzb1
 obtain ⟨B4,hB4⟩ : ∃ z,w2.heap.size=z:=⟨_,rfl⟩
 obtain ⟨B5,hB5⟩ : ∃ z,w2.heap.size+1=z:=⟨_,rfl⟩
 have hB45 : B5=B4+1:=by rw [← hB4,← hB5]
 rw [hB5] at bY lowbY ne_bY_bM ne_bM_bY ⊢
 rw [hB4] at bM lowbM ne_bY_bM ne_bM_bY ⊢
 clear hB4 hB5 hB45
 replace hF6:=Lib.hid hF6
 go_loopw [6,7] (fun pv iv wr => ∃ (k : Nat) (m : Mon) (a : A3) (a5 : Option Addr) (c5 : Nat) (ps : List Ptr) (PB : Nat),k≤l.length∧iv = .int .i64 k∧StepInv wS B4 B5 k pv wr m a a5 c5 ps PB) (fun _ iv _=>l.length - (intOf iv).toNat)
 case atStart=>exact ⟨0,newMon,⟨none,0,none,0,none,0⟩,none,0,[],B4,Nat.zero_le _,rfl,⟨by decide +kernel,Few.new,bM,bY,Fq.of_all (fun w=>⟨Als.nil w,Kts.nil w,Nts.nil w⟩),Fq.of_all (fun w=>Als.nil w),⟨Own.nil _ _ _ _,fun g h=>(by cases h),bM.lt⟩,lowbM.out,Nat.le_refl _,hF6.out⟩⟩
 case round =>
  refine wp_roundQ fun K9 hK9 => ?_
  obtain ⟨k,m,a,a5,c5,ps,PB,hk,rfl,hS⟩:=hrel
  obtain ⟨x1,y1,x2,y2,x3,y3⟩:=a
  have hok:=Lib.hid hS.ok;have hfew:=Lib.hid hS.few;have hpl:=Lib.hid hS.plen
  clear bM bY
  have bM:=hS.b4;have bY:=hS.b5;have bG:=hS.ptrs
  have Gm:=Lib.hid hS.mon;have Gp:=Lib.hid hS.mem
  have lowbG:=Lib.hid hS.low
  have hFr:=hS.ext
  dsimp only at bM
  clear hS
  obtain ⟨pva,pvc,rfl,hpv1,hpv2,-⟩:=bG.own.sl.slice_form
  replace hpv1:=Lib.hid hpv1
  replace hpv2:=Lib.hid hpv2
  replace bG:=Lib.hid bG
  by_cases hlt : k < l.length
  rotate_left
  ·have hge : decide (k < l.length)=false:=decide_eq_false hlt
   have hge' : decide ((k : Int) < (l.length : Int))=false:=decide_eq_false (by omega)
   go_wp2
   go_ret
   exact ⟨rfl,hFr⟩
  clear_value *
  have hge : decide (k < l.length)=true:=decide_eq_true hlt
  have hge' : decide ((k : Int) < (l.length : Int))=true:=decide_eq_true (by omega)
  obtain ⟨x,hx⟩ : ∃ x,l[k]? = some x:=⟨l[k],by simp [hlt]⟩
  obtain ⟨rb,ro,rfl,hrb,r0,r1,r2,r3,r4⟩:=Fvs.cell (Fvs.ext hl.out hFr) hx
  obtain ⟨s0,s1,s2,s3,s4⟩:=x
  dsimp only at r0 r1 r2 r3 r4
  have hi0 : (0 : Int)≤(k : Int):=by omega
  have hi1 : (k : Int) < (l.length : Int):=by omega
  have hk30:=Lib.hid (by have:=h30.out;omega : k < 30)
  clear hx hk
  have hkl:=Lib.hid (by omega : k+1≤l.length)
  clear hlt
  replace hFr:=Lib.hid hFr
  replace bM:=Lib.hid bM
  replace bY:=Lib.hid bY
  go_upto_region 12 with fail
  clear r0 r1 r2 r3 r4 hge hge' hi0 hi1 hrb
  replace hFr:=hFr.out;replace bM:=bM.out;replace bY:=bY.out;replace bG:=bG.out
  have ne_bM_bS : Hid (B4≠wr.heap.size):=Hid.mk (by have h9:=bM.lt;omega)
  have ne_bY_bS : Hid (B5≠wr.heap.size):=Hid.mk (by have h9:=bY.lt;omega)
  have ne_bG_bS : Hid (PB≠wr.heap.size):=Hid.mk (by have h9:=bG.lt;omega)
  have bS:=Box.new wr 33 #[.int .i64 s0,.int .i64 s1,.int .i64 s2,.int .i64 s3,.int .i64 s4]
  have hza : (World.alloc wr (.cells #[.int .i64 s0,.int .i64 s1,.int .i64 s2,.int .i64 s3,.int .i64 s4] 33)).heap.size=wr.heap.size+1:=by rw [World.size_alloc]
  have hx7 : Ext wr (World.alloc wr (.cells #[.int .i64 s0,.int .i64 s1,.int .i64 s2,.int .i64 s3,.int .i64 s4] 33)):=(Ext.refl _).alloc _
  obtain ⟨w7b,hw7⟩ : ∃ z,World.alloc wr (.cells #[.int .i64 s0,.int .i64 s1,.int .i64 s2,.int .i64 s3,.int .i64 s4] 33)=z:=⟨_,rfl⟩
  rw [hw7] at bS hx7 hza ⊢
  clear hw7
  have hzb0:=hza
  clear hza
  replace bM:=bM.ext hx7
  replace bY:=bY.ext hx7
  replace bG:=bG.ext hx7
  replace Gm:=Lib.hid (Fq.ext Gm.out hx7)
  replace Gp:=Lib.hid (Fq.ext Gp.out hx7)
  have hF8:=Ext.trans hFr hx7
  have ne_bP_bM : Hid (wr.heap.size+1≠B4):=Hid.mk (by have hz9:=hzb0;have h9:=bM.lt;omega)
  have ne_bM_bP : Hid (B4≠wr.heap.size+1):=Hid.mk (by have hz9:=hzb0;have h9:=bM.lt;omega)
  have ne_bP_bY : Hid (wr.heap.size+1≠B5):=Hid.mk (by have hz9:=hzb0;have h9:=bY.lt;omega)
  have ne_bY_bP : Hid (B5≠wr.heap.size+1):=Hid.mk (by have hz9:=hzb0;have h9:=bY.lt;omega)
  have ne_bP_bG : Hid (wr.heap.size+1≠PB):=Hid.mk (by have hz9:=hzb0;have h9:=bG.lt;omega)
  have ne_bG_bP : Hid (PB≠wr.heap.size+1):=Hid.mk (by have hz9:=hzb0;have h9:=bG.lt;omega)
  have ne_bP_bS : Hid (wr.heap.size+1≠wr.heap.size):=Hid.mk (by have hz9:=hzb0;have h9:=bS.lt;omega)
  have lowbP : Hid (wS.heap.size≤wr.heap.size+1):=Hid.mk (by have hz9:=hzb0;have h9:=Ext.size hF8;omega)
  have bP:=Box.new w7b 35 #[.int .i64 0,.int .i64 0,.int .i64 0]
  rw [hzb0] at bP
  have hza : (World.alloc w7b (.cells #[.int .i64 0,.int .i64 0,.int .i64 0] 35)).heap.size=wr.heap.size+2:=by rw [World.size_alloc,hzb0]
  have hx9 : Ext w7b (World.alloc w7b (.cells #[.int .i64 0,.int .i64 0,.int .i64 0] 35)):=(Ext.refl _).alloc _
  obtain ⟨w9b,hw9⟩ : ∃ z,World.alloc w7b (.cells #[.int .i64 0,.int .i64 0,.int .i64 0] 35)=z:=⟨_,rfl⟩
  rw [hw9] at bP hx9 hza ⊢
  clear hw9
  replace Gm:=Lib.hid (Fq.to (T:=fun _=>False) (S':=(fun b=>b≠B4∧b≠B5∧b≠PB∧b≠wr.heap.size+1∧True)) Gm.out (ExtBut.of_ext hx9) (fun _ _ _ h=>h) (fun b h hl=>⟨h.1,h.2.1,h.2.2.1,by have hz9:=hzb0;omega,trivial⟩))
  replace Gp:=Lib.hid (Fq.to (T:=fun _=>False) (S':=(fun b=>b≠B4∧b≠B5∧b≠PB∧b≠wr.heap.size+1∧True)) Gp.out (ExtBut.of_ext hx9) (fun _ _ _ h=>h) (fun b h hl=>⟨h.1,h.2.1,h.2.2.1,by have hz9:=hzb0;omega,trivial⟩))
  clear hzb0
  have hzb1:=hza
  clear hza
  replace bM:=bM.ext hx9
  replace bY:=bY.ext hx9
  replace bG:=bG.ext hx9
  replace bS:=bS.ext hx9
  have hF10:=Ext.trans hF8 hx9
  clear hzb1
  go_cut [47] from 28 to 245 (fun s9 wx => ∃ b9 : Bool,s9 = .bool b9∧(b9=true→0≤s1∧s1 < (ps.length : Int))∧wx=w9b)
  case first=>as_aux_lemma =>
   by_cases h0 : 0≤s1
   rotate_left
   ·as_aux_lemma =>
    have q0 : decide (0≤s1)=false:=decide_eq_false h0
    obtain ⟨bS_0,bS_1,bS_2,bS_3,bS_4,bS_l⟩:=bS.c5
    go_wp2_with fail
    go_meet
    exact ⟨_,rfl,fun h=>(by cases h),rfl⟩
   have q0 : decide (0≤s1)=true:=decide_eq_true h0
   by_cases h1 : s1 < (ps.length : Int)
   rotate_left
   ·as_aux_lemma =>
    have q1 : decide (s1 < (ps.length : Int))=false:=decide_eq_false h1
    obtain ⟨bS_0,bS_1,bS_2,bS_3,bS_4,bS_l⟩:=bS.c5
    go_wp2_with fail
    go_meet
    exact ⟨_,rfl,fun h=>(by cases h),rfl⟩
   have q1 : decide (s1 < (ps.length : Int))=true:=decide_eq_true h1
   obtain ⟨bS_0,bS_1,bS_2,bS_3,bS_4,bS_l⟩:=bS.c5
   go_wp2_with fail
   go_meet
   exact ⟨_,rfl,fun _=>(by omega),rfl⟩
  case rest =>
   obtain ⟨b9,rfl,hb9,hcw⟩:=hcut
   replace hb9:=Lib.hid hb9
   rw [hcw]
   clear hcw
   go_upto_if 47 with fail
   go_cut [] from 28 to 245 (fun wx => ∃ p : Ptr,Box wx (wr.heap.size+1) 35 #[.int .i64 p.a,.int .i64 p.o,.int .i64 p.t]∧ExtBut (fun b=>b=wr.heap.size+1∨False) w9b wx)
   case first=>as_aux_lemma =>
    cases b9
    ·as_aux_lemma =>
     clear hb9
     go_wp2_with fail
     go_meet
     exact ⟨⟨0,0,0⟩,bP,ExtBut.refl _ _⟩
    have hd:=hb9.out rfl
    clear hb9
    obtain ⟨j,rfl⟩ : ∃ j : Nat,s1=(j : Int):=⟨s1.toNat,by omega⟩
    have hj0 : (0 : Int)≤(j : Int):=hd.1
    have hj1 : (j : Int) < (ps.length : Int):=hd.2
    obtain ⟨xp,hxp⟩ : ∃ x,ps[j]? = some x:=⟨ps[j]'(by omega),List.getElem?_eq_getElem _⟩
    obtain ⟨pb,pf,rfl,hpb,p0,p1,p2⟩:=Pvs.cell bG.own.sl hxp
    obtain ⟨pa,po,pt⟩:=xp
    dsimp only at p0 p1 p2
    clear hd hxp
    have hXt:=Lib.hid (ExtBut.refl (fun b=>b=wr.heap.size+1∨False) w9b)
    obtain ⟨bS_0,bS_1,bS_2,bS_3,bS_4,bS_l⟩:=bS.c5
    have bP_0 : World.cell? w9b ⟨wr.heap.size+1,0,none⟩=some (.int .i64 0):=bP.cell 0
    have bP_1 : World.cell? w9b ⟨wr.heap.size+1,1,none⟩=some (.int .i64 0):=bP.cell 1
    have bP_2 : World.cell? w9b ⟨wr.heap.size+1,2,none⟩=some (.int .i64 0):=bP.cell 2
    have bP_f0 : World.frozen? w9b ⟨wr.heap.size+1,0,none⟩=false:=bP.frozen 0
    have bP_f1 : World.frozen? w9b ⟨wr.heap.size+1,1,none⟩=false:=bP.frozen 1
    have bP_f2 : World.frozen? w9b ⟨wr.heap.size+1,2,none⟩=false:=bP.frozen 2
    have bP_l:=bP.lt
    go_wp2_with fail
    clear bS_0 bS_1 bS_2 bS_3 bS_4 bS_l bP_0 bP_1 bP_2 bP_f0 bP_f1 bP_f2 bP_l
    replace hXt:=ExtBut.trans hXt.out (ExtBut.trans (ExtBut.trans ((ExtBut.setCell w9b ⟨wr.heap.size+1,0,none⟩ (.int .i64 pa)).mono (S':=(fun b=>b=wr.heap.size+1∨False)) (fun b _ h => .inl h)) ((ExtBut.setCell (World.setCell w9b ⟨wr.heap.size+1,0,none⟩ (.int .i64 pa)) ⟨wr.heap.size+1,1,none⟩ (.int .i64 po)).mono (S':=(fun b=>b=wr.heap.size+1∨False)) (fun b _ h => .inl h))) ((ExtBut.setCell (World.setCell (World.setCell w9b ⟨wr.heap.size+1,0,none⟩ (.int .i64 pa)) ⟨wr.heap.size+1,1,none⟩ (.int .i64 po)) ⟨wr.heap.size+1,2,none⟩ (.int .i64 pt)).mono (S':=(fun b=>b=wr.heap.size+1∨False)) (fun b _ h => .inl h)))
    have hS11 : ExtBut (fun b=>b=B4∨b=B5∨b=PB∨b=wr.heap.size+1∨False) w9b (World.setCell (World.setCell (World.setCell w9b ⟨wr.heap.size+1,0,none⟩ (.int .i64 pa)) ⟨wr.heap.size+1,1,none⟩ (.int .i64 po)) ⟨wr.heap.size+1,2,none⟩ (.int .i64 pt)):=by (repeat' with_reducible first | exact ExtBut.refl _ _ | refine ExtBut.dr ?_ | refine ExtBut.sc ?_ ?_ | fail) <;> dsimp only <;> omega
    replace bM:=(Box.other (Box.other (Box.other bM (p:=⟨wr.heap.size+1,0,none⟩) (ne_bP_bM.out) (.int .i64 pa)) (p:=⟨wr.heap.size+1,1,none⟩) (ne_bP_bM.out) (.int .i64 po)) (p:=⟨wr.heap.size+1,2,none⟩) (ne_bP_bM.out) (.int .i64 pt))
    replace bY:=(Box.other (Box.other (Box.other bY (p:=⟨wr.heap.size+1,0,none⟩) (ne_bP_bY.out) (.int .i64 pa)) (p:=⟨wr.heap.size+1,1,none⟩) (ne_bP_bY.out) (.int .i64 po)) (p:=⟨wr.heap.size+1,2,none⟩) (ne_bP_bY.out) (.int .i64 pt))
    replace bG:=(Pvb.other (Pvb.other (Pvb.other bG (p:=⟨wr.heap.size+1,0,none⟩) (ne_bP_bG.out) (.int .i64 pa)) (p:=⟨wr.heap.size+1,1,none⟩) (ne_bP_bG.out) (.int .i64 po)) (p:=⟨wr.heap.size+1,2,none⟩) (ne_bP_bG.out) (.int .i64 pt))
    replace bS:=(Box.other (Box.other (Box.other bS (p:=⟨wr.heap.size+1,0,none⟩) (ne_bP_bS.out) (.int .i64 pa)) (p:=⟨wr.heap.size+1,1,none⟩) (ne_bP_bS.out) (.int .i64 po)) (p:=⟨wr.heap.size+1,2,none⟩) (ne_bP_bS.out) (.int .i64 pt))
    replace bP:=(Box.setL (Box.setL (Box.setL bP 0 (.int .i64 pa)) 1 (.int .i64 po)) 2 (.int .i64 pt))
    simp only [List.set_cons_zero,List.set_cons_succ] at bP
    obtain ⟨w11s,hw11⟩ : ∃ z,(World.setCell (World.setCell (World.setCell w9b ⟨wr.heap.size+1,0,none⟩ (.int .i64 pa)) ⟨wr.heap.size+1,1,none⟩ (.int .i64 po)) ⟨wr.heap.size+1,2,none⟩ (.int .i64 pt))=z:=⟨_,rfl⟩
    rw [hw11] at hXt hS11 bM bY bG bS bP ⊢
    clear hw11
    have hF11:=ExtBut.ext hF10 hS11 (fun b h=>by rcases h with h | h | h | h | h;(rw [h];exact lowbM.out);(rw [h];exact lowbY.out);(rw [h];exact lowbG.out);(rw [h];exact lowbP.out);exact h.elim)
    replace Gm:=Lib.hid (Fq.but Gm.out hS11 (fun b h _ h2=>by rcases h2 with h2 | h2 | h2 | h2 | h2;exact h.1 h2;exact h.2.1 h2;exact h.2.2.1 h2;exact h.2.2.2.1 h2;exact h2))
    replace Gp:=Lib.hid (Fq.but Gp.out hS11 (fun b h _ h2=>by rcases h2 with h2 | h2 | h2 | h2 | h2;exact h.1 h2;exact h.2.1 h2;exact h.2.2.1 h2;exact h.2.2.2.1 h2;exact h2))
    clear hS11
    replace hXt:=Lib.hid hXt
    go_meet
    exact ⟨⟨pa,po,pt⟩,bP,hXt.out⟩
   case rest =>
    clear hb9
    obtain ⟨⟨pa,po,pt⟩,bP,hXc⟩:=hcut
    dsimp only at bP
    obtain ⟨wp,hwp⟩ : ∃ z,wc=z:=⟨_,rfl⟩
    rw [hwp] at bP hXc ⊢
    clear hwp
    replace bM:=Box.but bM hXc (fun h=>by rcases h with h | h;exact ne_bP_bM.out h.symm;exact h)
    replace bY:=Box.but bY hXc (fun h=>by rcases h with h | h;exact ne_bP_bY.out h.symm;exact h)
    replace bG:=Pvb.but bG hXc (fun h=>by rcases h with h | h;exact ne_bP_bG.out h.symm;exact h)
    replace bS:=Box.but bS hXc (fun h=>by rcases h with h | h;exact ne_bP_bS.out h.symm;exact h)
    replace Gm:=Lib.hid (Fq.but Gm.out hXc (fun b h _ h2=>by rcases h2 with h2 | h2;exact h.2.2.2.1 h2;exact h2))
    replace Gp:=Lib.hid (Fq.but Gp.out hXc (fun b h _ h2=>by rcases h2 with h2 | h2;exact h.2.2.2.1 h2;exact h2))
    have hF11:=ExtBut.ext hF10 hXc (fun b h=>by rcases h with h | h;(rw [h];exact lowbP.out);exact h.elim)
    clear hXc
    go_upto_region 14 with fail
    have cbS_2 : World.cell? wp ⟨wr.heap.size,2,none⟩=some (.int .i64 s2):=bS.cell 2
    have cbS_3 : World.cell? wp ⟨wr.heap.size,3,none⟩=some (.int .i64 s3):=bS.cell 3
    have ltbM:=bM.lt
    have ltbY:=bY.lt
    have ltbG:=bG.lt
    have ltbP:=bP.lt
    refine wp_region_st (R:=RX wp.drew.heap.size [] (XM wp.drew.heap.size [] m #[])) RX.refl (fun _ _ _=>RX.trans XM_st) [PrS.eq _ (.pointer (some ⟨wr.heap.size,2,none⟩)),PrS.eq _ (.int .i64 s2),PrS.eq _ (.agg #[.int .u8 1,.int .i64 s2,.int .i64 0,.int .i64 0,.int .i64 0]),PrS.eq _ (.pointer (some ⟨wr.heap.size,3,none⟩)),PrS.eq _ (.int .i64 s3),PrS.eq _ (.agg #[.int .u8 1,.int .i64 s3,.int .i64 0,.int .i64 0,.int .i64 0]),(PrFS wp.drew.heap.size [] (XM wp.drew.heap.size [] m #[]) (fun a9 : Option Addr × Nat => .slice a9.1 2 a9.2) (fun a9 w=>Cls w (.slice a9.1 2 a9.2) [⟨1,s2,0,0,0⟩,⟨1,s3,0,0,0⟩])),(PrFS wp.drew.heap.size [] (XM wp.drew.heap.size [] m #[]) (fun a9 : Option Addr × Nat => .slice a9.1 2 a9.2) (fun a9 w=>Cls w (.slice a9.1 2 a9.2) [⟨1,s2,0,0,0⟩,⟨1,s3,0,0,0⟩]))] (by kernel_rfl) (by kernel_rfl) ?_ ?_
    ·refine ⟨?_,?_,?_,?_,?_,?_,?_,?_,trivial⟩
     ·intro β a w hβ hE hd ho
      refine .inl ⟨rfl,?_⟩
      intro Kq hKq
      have hF : Ext wp w:=Ext.trans ((Ext.refl _).drew) (hE.to_ext (Nat.le_refl _))
      have e8 : a.eval (.tmp 8) = .pointer (some ⟨wr.heap.size,0,none⟩):=ho 8 (by kernel_rfl)
      rw [eval_tmp] at e8
      clear cbS_2 cbS_3
      clear hd ho
      replace hKq:=Lib.hid hKq;replace hE:=Lib.hid hE;replace hβ:=Lib.hid hβ
      go_simp
      exact hKq.out _ _ rfl (RX.ext hβ.out (by decide) (Ext.refl _))
     ·intro β a w hβ hE hd ho
      refine .inl ⟨rfl,?_⟩
      intro Kq hKq
      have hF : Ext wp w:=Ext.trans ((Ext.refl _).drew) (hE.to_ext (Nat.le_refl _))
      have e53 : a.eval (.tmp 53) = .pointer (some ⟨wr.heap.size,2,none⟩):=(hd 0 (by kernel_rfl)).1
      rw [eval_tmp] at e53
      have cbS_2w:=Ext.cell hF cbS_2
      clear cbS_2 cbS_3
      clear hd ho
      replace hKq:=Lib.hid hKq;replace hE:=Lib.hid hE;replace hβ:=Lib.hid hβ
      go_simp
      exact hKq.out _ _ rfl (RX.ext hβ.out (by decide) (Ext.refl _))
     ·intro β a w hβ hE hd ho
      refine .inl ⟨rfl,?_⟩
      intro Kq hKq
      have hF : Ext wp w:=Ext.trans ((Ext.refl _).drew) (hE.to_ext (Nat.le_refl _))
      have e54 : a.eval (.tmp 54) = .int .i64 s2:=(hd 1 (by kernel_rfl)).1
      rw [eval_tmp] at e54
      clear cbS_2 cbS_3
      clear hd ho
      replace hKq:=Lib.hid hKq;replace hE:=Lib.hid hE;replace hβ:=Lib.hid hβ
      go_simp
      refine (law35_num s2 w).mono ?_
      rintro e wz ⟨rfl,hZ⟩
      dsimp only [Cell.val]
      go_simp
      exact hKq.out _ _ rfl (RX.ext hβ.out (by decide) hZ)
     ·intro β a w hβ hE hd ho
      refine .inl ⟨rfl,?_⟩
      intro Kq hKq
      have hF : Ext wp w:=Ext.trans ((Ext.refl _).drew) (hE.to_ext (Nat.le_refl _))
      have e8 : a.eval (.tmp 8) = .pointer (some ⟨wr.heap.size,0,none⟩):=ho 8 (by kernel_rfl)
      rw [eval_tmp] at e8
      clear cbS_2 cbS_3
      clear hd ho
      replace hKq:=Lib.hid hKq;replace hE:=Lib.hid hE;replace hβ:=Lib.hid hβ
      go_simp
      exact hKq.out _ _ rfl (RX.ext hβ.out (by decide) (Ext.refl _))
     ·intro β a w hβ hE hd ho
      refine .inl ⟨rfl,?_⟩
      intro Kq hKq
      have hF : Ext wp w:=Ext.trans ((Ext.refl _).drew) (hE.to_ext (Nat.le_refl _))
      have e56 : a.eval (.tmp 56) = .pointer (some ⟨wr.heap.size,3,none⟩):=(hd 3 (by kernel_rfl)).1
      rw [eval_tmp] at e56
      have cbS_3w:=Ext.cell hF cbS_3
      clear cbS_2 cbS_3
      clear hd ho
      replace hKq:=Lib.hid hKq;replace hE:=Lib.hid hE;replace hβ:=Lib.hid hβ
      go_simp
      exact hKq.out _ _ rfl (RX.ext hβ.out (by decide) (Ext.refl _))
     ·intro β a w hβ hE hd ho
      refine .inl ⟨rfl,?_⟩
      intro Kq hKq
      have hF : Ext wp w:=Ext.trans ((Ext.refl _).drew) (hE.to_ext (Nat.le_refl _))
      have e57 : a.eval (.tmp 57) = .int .i64 s3:=(hd 4 (by kernel_rfl)).1
      rw [eval_tmp] at e57
      clear cbS_2 cbS_3
      clear hd ho
      replace hKq:=Lib.hid hKq;replace hE:=Lib.hid hE;replace hβ:=Lib.hid hβ
      go_simp
      refine (law35_num s3 w).mono ?_
      rintro e wz ⟨rfl,hZ⟩
      dsimp only [Cell.val]
      go_simp
      exact hKq.out _ _ rfl (RX.ext hβ.out (by decide) hZ)
     ·intro β a w hβ hE hd ho
      refine .inl ⟨rfl,?_⟩
      intro Kq hKq
      have hF : Ext wp w:=Ext.trans ((Ext.refl _).drew) (hE.to_ext (Nat.le_refl _))
      have e55 : a.eval (.tmp 55) = .agg #[.int .u8 1,.int .i64 s2,.int .i64 0,.int .i64 0,.int .i64 0]:=(hd 2 (by kernel_rfl)).1
      rw [eval_tmp] at e55
      have e58 : a.eval (.tmp 58) = .agg #[.int .u8 1,.int .i64 s3,.int .i64 0,.int .i64 0,.int .i64 0]:=(hd 5 (by kernel_rfl)).1
      rw [eval_tmp] at e58
      clear cbS_2 cbS_3
      clear hd ho
      replace hKq:=Lib.hid hKq;replace hE:=Lib.hid hE;replace hβ:=Lib.hid hβ
      go_simp
      exact hKq.out _ _ ⟨(some ⟨_,0,none⟩,2),rfl,FSb.new hE.out (by decide) hF.size (Cls.litF w #[.int .u8 1,.int .i64 s2,.int .i64 0,.int .i64 0,.int .i64 0,.int .u8 1,.int .i64 s3,.int .i64 0,.int .i64 0,.int .i64 0] [⟨1,s2,0,0,0⟩,⟨1,s3,0,0,0⟩] 2 rfl (by simp [maxLen]) rfl)⟩ (RX.ext hβ.out (by decide) ((Ext.refl _).alloc _))
     ·intro β a w hβ hE hd ho
      refine .inl ⟨rfl,?_⟩
      intro Kq hKq
      have hF : Ext wp w:=Ext.trans ((Ext.refl _).drew) (hE.to_ext (Nat.le_refl _))
      obtain ⟨⟨y1_59,y2_59⟩,e59,g59⟩ : ∃ a9 : Option Addr × Nat,a.eval (.tmp 59) = .slice a9.1 2 a9.2∧FSb wp.drew.heap.size [] (β,w) (fun w=>Cls w (.slice a9.1 2 a9.2) [⟨1,s2,0,0,0⟩,⟨1,s3,0,0,0⟩]):=(hd 6 (by kernel_rfl)).1
      dsimp only at e59 g59
      rw [eval_tmp] at e59
      replace g59:=Lib.hid g59
      clear cbS_2 cbS_3
      clear hd ho
      replace hKq:=Lib.hid hKq;replace hE:=Lib.hid hE;replace hβ:=Lib.hid hβ
      go_simp
      exact hKq.out _ _ ⟨(y1_59,y2_59),rfl,FSb.mono g59.out (RX0.ext hβ.out (by decide) (Ext.refl _))⟩ (RX.ext hβ.out (by decide) (Ext.refl _))
    ·intro vals β Ac wq hAc hE hv hsv hbv
     have hF : Ext wp wq:=Ext.trans ((Ext.refl _).drew) (hE.to_ext (Nat.le_refl _))
     obtain ⟨⟨cl1,cl2⟩,e10,hq9⟩:=hv 7 (by decide)
     dsimp only at e10 hq9
     have qL : Fq (fun b=>b≠B4∧b≠B5∧b≠PB∧b≠wr.heap.size+1∧True) wq (fun w=>Cls w (.slice cl1 2 cl2) [⟨1,s2,0,0,0⟩,⟨1,s3,0,0,0⟩]):=Fq.mono hq9 (fun b h1 hl=>⟨by have g9:=ltbM;have h9 : wp.heap.size≤b:=h1.1;omega,by have g9:=ltbY;have h9 : wp.heap.size≤b:=h1.1;omega,by have g9:=ltbG;have h9 : wp.heap.size≤b:=h1.1;omega,by have g9:=ltbP;have h9 : wp.heap.size≤b:=h1.1;omega,trivial⟩)
     clear hv hsv hbv hE hq9 cbS_2 cbS_3
     subst hAc
     simp only [putAll]
     go_simp
     try rw [e10]
     clear e10 ltbM ltbY ltbG ltbP
     obtain ⟨wl,hwl⟩ : ∃ z,wq=z:=⟨_,rfl⟩
     rw [hwl] at hF qL ⊢
     clear hwl
     replace bM:=bM.ext hF
     replace bY:=bY.ext hF
     replace bG:=bG.ext hF
     replace bS:=bS.ext hF
     replace bP:=bP.ext hF
     replace Gm:=Lib.hid (Fq.ext Gm.out hF)
     replace Gp:=Lib.hid (Fq.ext Gp.out hF)
     have hF12:=Ext.trans hF11 hF
     replace qL:=Lib.hid qL
     obtain ⟨lb,lo,rfl,-,-⟩:=Sl.at qL.out.read (by decide) (by simp)
     have hcl : Hid (2≤cl2):=Hid.mk (by obtain ⟨-,a9,c9,e9,h9,-⟩:=qL.out.read;cases e9;exact h9)
     obtain ⟨bS_0,bS_1,bS_2,bS_3,bS_4,bS_l⟩:=bS.c5
     go_upto_if 63 with fail
     clear bS_0 bS_1 bS_2 bS_3 bS_4 bS_l
     go_cut [10] from 28 to 245 (fun v9 wx => ∃ lc : List Cell,v9 = .slice (some ⟨lb,lo,none⟩) lc.length cl2∧Fq (fun b=>b≠B4∧b≠B5∧b≠PB∧b≠wr.heap.size+1∧True) wl (fun w=>Cls w (.slice (some ⟨lb,lo,none⟩) lc.length cl2) lc)∧wx=wl)
     case first=>as_aux_lemma =>
      have hc0 : (1 : Int)≤(cl2 : Int):=by have:=hcl.out;omega
      have hc1 : 1≤cl2:=by have:=hcl.out;omega
      go_wp2_with fail
      all_goals first | (go_meet;exact ⟨[⟨1,s2,0,0,0⟩],rfl,Fq.imp qL.out (fun w h=>Cls.first h),rfl⟩) | (go_meet;exact ⟨[⟨1,s2,0,0,0⟩,⟨1,s3,0,0,0⟩],rfl,qL.out,rfl⟩)
     case rest =>
      clear qL
      obtain ⟨lc,rfl,qL,hcw⟩:=hcut
      replace qL:=Lib.hid qL
      rw [hcw]
      clear hcw
      obtain ⟨bM_0,bM_1,bM_2,bM_3,bM_4,bM_5,bM_l⟩:=bM.c6
      obtain ⟨bY_0,bY_1,bY_l⟩:=bY.c2
      go_upto_region 19 with fail
      clear bM_0 bM_1 bM_2 bM_3 bM_4 bM_5 bM_l bY_0 bY_1 bY_l
      have ne_bN_bM : Hid (wl.heap.size≠B4):=Hid.mk (by have h9:=bM.lt;omega)
      have ne_bM_bN : Hid (B4≠wl.heap.size):=Hid.mk (by have h9:=bM.lt;omega)
      have ne_bN_bY : Hid (wl.heap.size≠B5):=Hid.mk (by have h9:=bY.lt;omega)
      have ne_bY_bN : Hid (B5≠wl.heap.size):=Hid.mk (by have h9:=bY.lt;omega)
      have ne_bN_bG : Hid (wl.heap.size≠PB):=Hid.mk (by have h9:=bG.lt;omega)
      have ne_bG_bN : Hid (PB≠wl.heap.size):=Hid.mk (by have h9:=bG.lt;omega)
      have ne_bN_bS : Hid (wl.heap.size≠wr.heap.size):=Hid.mk (by have h9:=bS.lt;omega)
      have ne_bN_bP : Hid (wl.heap.size≠wr.heap.size+1):=Hid.mk (by have h9:=bP.lt;omega)
      have ne_bP_bN : Hid (wr.heap.size+1≠wl.heap.size):=Hid.mk (by have h9:=bP.lt;omega)
      have lowbN : Hid (wS.heap.size≤wl.heap.size):=Hid.mk (by have h9:=Ext.size hF12;omega)
      have bN:=Box.new wl 30 #[.slice x1 m.mem.al.length y1,.int .i64 m.mem.next,.slice x2 m.stks.length y2,.slice x3 m.run.length y3,.int .i64 m.tag,.int .i64 m.call]
      have hza : (World.alloc wl (.cells #[.slice x1 m.mem.al.length y1,.int .i64 m.mem.next,.slice x2 m.stks.length y2,.slice x3 m.run.length y3,.int .i64 m.tag,.int .i64 m.call] 30)).heap.size=wl.heap.size+1:=by rw [World.size_alloc]
      have hx13 : Ext wl (World.alloc wl (.cells #[.slice x1 m.mem.al.length y1,.int .i64 m.mem.next,.slice x2 m.stks.length y2,.slice x3 m.run.length y3,.int .i64 m.tag,.int .i64 m.call] 30)):=(Ext.refl _).alloc _
      obtain ⟨w13b,hw13⟩ : ∃ z,World.alloc wl (.cells #[.slice x1 m.mem.al.length y1,.int .i64 m.mem.next,.slice x2 m.stks.length y2,.slice x3 m.run.length y3,.int .i64 m.tag,.int .i64 m.call] 30)=z:=⟨_,rfl⟩
      rw [hw13] at bN hx13 hza ⊢
      clear hw13
      replace Gm:=Lib.hid (Fq.to (T:=fun _=>False) (S':=(fun b=>b≠B4∧b≠B5∧b≠PB∧b≠wr.heap.size+1∧b≠wl.heap.size∧True)) Gm.out (ExtBut.of_ext hx13) (fun _ _ _ h=>h) (fun b h hl=>⟨h.1,h.2.1,h.2.2.1,h.2.2.2.1,by omega,trivial⟩))
      replace Gp:=Lib.hid (Fq.to (T:=fun _=>False) (S':=(fun b=>b≠B4∧b≠B5∧b≠PB∧b≠wr.heap.size+1∧b≠wl.heap.size∧True)) Gp.out (ExtBut.of_ext hx13) (fun _ _ _ h=>h) (fun b h hl=>⟨h.1,h.2.1,h.2.2.1,h.2.2.2.1,by omega,trivial⟩))
      replace qL:=Lib.hid (Fq.to (T:=fun _=>False) (S':=(fun b=>b≠B4∧b≠B5∧b≠PB∧b≠wr.heap.size+1∧b≠wl.heap.size∧True)) qL.out (ExtBut.of_ext hx13) (fun _ _ _ h=>h) (fun b h hl=>⟨h.1,h.2.1,h.2.2.1,h.2.2.2.1,by omega,trivial⟩))
      have hzb0:=hza
      clear hza
      replace bM:=bM.ext hx13
      replace bY:=bY.ext hx13
      replace bG:=bG.ext hx13
      replace bS:=bS.ext hx13
      replace bP:=bP.ext hx13
      have hF14:=Ext.trans hF12 hx13
      have ne_bQ_bM : Hid (wl.heap.size+1≠B4):=Hid.mk (by have hz9:=hzb0;have h9:=bM.lt;omega)
      have ne_bM_bQ : Hid (B4≠wl.heap.size+1):=Hid.mk (by have hz9:=hzb0;have h9:=bM.lt;omega)
      have ne_bQ_bY : Hid (wl.heap.size+1≠B5):=Hid.mk (by have hz9:=hzb0;have h9:=bY.lt;omega)
      have ne_bY_bQ : Hid (B5≠wl.heap.size+1):=Hid.mk (by have hz9:=hzb0;have h9:=bY.lt;omega)
      have ne_bQ_bG : Hid (wl.heap.size+1≠PB):=Hid.mk (by have hz9:=hzb0;have h9:=bG.lt;omega)
      have ne_bG_bQ : Hid (PB≠wl.heap.size+1):=Hid.mk (by have hz9:=hzb0;have h9:=bG.lt;omega)
      have ne_bQ_bS : Hid (wl.heap.size+1≠wr.heap.size):=Hid.mk (by have hz9:=hzb0;have h9:=bS.lt;omega)
      have ne_bQ_bP : Hid (wl.heap.size+1≠wr.heap.size+1):=Hid.mk (by have hz9:=hzb0;have h9:=bP.lt;omega)
      have ne_bP_bQ : Hid (wr.heap.size+1≠wl.heap.size+1):=Hid.mk (by have hz9:=hzb0;have h9:=bP.lt;omega)
      have ne_bQ_bN : Hid (wl.heap.size+1≠wl.heap.size):=Hid.mk (by have hz9:=hzb0;have h9:=bN.lt;omega)
      have ne_bN_bQ : Hid (wl.heap.size≠wl.heap.size+1):=Hid.mk (by have hz9:=hzb0;have h9:=bN.lt;omega)
      have lowbQ : Hid (wS.heap.size≤wl.heap.size+1):=Hid.mk (by have hz9:=hzb0;have h9:=Ext.size hF14;omega)
      have bQ:=Box.new w13b 35 #[.int .i64 0,.int .i64 0,.int .i64 0]
      rw [hzb0] at bQ
      have hza : (World.alloc w13b (.cells #[.int .i64 0,.int .i64 0,.int .i64 0] 35)).heap.size=wl.heap.size+2:=by rw [World.size_alloc,hzb0]
      have hx15 : Ext w13b (World.alloc w13b (.cells #[.int .i64 0,.int .i64 0,.int .i64 0] 35)):=(Ext.refl _).alloc _
      obtain ⟨w15b,hw15⟩ : ∃ z,World.alloc w13b (.cells #[.int .i64 0,.int .i64 0,.int .i64 0] 35)=z:=⟨_,rfl⟩
      rw [hw15] at bQ hx15 hza ⊢
      clear hw15
      replace Gm:=Lib.hid (Fq.to (T:=fun _=>False) (S':=(fun b=>b≠B4∧b≠B5∧b≠PB∧b≠wr.heap.size+1∧b≠wl.heap.size∧b≠wl.heap.size+1∧True)) Gm.out (ExtBut.of_ext hx15) (fun _ _ _ h=>h) (fun b h hl=>⟨h.1,h.2.1,h.2.2.1,h.2.2.2.1,h.2.2.2.2.1,by have hz9:=hzb0;omega,trivial⟩))
      replace Gp:=Lib.hid (Fq.to (T:=fun _=>False) (S':=(fun b=>b≠B4∧b≠B5∧b≠PB∧b≠wr.heap.size+1∧b≠wl.heap.size∧b≠wl.heap.size+1∧True)) Gp.out (ExtBut.of_ext hx15) (fun _ _ _ h=>h) (fun b h hl=>⟨h.1,h.2.1,h.2.2.1,h.2.2.2.1,h.2.2.2.2.1,by have hz9:=hzb0;omega,trivial⟩))
      replace qL:=Lib.hid (Fq.to (T:=fun _=>False) (S':=(fun b=>b≠B4∧b≠B5∧b≠PB∧b≠wr.heap.size+1∧b≠wl.heap.size∧b≠wl.heap.size+1∧True)) qL.out (ExtBut.of_ext hx15) (fun _ _ _ h=>h) (fun b h hl=>⟨h.1,h.2.1,h.2.2.1,h.2.2.2.1,h.2.2.2.2.1,by have hz9:=hzb0;omega,trivial⟩))
      clear hzb0
      have hzb1:=hza
      clear hza
      replace bM:=bM.ext hx15
      replace bY:=bY.ext hx15
      replace bG:=bG.ext hx15
      replace bS:=bS.ext hx15
      replace bP:=bP.ext hx15
      replace bN:=bN.ext hx15
      have hF16:=Ext.trans hF14 hx15
      have ne_bA_bM : Hid (wl.heap.size+2≠B4):=Hid.mk (by have hz9:=hzb1;have h9:=bM.lt;omega)
      have ne_bM_bA : Hid (B4≠wl.heap.size+2):=Hid.mk (by have hz9:=hzb1;have h9:=bM.lt;omega)
      have ne_bA_bY : Hid (wl.heap.size+2≠B5):=Hid.mk (by have hz9:=hzb1;have h9:=bY.lt;omega)
      have ne_bY_bA : Hid (B5≠wl.heap.size+2):=Hid.mk (by have hz9:=hzb1;have h9:=bY.lt;omega)
      have ne_bA_bG : Hid (wl.heap.size+2≠PB):=Hid.mk (by have hz9:=hzb1;have h9:=bG.lt;omega)
      have ne_bG_bA : Hid (PB≠wl.heap.size+2):=Hid.mk (by have hz9:=hzb1;have h9:=bG.lt;omega)
      have ne_bA_bS : Hid (wl.heap.size+2≠wr.heap.size):=Hid.mk (by have hz9:=hzb1;have h9:=bS.lt;omega)
      have ne_bA_bP : Hid (wl.heap.size+2≠wr.heap.size+1):=Hid.mk (by have hz9:=hzb1;have h9:=bP.lt;omega)
      have ne_bP_bA : Hid (wr.heap.size+1≠wl.heap.size+2):=Hid.mk (by have hz9:=hzb1;have h9:=bP.lt;omega)
      have ne_bA_bN : Hid (wl.heap.size+2≠wl.heap.size):=Hid.mk (by have hz9:=hzb1;have h9:=bN.lt;omega)
      have ne_bN_bA : Hid (wl.heap.size≠wl.heap.size+2):=Hid.mk (by have hz9:=hzb1;have h9:=bN.lt;omega)
      have ne_bA_bQ : Hid (wl.heap.size+2≠wl.heap.size+1):=Hid.mk (by have hz9:=hzb1;have h9:=bQ.lt;omega)
      have ne_bQ_bA : Hid (wl.heap.size+1≠wl.heap.size+2):=Hid.mk (by have hz9:=hzb1;have h9:=bQ.lt;omega)
      have lowbA : Hid (wS.heap.size≤wl.heap.size+2):=Hid.mk (by have hz9:=hzb1;have h9:=Ext.size hF16;omega)
      have bA:=Box.new w15b 26 #[.slice a5 m.mem.al.length c5,.int .i64 m.mem.next]
      rw [hzb1] at bA
      have hza : (World.alloc w15b (.cells #[.slice a5 m.mem.al.length c5,.int .i64 m.mem.next] 26)).heap.size=wl.heap.size+3:=by rw [World.size_alloc,hzb1]
      have hx17 : Ext w15b (World.alloc w15b (.cells #[.slice a5 m.mem.al.length c5,.int .i64 m.mem.next] 26)):=(Ext.refl _).alloc _
      obtain ⟨w17b,hw17⟩ : ∃ z,World.alloc w15b (.cells #[.slice a5 m.mem.al.length c5,.int .i64 m.mem.next] 26)=z:=⟨_,rfl⟩
      rw [hw17] at bA hx17 hza ⊢
      clear hw17
      replace Gm:=Lib.hid (Fq.to (T:=fun _=>False) (S':=(fun b=>b≠B4∧b≠B5∧b≠PB∧b≠wr.heap.size+1∧b≠wl.heap.size∧b≠wl.heap.size+1∧b≠wl.heap.size+2∧True)) Gm.out (ExtBut.of_ext hx17) (fun _ _ _ h=>h) (fun b h hl=>⟨h.1,h.2.1,h.2.2.1,h.2.2.2.1,h.2.2.2.2.1,h.2.2.2.2.2.1,by have hz9:=hzb1;omega,trivial⟩))
      replace Gp:=Lib.hid (Fq.to (T:=fun _=>False) (S':=(fun b=>b≠B4∧b≠B5∧b≠PB∧b≠wr.heap.size+1∧b≠wl.heap.size∧b≠wl.heap.size+1∧b≠wl.heap.size+2∧True)) Gp.out (ExtBut.of_ext hx17) (fun _ _ _ h=>h) (fun b h hl=>⟨h.1,h.2.1,h.2.2.1,h.2.2.2.1,h.2.2.2.2.1,h.2.2.2.2.2.1,by have hz9:=hzb1;omega,trivial⟩))
      replace qL:=Lib.hid (Fq.to (T:=fun _=>False) (S':=(fun b=>b≠B4∧b≠B5∧b≠PB∧b≠wr.heap.size+1∧b≠wl.heap.size∧b≠wl.heap.size+1∧b≠wl.heap.size+2∧True)) qL.out (ExtBut.of_ext hx17) (fun _ _ _ h=>h) (fun b h hl=>⟨h.1,h.2.1,h.2.2.1,h.2.2.2.1,h.2.2.2.2.1,h.2.2.2.2.2.1,by have hz9:=hzb1;omega,trivial⟩))
      clear hzb1
      have hzb2:=hza
      clear hza
      replace bM:=bM.ext hx17
      replace bY:=bY.ext hx17
      replace bG:=bG.ext hx17
      replace bS:=bS.ext hx17
      replace bP:=bP.ext hx17
      replace bN:=bN.ext hx17
      replace bQ:=bQ.ext hx17
      have hF18:=Ext.trans hF16 hx17
      clear hzb2
      obtain ⟨bS_0,bS_1,bS_2,bS_3,bS_4,bS_l⟩:=bS.c5
      go_upto_block 2 with fail
      clear bS_0 bS_1 bS_2 bS_3 bS_4 bS_l
      rcases isStep.em s0 with hdef | hdef
      rotate_left
      ·as_aux_lemma =>
       obtain ⟨d0,d1,d2,d3,d4,d5,d6,d7⟩:=isStep.no hdef.out
       clear hdef
       have hi0 : (0 : Int)≤(k : Int):=by omega
       have hi1 : (k : Int) < (l.length : Int):=by have:=hkl.out;omega
       go_wp2
       go_roundw
       case rel=>exact ⟨k+1,m,⟨x1,y1,x2,y2,x3,y3⟩,a5,c5,ps,PB,hkl.out,by go_num,StepInv.again hok.out hfew.out bM bY Gm.out Gp.out (fun b h=>⟨h.1,h.2.1,h.2.2.1,trivial⟩) bG lowbG.out hpl.out hF18⟩
       case measure=>have:=hkl.out;simp [intOf];omega
      refine steps_switch hdef (fun _ _ h=>h) ?_ hp hF18 hok hfew hk30 ne_bN_bM ne_bN_bY ne_bN_bG ne_bN_bS ne_bN_bP ne_bN_bQ ne_bN_bA ne_bQ_bM ne_bQ_bY ne_bQ_bG ne_bQ_bS ne_bQ_bP ne_bQ_bN ne_bQ_bA ne_bA_bM ne_bA_bY ne_bA_bG ne_bA_bS ne_bA_bP ne_bA_bN ne_bA_bQ lowbM lowbY lowbG lowbP lowbN lowbQ lowbA bM bY bG bS bP bN bQ bA Gm Gp qL
      intro v13 v14 v16 u28 u29 u30 u31 u32 u33 u34 u35 u36 u37 u38 u39 u40 u41 u42 u43 u44 u45 u46 u47 u48 u49 u50 u51 u52 u53 u54 u55 u56 u57 u58 u59 u60 u61 u62 u63 u64 u65 u66 u67 u68 u69 u70 u71 u72 u73 u74 u75 u76 u77 u78 u79 u80 u81 u82 u83 u84 u85 u86 u87 u88 u89 u90 u91 u92 u93 u94 u95 u96 u97 u98 u99 u100 u101 u102 u103 u104 u105 u106 u107 u108 u109 u110 u111 u112 u113 u114 u115 u116 u117 u118 u119 u120 u121 u122 u123 u124 u125 u126 u127 u128 u129 u130 u131 u132 u133 u134 u135 u136 u137 u138 u139 u140 u141 u142 u143 u144 u145 u146 u147 u148 u149 u150 u151 u152 u153 u154 u155 u156 u157 u158 u159 u160 u161 u162 u163 u164 u165 u166 u167 u168 u169 u170 u171 u172 u173 u174 u175 u176 u177 u178 u179 u180 u181 u182 u183 u184 u185 u186 u187 u188 u189 u190 u191 u192 u193 u194 u195 u196 u197 u198 u199 u200 u201 u202 u203 u204 u205 u206 u207 u208 u209 u210 u211 u212 u213 u214 u215 u216 u217 u218 u219 u220 u221 u222 u223 u224 u225 u226 u227 u228 u229 u230 u231 u232 u233 u234 u235 u236 u237 u238 u239 u240 u241 u242 u243 u244 u245 wc hcut
      clear hdef
      obtain ⟨x,⟨qa,qo,qt⟩,why,e,f,am,⟨b1,d1,b2,d2,b3,d3⟩,a6,c6,rfl,rfl,rfl,hst,bN,bQ,bA,Gx,Gz,hXc⟩:=hcut
      dsimp only at bN bQ
      obtain ⟨wz,hwz⟩ : ∃ z,wc=z:=⟨_,rfl⟩
      rw [hwz] at bN bQ bA Gx Gz hXc ⊢
      clear hwz
      replace Gx:=Lib.hid Gx;replace Gz:=Lib.hid Gz;replace hst:=Lib.hid hst
      replace bM:=Box.but bM hXc (fun h=>by rcases h with h | h | h | h;exact ne_bN_bM.out h.symm;exact ne_bQ_bM.out h.symm;exact ne_bA_bM.out h.symm;exact h)
      replace bY:=Box.but bY hXc (fun h=>by rcases h with h | h | h | h;exact ne_bN_bY.out h.symm;exact ne_bQ_bY.out h.symm;exact ne_bA_bY.out h.symm;exact h)
      replace bG:=Pvb.but bG hXc (fun h=>by rcases h with h | h | h | h;exact ne_bN_bG.out h.symm;exact ne_bQ_bG.out h.symm;exact ne_bA_bG.out h.symm;exact h)
      replace bS:=Box.but bS hXc (fun h=>by rcases h with h | h | h | h;exact ne_bN_bS.out h.symm;exact ne_bQ_bS.out h.symm;exact ne_bA_bS.out h.symm;exact h)
      replace bP:=Box.but bP hXc (fun h=>by rcases h with h | h | h | h;exact ne_bN_bP.out h.symm;exact ne_bQ_bP.out h.symm;exact ne_bA_bP.out h.symm;exact h)
      replace Gm:=Lib.hid (Fq.but Gm.out hXc (fun b h _ h2=>by rcases h2 with h2 | h2 | h2 | h2;exact h.2.2.2.2.1 h2;exact h.2.2.2.2.2.1 h2;exact h.2.2.2.2.2.2.1 h2;exact h2))
      replace Gp:=Lib.hid (Fq.but Gp.out hXc (fun b h _ h2=>by rcases h2 with h2 | h2 | h2 | h2;exact h.2.2.2.2.1 h2;exact h.2.2.2.2.2.1 h2;exact h.2.2.2.2.2.2.1 h2;exact h2))
      replace qL:=Lib.hid (Fq.but qL.out hXc (fun b h _ h2=>by rcases h2 with h2 | h2 | h2 | h2;exact h.2.2.2.2.1 h2;exact h.2.2.2.2.2.1 h2;exact h.2.2.2.2.2.2.1 h2;exact h2))
      have hF19:=ExtBut.ext hF18 hXc (fun b h=>by rcases h with h | h | h | h;(rw [h];exact lowbN.out);(rw [h];exact lowbQ.out);(rw [h];exact lowbA.out);exact h.elim)
      clear hXc
      go_upto_region 43 with fail
      refine steps_after ?_ ?_ (fun _ _ h=>h) ?_ hF19 hok hfew hk30 hpl hst.out ne_bM_bY ne_bM_bS ne_bM_bP ne_bM_bN ne_bM_bQ ne_bM_bA ne_bY_bM ne_bY_bS ne_bY_bP ne_bY_bN ne_bY_bQ ne_bY_bA ne_bG_bS ne_bG_bP ne_bG_bN ne_bG_bQ ne_bG_bA ne_bP_bM ne_bP_bY ne_bP_bG ne_bP_bS ne_bP_bN ne_bP_bQ ne_bP_bA ne_bN_bM ne_bN_bY ne_bN_bG ne_bN_bS ne_bN_bP ne_bN_bQ ne_bN_bA ne_bQ_bM ne_bQ_bY ne_bQ_bG ne_bQ_bS ne_bQ_bP ne_bQ_bN ne_bQ_bA ne_bA_bM ne_bA_bY ne_bA_bG ne_bA_bS ne_bA_bP ne_bA_bN ne_bA_bQ lowbM lowbY lowbG lowbP lowbN lowbQ lowbA bM bY bG bS bP bN bQ bA Gm Gp qL Gx Gz
      ·assumption
      ·assumption
      intro pv u2 u8 u9 u10 u11 u12 u13 u14 u15 u16 u28 u29 u30 u31 u32 u33 u34 u35 u36 u37 u38 u39 u40 u41 u42 u43 u44 u45 u46 u47 u48 u49 u50 u51 u52 u53 u54 u55 u56 u57 u58 u59 u60 u61 u62 u63 u64 u65 u66 u67 u68 u69 u70 u71 u72 u73 u74 u75 u76 u77 u78 u79 u80 u81 u82 u83 u84 u85 u86 u87 u88 u89 u90 u91 u92 u93 u94 u95 u96 u97 u98 u99 u100 u101 u102 u103 u104 u105 u106 u107 u108 u109 u110 u111 u112 u113 u114 u115 u116 u117 u118 u119 u120 u121 u122 u123 u124 u125 u126 u127 u128 u129 u130 u131 u132 u133 u134 u135 u136 u137 u138 u139 u140 u141 u142 u143 u144 u145 u146 u147 u148 u149 u150 u151 u152 u153 u154 u155 u156 u157 u158 u159 u160 u161 u162 u163 u164 u165 u166 u167 u168 u169 u170 u171 u172 u173 u174 u175 u176 u177 u178 u179 u180 u181 u182 u183 u184 u185 u186 u187 u188 u189 u190 u191 u192 u193 u194 u195 u196 u197 u198 u199 u200 u201 u202 u203 u204 u205 u206 u207 u208 u209 u210 u211 u212 u213 u214 u215 u216 u217 u218 u219 u220 u221 u222 u223 u224 u225 u226 u227 u228 u229 u230 u231 u232 u233 u234 u235 u236 u237 u238 u239 u240 u241 u242 u243 u244 u245 wx hS
      obtain ⟨m9,a9,a59,c59,ps9,PB9,hS⟩:=hS
      replace hS:=Lib.hid hS
      have hi0 : (0 : Int)≤(k : Int):=by omega
      have hi1 : (k : Int) < (l.length : Int):=by have:=hkl.out;omega
      go_wp2
      go_roundw
      case rel=>exact ⟨k+1,m9,a9,a59,c59,ps9,PB9,hkl.out,by go_num,hS.out⟩
      case measure=>have:=hkl.out;simp [intOf];omega
set_option maxRecDepth 100000 in
theorem monitorSteps_contract (H : Type) (enc : TypeId × Value→H) (W : World) (base : Nat) (args : Array Value) (ds gs : List (DataW H)) (before : List MemPlace)
  (hval0 : ∀ (j : Nat) t v,Tryz.f3.params[j]? = some t→args[j]? = some v→Value.okWide Tryz.prog W .any base t v)
  (hW : DataW.Whole enc Tryz.prog Tryz.f3.params.toList Rows.monitorStepsSpec.vars false W args.toList ds gs before) (hL : laidMetH Tryz.prog Rows.monitorStepsRow.laid W) :
  Calls Tryz.prog 3 args W fun e W' => ∃ v,e = .returned v∧Rows.monitorStepsSpec.post enc Tryz.prog Tryz.f3 false true false false W args v W':=by
 have hval : ∀ (j : Nat) t v,Tryz.f3.params[j]? = some t→args[j]? = some v→Value.okWide Tryz.prog W .any base t v:=hval0
 have hW':=hW
 obtain ⟨p,q,hA0,hV,rfl,hfz,hnd⟩:=hW
 have hA : DataW.TrodAll enc Tryz.prog W 0 (fun _=>true) true Tryz.f3.params.toList args.toList ds p:=hA0
 rw [Tryz.params3] at hA hval
 obtain ⟨v0,vs0,d0,ds0,p0,q0,hargs,rfl,rfl,h0,r0⟩:=trodAll_cons hA
 obtain ⟨rfl,rfl,rfl⟩:=trodAll_nil r0
 obtain rfl : args=#[v0]:=by cases args;simp_all
 obtain ⟨x0,k0,wf0⟩:=open_rows5 Tryz.underlying22 (hval 0 22 v0 rfl rfl) h0
 refine (monitorSteps_walk (perms_of_laid hL) k0).mono fun e W' ⟨he,hb⟩ => ?_
 subst he
 exact ⟨_,rfl,post_law TryzlaidOut (tb:=4) rfl Tryz.underlying4 (by kernel_rfl) rfl (fun ds hd=>match ds,hd with | [a0],_=>rfl) hW' hb⟩
theorem monitorSteps_met (os : Os) : laidMet Tryz.prog Rows.monitorStepsRow.laid ((doorWorld os).forCall (fun _ _=>0) ⟨#[],#[.slice none 0 0],[]⟩).memory :=
 laidMet_of_run' 8 (by kernel_rfl) (by kernel_rfl)
theorem monitorSteps_reads (os : Os) {H : Type} (enc : TypeId × Value→H) : ∃ places,DataW.whole enc Tryz.prog ((doorWorld os).forCall (fun _ _=>0) ⟨#[],#[.slice none 0 0],[]⟩).memory Tryz.f3.params.toList Rows.monitorStepsSpec.vars false (#[.slice none 0 0] : Array Value).toList 8=some ([.nil],[],places) :=
 ⟨[],by kernel_rfl⟩
set_option maxRecDepth 100000 in
theorem monitorSteps_lifted (os : Os) (started : os.Started) (H : Type) (enc : TypeId × Value→H) (F : Stop.Interp) :
  ReturnsInHanded {} Tryz.checked os 3 .any ((OpenSpec.ofChange Rows.monitorStepsSpec).preRow enc Tryz.prog Tryz.f3 Rows.monitorStepsRow.domain false Rows.monitorStepsRow.laid) (((OpenSpec.ofChange Rows.monitorStepsSpec).at F).post enc Tryz.prog Tryz.f3 false true false false):=by
 obtain ⟨places,hx⟩:=monitorSteps_reads os enc
 refine returnsInHanded_of_row (C:=Tryz.checked) (s:=OpenSpec.ofChange Rows.monitorStepsSpec) Tryzown started (by kernel_rfl) Tryz.func3
  (witness_row_at (enc:=enc) (C:=Tryz.checked) false (doorWorld os) #[.slice none 0 0] rfl (by kernel_rfl) (by kernel_rfl) (by kernel_rfl)
   (OpenSpec.preRow_of_cond 8 hx (by kernel_rfl) (fun k hk=>by cases hk) (by kernel_rfl) (monitorSteps_met os))) ?_
 intro W base args ds gs before hval hW _ _ _ hL _ _
 exact monitorSteps_contract H enc W base args ds gs before hval hW hL
theorem monitorSteps_said : Rows.MonitorStepsSaid :=
 OpenClaim.holds_of_cond 3 Tryz.f3 rfl rfl rfl rfl rfl rfl rfl ⟨rfl,rfl,rfl,rfl,rfl⟩ rfl rfl rfl rfl rfl (by kernel_rfl) Tryz.func3 (by kernel_rfl)
  (of_decide_eq_true (by kernel_rfl)) (by unfold Func.isWrapper;first | (rw [if_pos (by decide +kernel)];kernel_rfl) | (rw [if_neg (by decide +kernel)];exact ⟨rfl,rfl⟩))
  (fun os started H enc _ F=>by rw [OpenClaim.pre_eq_preRow];exact monitorSteps_lifted os started H enc F)
theorem monitorSteps_plain (f : FuncId) (fn : Func) (hf : Tryz.pinned.checked.prog.funcNamed "pawnshop/pawnshoplaw35.MonitorSteps" = some f) (hfn : Tryz.pinned.checked.prog.funcs[f]? = some fn) :
  false=Tryz.pinned.checked.prog.looks [] ∧ ∀ (j : Nat) t,fn.params[j]? = some t→Tryz.pinned.checked.prog.wantsStandIn t=false:=by
 obtain rfl : f = 3 := Option.some.inj ((show Tryz.prog.funcNamed "pawnshop/pawnshoplaw35.MonitorSteps" = some 3 by kernel_rfl).symm.trans hf) |>.symm
 obtain rfl : fn=Tryz.f3:=(Option.some.inj (Tryz.func3.symm.trans hfn)).symm
 refine ⟨by kernel_rfl,fun j t ht => ?_⟩
 have hm : t ∈ Tryz.f3.params.toList:=by simpa using Array.mem_of_getElem? ht
 have hall : (Tryz.f3.params.toList.all fun u => !Tryz.prog.wantsStandIn u)=true:=by kernel_rfl
 exact (show Tryz.prog.wantsStandIn t=false by simpa using List.all_eq_true.1 hall t hm)
theorem monitorSteps_card : Rows.MonitorStepsCardSaid :=
 Claim7.holds_tied_plain_at .later [] _ _ _ _ monitorSteps_said (fun _ h=>by cases h) (by kernel_rfl) (fun _ h=>by cases h) monitorSteps_row_tie rfl ⟨rfl,rfl⟩ (by kernel_rfl) rfl monitorSteps_plain (by kernel_rfl)
end Go.Proofs.YtoanoodfacmieaaGreatDoor
